/- Plain facts on whole numbers, bits, lists and rounds, for this seat's proofs. -/
import Derived.Test.YtockngphfpedkaaDoorWMore
import Derived.Laws.BitsLemmas
namespace Go.Proofs.YtockngphfpedkaaDoor.B
open Go.RowKit Go.Proofs.YtockngphfpedkaaDoorW.PrintWords
set_option linter.unusedVariables false
set_option linter.unusedSimpArgs false

/-! ### whole numbers -/
theorem w64 {n : Int} (h0 : -9223372036854775808 ≤ n) (h1 : n ≤ 9223372036854775807) : wrap64 n = n := by unfold wrap64; omega
theorem u64 {n : Int} (h0 : 0 ≤ n) (h1 : n ≤ 9223372036854775807) : IntKind.u64.wrap n = n := by
  simp only [IntKind.wrap, IntKind.bits, IntKind.signed]
  simp
  omega
theorem i64 {n : Int} (h0 : -9223372036854775808 ≤ n) (h1 : n ≤ 9223372036854775807) : IntKind.i64.wrap n = n := by
  rw [IntKind.wrap_i64]; omega
theorem wf64 {n : Int} : (Lit.int .i64 n).wf = true ↔ -9223372036854775808 ≤ n ∧ n ≤ 9223372036854775807 := by
  simp [Lit.wf, IntKind.min, IntKind.max, IntKind.signed, IntKind.bits]
theorem tmod_pos {a b : Int} (h : 0 ≤ a) : Int.tmod a b = a % b := Int.tmod_eq_emod_of_nonneg h
theorem tdiv_pos {a b : Int} (h : 0 ≤ a) : Int.tdiv a b = a / b := Int.tdiv_eq_ediv_of_nonneg h

/-! ### rounds -/
theorem evc {α : Type} {g f : Nat → Option α} {r : α} (h : ∀ k, g k = f k) (e : Ev f r) : Ev g r := Ev.congr h e
theorem ev_eq {α : Type} {g : Nat → Option α} {r : α} (h : ∀ k, g k = some r) : Ev g r := ⟨0, fun k _ => h k⟩
theorem ev_some {α : Type} {r s : α} (h : r = s) : Ev (fun _ => some r) s := ⟨0, fun _ _ => by rw [h]⟩
theorem ev_uniq {α : Type} {g : Nat → Option α} {r s : α} (h : Ev g r) (e : Ev g s) : r = s := by
  obtain ⟨K, hK⟩ := h
  obtain ⟨L, hL⟩ := e
  have a := hK (K + L) (by omega)
  have b := hL (K + L) (by omega)
  rw [a] at b
  exact Option.some.inj b

theorem dec_congr {p q : Prop} {a : Decidable p} {b : Decidable q} (h : p ↔ q) : @decide p a = @decide q b := by
  by_cases hp : p
  · rw [decide_eq_true hp, decide_eq_true (h.1 hp)]
  · rw [decide_eq_false hp, decide_eq_false (fun hq => hp (h.2 hq))]
theorem pair_dec {β : Type} {p q : Prop} {a : Decidable p} {b : Decidable q} {c : β} (h : p ↔ q) : (@decide p a, c) = (@decide q b, c) := by rw [dec_congr h]
/-- The same answer, told otherwise. -/
theorem ev_cast {α : Type} {g : Nat → Option α} {r s : α} (h : Ev g r) (e : r = s) : Ev g s := e ▸ h

/-! ### bits -/
theorem ofInt_and1 (x : Int) : Go.bits .and .i64 x 1 = x % 2 := by
  have hm : (BitVec.ofInt 64 x &&& BitVec.ofInt 64 1).toNat = (BitVec.ofInt 64 x).toNat % 2 := by
    rw [BitVec.toNat_and]
    have : (BitVec.ofInt 64 1).toNat = 1 := by decide
    rw [this, Nat.and_one_is_mod]
  have hx : ((BitVec.ofInt 64 x).toNat : Int) = x % 18446744073709551616 := by
    rw [BitVec.toNat_ofInt]
    have : (0 : Int) ≤ x % ((2 ^ 64 : Nat) : Int) := by omega
    omega
  have : Go.bits .and .i64 x 1 = IntKind.i64.wrap (((BitVec.ofInt 64 x &&& BitVec.ofInt 64 1).toNat : Nat) : Int) := rfl
  rw [this, hm, i64 (by omega) (by omega)]
  omega

theorem wraps63 (n : Int) (h0 : 0 ≤ n) (h1 : n < 2 ^ 63) : IntKind.i64.wrap n = n := i64 (by omega) (by omega)
theorem bit_or (a b : Nat) (ha : a < 2 ^ 63) (hb : b < 2 ^ 63) : Go.bits .or .i64 a b = ((a ||| b : Nat) : Int) :=
  (Go.bits_nat .i64 63 (by decide) wraps63 a b ha hb).2
theorem bit_and (a b : Nat) (ha : a < 2 ^ 63) (hb : b < 2 ^ 63) : Go.bits .and .i64 a b = ((a &&& b : Nat) : Int) :=
  (Go.bits_nat .i64 63 (by decide) wraps63 a b ha hb).1
theorem bit_xor (a b : Nat) (ha : a < 2 ^ 63) (hb : b < 2 ^ 63) : Go.bits .xor .i64 a b = ((a ^^^ b : Nat) : Int) := by
  have h := Nat.xor_lt_two_pow ha hb
  have ha' : a % 2 ^ 64 = a := Nat.mod_eq_of_lt (by omega)
  have hb' : b % 2 ^ 64 = b := Nat.mod_eq_of_lt (by omega)
  have : Go.bits .xor .i64 a b = IntKind.i64.wrap (((BitVec.ofInt 64 a ^^^ BitVec.ofInt 64 b).toNat : Nat) : Int) := rfl
  rw [this, BitVec.ofInt_natCast, BitVec.ofInt_natCast, BitVec.toNat_xor, BitVec.toNat_ofNat, BitVec.toNat_ofNat, ha', hb']
  exact i64 (by omega) (by omega)
/-- a &^ b, digit by digit. -/
theorem bit_andNot (a b : Nat) (ha : a < 2 ^ 63) (hb : b < 2 ^ 63) :
    ∃ c : Nat, Go.bits .andNot .i64 a b = (c : Int) ∧ ∀ i, c.testBit i = (a.testBit i && !b.testBit i) := by
  refine ⟨(BitVec.ofNat 64 a &&& ~~~ BitVec.ofNat 64 b).toNat, ?_, fun i => ?_⟩
  · have hle : (BitVec.ofNat 64 a &&& ~~~ BitVec.ofNat 64 b).toNat ≤ a := by
      rw [BitVec.toNat_and, BitVec.toNat_ofNat, Nat.mod_eq_of_lt (show a < 2 ^ 64 by omega)]
      exact Nat.and_le_left
    have : Go.bits .andNot .i64 a b = IntKind.i64.wrap (((BitVec.ofInt 64 a &&& ~~~ BitVec.ofInt 64 b).toNat : Nat) : Int) := rfl
    rw [this, BitVec.ofInt_natCast, BitVec.ofInt_natCast]
    exact i64 (by omega) (by omega)
  · rw [← BitVec.getLsbD, BitVec.getLsbD_and, BitVec.getLsbD_not, BitVec.getLsbD_ofNat, BitVec.getLsbD_ofNat]
    by_cases h : i < 64
    · simp [h]
    · have : a.testBit i = false := Nat.testBit_lt_two_pow (Nat.lt_of_lt_of_le ha (Nat.pow_le_pow_right (by decide) (by omega)))
      simp [h, this]
theorem shl_one {n : Int} (h0 : 0 ≤ n) (h1 : n ≤ 62) : shl .i64 1 n = ((2 ^ n.toNat : Nat) : Int) := by
  obtain ⟨m, rfl⟩ := Int.eq_ofNat_of_zero_le h0
  have hm : m ≤ 62 := by omega
  have hp : 2 ^ m ≤ 2 ^ 62 := Nat.pow_le_pow_right (by decide) hm
  have : min m 64 = m := by omega
  unfold shl
  simp only [Int.toNat_natCast, IntKind.bits, this, Int.one_mul]
  have hc : ((2 : Int) ^ m) = ((2 ^ m : Nat) : Int) := by simp
  rw [hc]
  generalize 2 ^ m = p at *
  exact i64 (by omega) (by omega)
theorem shr_small' {x n : Int} (h0 : 0 ≤ n) (h1 : n ≤ 64) : shr .i64 x n = x / ((2 ^ n.toNat : Nat) : Int) := by
  have : min n.toNat 64 = n.toNat := by omega
  unfold shr
  simp only [IntKind.bits, this]
  simp
/-- The digit of r at 2^v. -/
def dig (r : Int) (v : Nat) : Bool := r / ((2 ^ v : Nat) : Int) % 2 == 1
theorem dig_nat (a v : Nat) : dig (a : Int) v = a.testBit v := by
  unfold dig
  rw [Nat.testBit_eq_decide_div_mod_eq]
  have : ((a : Int) / ((2 ^ v : Nat) : Int) % 2) = ((a / 2 ^ v % 2 : Nat) : Int) := by simp
  rw [this]
  rcases Nat.mod_two_eq_zero_or_one (a / 2 ^ v) with h | h <;> rw [h] <;> rfl
theorem bit_dig {r v : Int} (h0 : 0 ≤ v) (h1 : v ≤ 64) : (Go.bits .and .i64 (shr .i64 r v) 1 == 1) = dig r v.toNat := by
  rw [ofInt_and1, shr_small' h0 h1]; rfl
theorem bit_val {r v : Int} (h0 : 0 ≤ v) (h1 : v ≤ 64) : Go.bits .and .i64 (shr .i64 r v) 1 = if dig r v.toNat then 1 else 0 := by
  rw [ofInt_and1, shr_small' h0 h1]
  unfold dig
  by_cases h : r / ((2 ^ v.toNat : Nat) : Int) % 2 = 1
  · simp only [h]; rfl
  · have : r / ((2 ^ v.toNat : Nat) : Int) % 2 = 0 := by omega
    simp only [this]; rfl

/-! ### lists -/
theorem rd_nat (l : List Int) (i : Nat) : rd l (i : Int) = l.getD i 0 := by simp [rd]
theorem rd_get (l : List Int) (i : Nat) (h : i < l.length) : rd l (i : Int) = l[i] := by rw [rd_nat]; simp [h]
theorem rd_mem {l : List Int} {i : Int} (h0 : 0 ≤ i) (h1 : i < l.length) : rd l i ∈ l := by
  obtain ⟨m, rfl⟩ := Int.eq_ofNat_of_zero_le h0
  rw [rd_get l m (by omega)]
  exact List.getElem_mem _
theorem rd_set_self (l : List Int) (i : Nat) (h : i < l.length) (x : Int) : rd (l.set i x) (i : Int) = x := by
  rw [rd_nat]; simp [h]
theorem rd_set_ne (l : List Int) (i j : Nat) (h : i ≠ j) (x : Int) : rd (l.set i x) (j : Int) = rd l (j : Int) := by
  rw [rd_nat, rd_nat]; simp [h]
theorem list_ext_rd {l m : List Int} (h : l.length = m.length) (e : ∀ i : Nat, i < l.length → rd l i = rd m i) : l = m := by
  refine List.ext_getElem h fun i h1 h2 => ?_
  have := e i h1
  rwa [rd_get _ _ h1, rd_get _ _ h2] at this
/-- A scan from i on: one step. -/
theorem scan_step {P : Nat → Prop} {i n : Nat} (h : P i) : (∀ j, i ≤ j → j < n → P j) ↔ ∀ j, i + 1 ≤ j → j < n → P j :=
  ⟨fun a j hj hn => a j (by omega) hn, fun a j hj hn => by
    by_cases e : j = i
    · subst e; exact h
    · exact a j (by omega) hn⟩
theorem scan_fail {P : Nat → Prop} {i n : Nat} (h : ¬ P i) (hi : i < n) : ¬ ∀ j, i ≤ j → j < n → P j := fun a => h (a i (Nat.le_refl _) hi)
theorem scan_end {P : Nat → Prop} {i n : Nat} (h : n ≤ i) : ∀ j, i ≤ j → j < n → P j := fun j hj hn => by omega
theorem mod_ne {n i k : Int} (hi : 0 ≤ i) (hn : i < n) (hk : 1 ≤ k) (hk1 : k < n) : i ≠ (i + k) % n := by
  intro e
  by_cases c : i + k < n
  · rw [Int.emod_eq_of_lt (by omega) c] at e; omega
  · have h : (i + k) % n = i + k - n := by
      rw [← Int.sub_emod_right]; exact Int.emod_eq_of_lt (by omega) (by omega)
    omega
end Go.Proofs.YtockngphfpedkaaDoor.B
