/- What the functions that FnExactLiftParts reaches compute. -/
import Derived.Test.YtdieobmhmkdjmaaDoorXFnExactLiftPartsx0
import Derived.Test.YtdieobmhmkdjmaaDoorXFnExactLiftPartsx1
import Derived.Test.YtdieobmhmkdjmaaDoorXFnExactLiftPartsx2
import Derived.Test.YtdieobmhmkdjmaaDoorXFnExactLiftPartsx3
import Derived.Test.YtdieobmhmkdjmaaDoorXFnExactLiftPartsx4
import Derived.Test.YtdieobmhmkdjmaaDoorXFnExactLiftPartsx5
import Derived.Test.YtdieobmhmkdjmaaDoorXFnExactLiftPartsx6
import Derived.Test.YtdieobmhmkdjmaaDoorXFnExactLiftPartsx7
import Derived.Test.YtdieobmhmkdjmaaDoorXFnExactLiftPartsx8
import Derived.Test.YtdieobmhmkdjmaaDoorGr
namespace Go.Proofs.YtdieobmhmkdjmaaDoor.XFnExactLiftParts
open Go.RowKit Go.Proofs.YtdieobmhmkdjmaaDoorW.PrintWords Go.Proofs.YtdieobmhmkdjmaaDoorW.PrintLast Go.Proofs.YtdieobmhmkdjmaaDoor.B
open Classical
set_option linter.unusedVariables false
set_option linter.unusedSimpArgs false
set_option linter.unusedSectionVars false

theorem laws_szArcS.sp {l : List S56} {a : Int} (h : l.length ≤ 9223372036854775807) (ha : a ≤ 1048576) (ha0 : 0 ≤ a) :
    (laws_szArcS.f l a = some (-1) ∧ a < l.length) ∨ (laws_szArcS.f l a = some (a - l.length) ∧ (l.length : Int) ≤ a) := by
  unfold laws_szArcS.f
  rw [w64 (by omega) (by omega)]
  by_cases c : a - (l.length : Int) < 0
  · rw [if_pos c]; exact .inl ⟨rfl, by omega⟩
  · rw [if_neg c]; exact .inr ⟨rfl, by omega⟩

theorem laws_szBase.sp {n m : Int} {l : List S56} {a : Int} (h : l.length ≤ 9223372036854775807) (ha : a ≤ 1048576) (ha0 : 0 ≤ a) :
    (laws_szBase.f n m l a = some (-1) ∧ a < l.length) ∨ (laws_szBase.f n m l a = some (a - l.length) ∧ (l.length : Int) ≤ a) := by
  unfold laws_szBase.f
  rcases laws_szArcS.sp h ha ha0 with ⟨e, c⟩ | ⟨e, c⟩
  · rw [e]; exact .inl ⟨by simp, c⟩
  · rw [e]
    refine .inr ⟨?_, c⟩
    simp only [Option.bind_some]
    rw [if_neg (by omega)]

def toA (x : S56) : S51 := ⟨x.f0, x.f1, x.f2⟩
theorem rd_lArc {l : List S56} {i : Nat} (h : i < l.length) : rd_T56 l (i : Int) = l[i] := by simp [rd_T56, h]
theorem rd_iArc {l : List S51} {i : Nat} (h : i < l.length) : rd_T51 l (i : Int) = l[i] := by simp [rd_T51, h]
theorem laws_toArcS.ev_l (l : List S56) (hl : l.length ≤ 281474976710656) (d : Nat) : ∀ (i : Nat) (acc : List S51), acc.length = l.length → (∀ j, j < i → acc[j]? = (l.map toA)[j]?) → i + d = l.length →
    Ev (fun k => laws_toArcS.l0 k l acc (i : Int)) (l.map toA) := by
  induction d with
  | zero =>
    intro i acc h1 h2 h3
    refine Ev.step (fun k => laws_toArcS.l0.eq_2 ..) ?_
    simp only [if_neg (show ¬ ((i : Int) < (l.length : Int)) by omega)]
    refine ev_some (List.ext_getElem? fun j => ?_)
    by_cases hj : j < i
    · exact h2 j hj
    · rw [List.getElem?_eq_none (by omega), List.getElem?_eq_none (by rw [List.length_map]; omega)]
  | succ d ih =>
    intro i acc h1 h2 h3
    refine Ev.step (fun k => laws_toArcS.l0.eq_2 ..) ?_
    unfold laws_toArc.f
    simp only [if_pos (show (i : Int) < (l.length : Int) by omega), if_pos (show (0 : Int) ≤ (i : Int) by omega), if_pos (show (i : Int) < (acc.length : Int) by omega), Option.bind_some]
    rw [w64 (by omega) (by omega)]
    refine ih (i + 1) _ (by simp [h1]) (fun j hj => ?_) (by omega)
    rw [Int.toNat_natCast]
    by_cases e : i = j
    · subst e
      rw [List.getElem?_set_self (by omega), rd_lArc (by omega), List.getElem?_map, List.getElem?_eq_getElem (by omega)]
      rfl
    · rw [List.getElem?_set_ne e]
      exact h2 j (by omega)
theorem laws_toArcS.ev (l : List S56) (hl : l.length ≤ 11728124029610) : Ev (fun k => laws_toArcS.f k l) (l.map toA) := by
  unfold laws_toArcS.f
  simp only [if_pos (show (0 : Int) ≤ (l.length : Int) by omega), if_pos (show ((l.length : Int)).toNat ≤ 11728124029610 by omega)]
  exact laws_toArcS.ev_l l (by omega) l.length 0 _ (by simp) (fun j hj => by omega) (by omega)

theorem laws_toBase.ev (n m : Int) (l : List S56) (hl : l.length ≤ 11728124029610) : Ev (fun k => laws_toBase.f k n m l) (n, m, l.map toA) := by
  unfold laws_toBase.f
  exact Ev.bind (laws_toArcS.ev l hl) (Ev.now _)

theorem laws_eqArcS.ev_l (l : List S51) (hl : l.length ≤ 281474976710656) (d : Nat) : ∀ (i : Nat), i + d = l.length → Ev (fun k => laws_eqArcS.l0 k l l (i : Int)) true := by
  induction d with
  | zero =>
    intro i h3
    refine Ev.step (fun k => laws_eqArcS.l0.eq_2 ..) ?_
    simp only [if_neg (show ¬ ((i : Int) < (l.length : Int)) by omega)]
    exact Ev.now _
  | succ d ih =>
    intro i h3
    refine Ev.step (fun k => laws_eqArcS.l0.eq_2 ..) ?_
    unfold laws_eqArc.f
    simp only [if_pos (show (i : Int) < (l.length : Int) by omega), if_pos (show (0 : Int) ≤ (i : Int) by omega), if_true, Option.bind_some]
    rw [w64 (by omega) (by omega)]
    exact ih (i + 1) (by omega)
theorem laws_eqArcS.ev (l : List S51) (hl : l.length ≤ 281474976710656) : Ev (fun k => laws_eqArcS.f k l l) true := by
  unfold laws_eqArcS.f
  simp only [if_true]
  exact laws_eqArcS.ev_l l hl l.length 0 (by omega)

theorem laws_eqBase.ev (n m : Int) (l : List S51) (hl : l.length ≤ 281474976710656) : Ev (fun k => laws_eqBase.f k n m l n m l) true := by
  unfold laws_eqBase.f
  simp only [if_true]
  exact Ev.bind (laws_eqArcS.ev l hl) (Ev.now _)

theorem spec_l01In.sp (a b c : Int) : spec_l01In.f a b c = some (decide (b ≤ a ∧ a ≤ c)) := by
  unfold spec_l01In.f
  by_cases h : b ≤ a <;> simp [h]

def ArcOK (n m : Int) (x : S51) : Prop := 0 ≤ x.f0 ∧ x.f0 < n ∧ 0 ≤ x.f1 ∧ x.f1 < n ∧ 0 ≤ x.f2 ∧ x.f2 < m
def BaseOK (n m : Int) (l : List S51) : Prop := 1 ≤ n ∧ n ≤ 10 ∧ 1 ≤ m ∧ m ≤ 62 ∧ n * m ≤ 62 ∧ l.length ≤ 16 ∧ ∀ j : Nat, 0 ≤ j → j < l.length → ArcOK n m (rd_T51 l (j : Int))
theorem base_mul {n m : Int} (h : 1 ≤ n ∧ n ≤ 10) (h' : 1 ≤ m ∧ m ≤ 62) : 0 ≤ n * m ∧ n * m ≤ 620 :=
  ⟨Int.mul_nonneg (by omega) (by omega), Int.mul_le_mul h.2 h'.2 (by omega) (by omega)⟩
theorem spec_l03Is.ev_l (n m : Int) (l : List S51) (h1 : 1 ≤ n ∧ n ≤ 10) (h2 : 1 ≤ m ∧ m ≤ 62) (hm : n * m ≤ 62) (hl : l.length ≤ 16) (d : Nat) : ∀ i : Nat, i + d = l.length → ((∀ j : Nat, i ≤ j → j < l.length → ArcOK n m (rd_T51 l (j : Int))) ↔ BaseOK n m l) →
    Ev (fun q => spec_l03Is.l0 q (i : Int) n m l) (decide (BaseOK n m l)) := by
  induction d with
  | zero =>
    intro i h hj
    refine Ev.step (fun k => spec_l03Is.l0.eq_2 ..) ?_
    simp only [if_neg (show ¬ ((i : Int) < (l.length : Int)) by omega)]
    rw [decide_eq_true (hj.1 (scan_end (by omega)))]
    exact Ev.now _
  | succ d ih =>
    intro i h hj
    refine Ev.step (fun k => spec_l03Is.l0.eq_2 ..) ?_
    rw [w64 (n := n - 1) (by omega) (by omega), w64 (n := m - 1) (by omega) (by omega), w64 (by omega) (by omega)]
    simp only [if_pos (show (i : Int) < (l.length : Int) by omega), if_pos (show (0 : Int) ≤ (i : Int) by omega), spec_l01In.sp, Option.bind_some, decide_eq_true_eq]
    have fl : ¬ ArcOK n m (rd_T51 l (i : Int)) → decide (BaseOK n m l) = false := fun a => decide_eq_false fun b => scan_fail (P := fun j : Nat => ArcOK n m (rd_T51 l (j : Int))) (i := i) a (by omega) (hj.2 b)
    generalize hx : rd_T51 l (i : Int) = x at fl
    by_cases c0 : 0 ≤ x.f0 ∧ x.f0 ≤ n - 1
    · simp only [if_pos c0]
      by_cases c1 : 0 ≤ x.f1 ∧ x.f1 ≤ n - 1
      · simp only [if_pos c1]
        by_cases c2 : 0 ≤ x.f2 ∧ x.f2 ≤ m - 1
        · simp only [if_pos c2]
          refine ih (i + 1) (by omega) ((scan_step (P := fun j : Nat => ArcOK n m (rd_T51 l (j : Int))) (i := i) ?_).symm.trans hj)
          rw [hx]
          exact ⟨by omega, by omega, by omega, by omega, by omega, by omega⟩
        · simp only [if_neg c2]
          rw [fl (fun a => c2 ⟨a.2.2.2.2.1, by have := a.2.2.2.2.2; omega⟩)]
          exact Ev.now _
      · simp only [if_neg c1]
        rw [fl (fun a => c1 ⟨a.2.2.1, by have := a.2.2.2.1; omega⟩)]
        exact Ev.now _
    · simp only [if_neg c0]
      rw [fl (fun a => c0 ⟨a.1, by have := a.2.1; omega⟩)]
      exact Ev.now _
theorem spec_l03Is.ev (n m : Int) (l : List S51) : Ev (fun q => spec_l03Is.f q n m l) (decide (BaseOK n m l)) := by
  unfold spec_l03Is.f
  simp only [spec_l01In.sp, Option.bind_some, decide_eq_true_eq]
  by_cases h1 : 1 ≤ n ∧ n ≤ 10
  · simp only [if_pos h1]
    by_cases h2 : 1 ≤ m ∧ m ≤ 62
    · simp only [if_pos h2]
      have hb := base_mul h1 h2
      rw [w64 (n := n * m) (by omega) (by omega)]
      by_cases h3 : n * m > 62
      · simp only [if_pos h3]
        refine Ev.step (fun k => spec_l03Is.j0.eq_2 ..) ?_
        simp only [if_true]
        rw [decide_eq_false (fun a => by have := a.2.2.2.2.1; omega)]
        exact Ev.now _
      · simp only [if_neg h3]
        refine Ev.step (fun k => spec_l03Is.j0.eq_2 ..) ?_
        simp only [decide_eq_true_eq]
        by_cases h4 : (l.length : Int) > 16
        · simp only [if_pos h4]
          rw [decide_eq_false (fun a => by have := a.2.2.2.2.2.1; omega)]
          exact Ev.now _
        · simp only [if_neg h4]
          exact spec_l03Is.ev_l n m l h1 h2 (by omega) (by omega) l.length 0 (by omega) ⟨fun a => ⟨h1.1, h1.2, h2.1, h2.2, by omega, by omega, a⟩, fun a => a.2.2.2.2.2.2⟩
    · simp only [if_neg h2]
      refine Ev.step (fun k => spec_l03Is.j0.eq_2 ..) ?_
      simp only [if_true]
      rw [decide_eq_false (fun a => h2 ⟨a.2.2.1, a.2.2.2.1⟩)]
      exact Ev.now _
  · simp only [if_neg h1]
    refine Ev.step (fun k => spec_l03Is.j0.eq_2 ..) ?_
    simp only [if_true]
    rw [decide_eq_false (fun a => h1 ⟨a.1, a.2.1⟩)]
    exact Ev.now _

theorem spec_l01Empty.sp (n : Int) (h0 : 0 ≤ n) (h1 : n ≤ 35184372088832) : spec_l01Empty.f n = some (n, List.replicate n.toNat 0) := by
  unfold spec_l01Empty.f
  rw [if_pos h0, if_pos (by omega)]

theorem spec_l01Has.sp (n : Int) (rows : List Int) (a b : Int) (ha : 0 ≤ a) (ha1 : a < rows.length) (hb : 0 ≤ b) (hb1 : b ≤ 62) : spec_l01Has.f n rows a b = some (dig (rd rows a) b.toNat) := by
  unfold spec_l01Has.f
  rw [u64 hb (by omega), if_pos ha, if_pos ha1, if_pos hb, bit_dig hb (by omega)]

theorem spec_l01Put.sp (n : Int) (rows : List Int) (a b : Int) (ha : 0 ≤ a) (ha1 : a < rows.length) (hb : 0 ≤ b) (hb1 : b < rows.length) (hl : rows.length ≤ 62) :
    spec_l01Put.f n rows a b = some (putE rows a b) := by
  unfold spec_l01Put.f
  rw [u64 hb (by omega), u64 ha (by omega), if_pos ha, if_pos ha1, if_pos hb, shl_one hb (by omega), shl_one ha (by omega)]
  simp only [Option.bind_some]
  rw [if_pos hb, if_pos hb1, if_pos ha]
  rfl

/-! ### the set bits of a number, in order -/
theorem bits_TrailingZeros64.sp {x : Nat} (h : x < 2 ^ 63) : bits_TrailingZeros64.f (IntKind.u64.wrap (x : Int)) = some ((Lib.ctz 64 x : Nat) : Int) := by
  unfold bits_TrailingZeros64.f
  rw [u64 (by omega) (by omega), if_pos (by omega), if_pos (by omega), Int.toNat_natCast]
def bitsFrom : Nat → Nat → Int → List Int
  | 0, _, _ => []
  | d + 1, i, r => if dig r i = true then (i : Int) :: bitsFrom d (i + 1) r else bitsFrom d (i + 1) r
theorem bitsFrom_length (r : Int) (d : Nat) : ∀ i, (bitsFrom d i r).length ≤ d := by
  induction d with
  | zero => intro i; simp [bitsFrom]
  | succ d ih =>
    intro i
    have := ih (i + 1)
    simp only [bitsFrom]
    split
    · simp only [List.length_cons]; omega
    · omega
theorem mem_bitsFrom {r : Int} {d : Nat} : ∀ {i : Nat} {x : Int}, x ∈ bitsFrom d i r ↔ ∃ j : Nat, x = (j : Int) ∧ i ≤ j ∧ j < i + d ∧ dig r j = true := by
  induction d with
  | zero =>
    intro i x
    simp only [bitsFrom, List.not_mem_nil, false_iff]
    rintro ⟨j, _, a, b, _⟩; omega
  | succ d ih =>
    intro i x
    simp only [bitsFrom]
    split
    · rename_i c
      rw [List.mem_cons, ih]
      constructor
      · rintro (rfl | ⟨j, a, b, e, g⟩)
        · exact ⟨i, rfl, by omega, by omega, c⟩
        · exact ⟨j, a, by omega, by omega, g⟩
      · rintro ⟨j, a, b, e, g⟩
        by_cases h : j = i
        · exact .inl (by rw [a, h])
        · exact .inr ⟨j, a, by omega, by omega, g⟩
    · rename_i c
      rw [ih]
      constructor
      · rintro ⟨j, a, b, e, g⟩; exact ⟨j, a, by omega, by omega, g⟩
      · rintro ⟨j, a, b, e, g⟩
        refine ⟨j, a, ?_, by omega, g⟩
        rcases Nat.lt_or_ge i j with h | h
        · omega
        · exact absurd (show dig r i = true by rw [show i = j by omega]; exact g) c
theorem bitsFrom_congr {r s : Int} {d : Nat} : ∀ {i : Nat}, (∀ j, i ≤ j → j < i + d → dig r j = dig s j) → bitsFrom d i r = bitsFrom d i s := by
  induction d with
  | zero => intro i _; rfl
  | succ d ih =>
    intro i h
    simp only [bitsFrom]
    rw [h i (by omega) (by omega), ih (i := i + 1) fun j a b => h j (by omega) (by omega)]
/-- The lowest bit struck. -/
theorem low_bit {x i : Nat} (h1 : x.testBit i = true) (h0 : ∀ j, j < i → x.testBit j = false) (hx : x < 2 ^ 63) : Lib.ctz 64 x = i ∧ ∀ j, (x &&& (x - 1)).testBit j = (x.testBit j && decide (j ≠ i)) := by
  have x0 : x ≠ 0 := fun a => by rw [a] at h1; simp at h1
  obtain ⟨m, hm, hk⟩ := Lib.ctzFrom_spec 64 x (by omega) (by omega)
  have e : Lib.ctz 64 x = Lib.ctzFrom 64 x := by unfold Lib.ctz; rw [if_neg x0]
  generalize Lib.ctzFrom 64 x = k at hm hk e
  have hp := Nat.two_pow_pos k
  have ex : x = 2 ^ (k + 1) * m + 2 ^ k := by rw [hm, Nat.pow_succ, Nat.mul_add, Nat.mul_one, Nat.mul_assoc]
  have hlt : 2 ^ k < 2 ^ (k + 1) := Nat.pow_lt_pow_right (by decide) (by omega)
  have ex1 : x - 1 = 2 ^ (k + 1) * m + (2 ^ k - 1) := by rw [ex]; omega
  have b : ∀ j, x.testBit j = if j < k + 1 then decide (k = j) else m.testBit (j - (k + 1)) := fun j => by
    rw [ex, Nat.testBit_two_pow_mul_add _ hlt, Nat.testBit_two_pow]
  have b1 : ∀ j, (x - 1).testBit j = if j < k + 1 then decide (j < k) else m.testBit (j - (k + 1)) := fun j => by
    rw [ex1, Nat.testBit_two_pow_mul_add _ (by omega), Nat.testBit_two_pow_sub_one]
  have ik : k = i := by
    rcases Nat.lt_trichotomy k i with h | h | h
    · have := h0 k h
      rw [b k, if_pos (by omega)] at this
      simp at this
    · exact h
    · have := h1
      rw [b i, if_pos (by omega)] at this
      simp at this
      omega
  subst ik
  refine ⟨e, fun j => ?_⟩
  rw [Nat.testBit_and, b j, b1 j]
  by_cases c : j < k + 1
  · rw [if_pos c, if_pos c]
    by_cases d : k = j
    · subst d; simp
    · simp [d]
  · rw [if_neg c, if_neg c]
    have : j ≠ k := by omega
    simp [this]

theorem spec_l01Neighbours.ev_l (n : Int) (rows : List Int) (v : Int) (h0 : 0 ≤ v) (h1 : v < rows.length) (hn : n ≤ 62) (d : Nat) : ∀ (i : Nat) (acc : List Int), (i : Int) + d = n → acc.length ≤ i →
    Ev (fun q => spec_l01Neighbours.l0 q v acc (i : Int) n rows) (acc ++ bitsFrom d i (rd rows v)) := by
  induction d with
  | zero =>
    intro i acc e ha
    refine Ev.step (fun k => spec_l01Neighbours.l0.eq_2 ..) ?_
    simp only [if_neg (show ¬ ((i : Int) < n) by omega), bitsFrom, List.append_nil]
    exact Ev.now _
  | succ d ih =>
    intro i acc e ha
    refine Ev.step (fun k => spec_l01Neighbours.l0.eq_2 ..) ?_
    simp only [if_pos (show (i : Int) < n by omega), spec_l01Has.sp n rows v (i : Int) h0 h1 (by omega) (by omega), Option.bind_some, Int.toNat_natCast]
    rw [w64 (by omega) (by omega)]
    by_cases c : dig (rd rows v) i = true
    · simp only [if_pos c, if_pos (show acc.length < 17592186044416 by omega), bitsFrom]
      refine ev_cast (ih (i + 1) (acc ++ [(i : Int)]) (by omega) (by rw [List.length_append]; simp only [List.length_cons, List.length_nil]; omega)) ?_
      rw [List.append_assoc, List.singleton_append]
    · simp only [if_neg c, bitsFrom]
      exact ih (i + 1) acc (by omega) (by omega)
theorem spec_l01Neighbours.ev (n : Int) (rows : List Int) (v : Int) (h0 : 0 ≤ v) (h1 : v < rows.length) (hn0 : 0 ≤ n) (hn : n ≤ 62) : Ev (fun q => spec_l01Neighbours.f q n rows v) (bitsFrom n.toNat 0 (rd rows v)) := by
  unfold spec_l01Neighbours.f
  exact spec_l01Neighbours.ev_l n rows v h0 h1 hn n.toNat 0 [] (by omega) (by simp)

/-! ### ways in a graph -/
inductive Way (rows : List Int) (n : Nat) (u : Nat) : Nat → Prop
  | refl : Way rows n u u
  | step {v w : Nat} : Way rows n u v → v < n → w < n → Adj rows v w → Way rows n u w
theorem Way.lt {rows : List Int} {n u w : Nat} (h : Way rows n u w) (hu : u < n) : w < n := by
  cases h with
  | refl => exact hu
  | step _ _ b _ => exact b
theorem Way.trans {rows : List Int} {n u v w : Nat} (h : Way rows n u v) (k : Way rows n v w) : Way rows n u w := by
  induction k with
  | refl => exact h
  | step _ a b c ih => exact .step ih a b c
theorem Way.symm {rows : List Int} {n : Int} (g : IsG n rows) {u v : Nat} (h : Way rows n.toNat u v) : Way rows n.toNat v u := by
  induction h with
  | refl => exact .refl
  | step _ a b c ih => exact (Way.step .refl b a ((g.symm a b).1 c)).trans ih
theorem IsG_row {n : Int} {rows : List Int} (h : IsG n rows) {v : Int} (h0 : 0 ≤ v) (h1 : v < n) : ∃ x : Nat, rd rows v = (x : Int) ∧ x < 2 ^ n.toNat := by
  obtain ⟨u, rfl⟩ := Int.eq_ofNat_of_zero_le h0
  obtain ⟨a, b, _⟩ := h.2.2.2.1 u h1
  obtain ⟨x, hx⟩ := Int.eq_ofNat_of_zero_le a
  exact ⟨x, hx, by rw [hx] at b; exact_mod_cast b⟩
/-- A set that holds v, is closed, and holds none but what v reaches, is what v reaches. -/
theorem closed_way {rows : List Int} {n v : Nat} {P : Nat → Prop} (h0 : P v) (h1 : ∀ x y, x < n → y < n → P x → Adj rows x y → P y) : ∀ w, Way rows n v w → P w := by
  intro w h
  induction h with
  | refl => exact h0
  | step _ a b c ih => exact h1 _ _ a b ih c

/-- The leaders of the parts that hold a vertex before v; -1 elsewhere. -/
def Leads (rows : List Int) (n v : Nat) (L : List Int) : Prop := L.length = n ∧ ∀ w, w < n → (rd L (w : Int) = -1 ∧ ∀ u, u < v → ¬ Way rows n u w) ∨ ∃ u, u < v ∧ rd L (w : Int) = (u : Int) ∧ Way rows n u w ∧ ∀ x, x < u → ¬ Way rows n x w
/-- Within the search from v, over the leaders L0: the queue Q. -/
structure Srch (rows : List Int) (n v : Nat) (L0 L Q : List Int) : Prop where
  len : L.length = n
  elem : ∀ x ∈ Q, ∃ u : Nat, x = (u : Int) ∧ u < n ∧ Way rows n v u
  inq : ∀ w, w < n → (w : Int) ∈ Q → rd L (w : Int) = (v : Int)
  out : ∀ w, w < n → (w : Int) ∉ Q → rd L (w : Int) = rd L0 (w : Int)
  first : (v : Int) ∈ Q
  size : Q.length + L.countP (fun x => decide (x < 0)) ≤ n
def Clsd (rows : List Int) (n : Nat) (Q : List Int) (i : Nat) : Prop := ∀ k, k < i → ∀ u : Nat, rd Q (k : Int) = (u : Int) → ∀ y, y < n → Adj rows u y → (y : Int) ∈ Q
theorem rd_append {l m : List Int} {k : Nat} (h : k < l.length) : rd (l ++ m) (k : Int) = rd l (k : Int) := by
  rw [rd_nat, rd_nat, List.getD_eq_getElem?_getD, List.getD_eq_getElem?_getD, List.getElem?_append_left h]
section
variable {n : Int} {rows : List Int} (g : IsG n rows) {v : Nat} (hv : v < n.toNat) {L0 : List Int} (hL0 : Leads rows n.toNat v L0) (hv0 : ∀ u, u < v → ¬ Way rows n.toNat u v)
include g hv hL0 hv0
theorem fresh {w : Nat} (hw : w < n.toNat) (hW : Way rows n.toNat v w) : rd L0 (w : Int) = -1 := by
  rcases hL0.2 w hw with a | ⟨u, a, _, b, _⟩
  · exact a.1
  · exact absurd (b.trans (hW.symm g)) (hv0 u a)
theorem spec_l01Leaders.ev_3 {a : Nat} (ha : a < n.toNat) (hWa : Way rows n.toNat v a) {i : Nat} (R : List Int)
    (next : ∀ L Q, Srch rows n.toNat v L0 L Q → i + 1 ≤ Q.length → Clsd rows n.toNat Q (i + 1) → Ev (fun q => spec_l01Leaders.l2 q L (v : Int) Q ((i : Int) + 1) n rows) R) (d : Nat) :
    ∀ (j : Nat) (L Q : List Int), j + d = (bitsFrom n.toNat 0 (rd rows (a : Int))).length → Srch rows n.toNat v L0 L Q → i < Q.length → rd Q (i : Int) = (a : Int) → Clsd rows n.toNat Q i →
      (∀ k : Nat, k < j → rd (bitsFrom n.toNat 0 (rd rows (a : Int))) (k : Int) ∈ Q) →
      Ev (fun q => spec_l01Leaders.l3 q L (v : Int) Q (i : Int) (bitsFrom n.toNat 0 (rd rows (a : Int))) (j : Int) n rows) R := by
  have hn := g.le
  have hlen := bitsFrom_length (rd rows (a : Int)) n.toNat 0
  induction d with
  | zero =>
    intro j L Q e hS hi hQi hC hj
    refine Ev.step (fun k => spec_l01Leaders.l3.eq_2 ..) ?_
    have hq := hS.size
    simp only [if_neg (show ¬ ((j : Int) < ((bitsFrom n.toNat 0 (rd rows (a : Int))).length : Int)) by omega)]
    rw [w64 (by omega) (by omega)]
    refine next L Q hS (by omega) fun k hk u hu y hy hA => ?_
    rcases Nat.lt_succ_iff_lt_or_eq.1 hk with x | rfl
    · exact hC k x u hu y hy hA
    · have ua : u = a := by omega
      subst ua
      have : (y : Int) ∈ bitsFrom n.toNat 0 (rd rows (u : Int)) := mem_bitsFrom.2 ⟨y, rfl, by omega, by omega, hA⟩
      obtain ⟨k, hk, hr⟩ := mem_rd.1 this
      rw [← hr]
      exact hj k (by omega)
  | succ d ih =>
    intro j L Q e hS hi hQi hC hj
    refine Ev.step (fun k => spec_l01Leaders.l3.eq_2 ..) ?_
    have hq := hS.size
    obtain ⟨y, hy, _, hyn, hyA⟩ := mem_bitsFrom.1 (rd_mem (l := bitsFrom n.toNat 0 (rd rows (a : Int))) (i := (j : Int)) (by omega) (by omega))
    have hyn' : y < n.toNat := by omega
    have hWy : Way rows n.toNat v y := .step hWa ha hyn' hyA
    have hLl := hS.len
    rw [hy, w64 (by omega) (by omega)]
    simp only [if_pos (show (j : Int) < ((bitsFrom n.toNat 0 (rd rows (a : Int))).length : Int) by omega), if_pos (show (0 : Int) ≤ (j : Int) by omega), if_pos (show (0 : Int) ≤ (y : Int) by omega), if_pos (show (y : Int) < (L.length : Int) by omega)]
    by_cases c : (y : Int) ∈ Q
    · have := hS.inq y hyn' c
      simp only [if_neg (show ¬ (rd L (y : Int) < 0) by omega)]
      refine ih (j + 1) L Q (by omega) hS hi hQi hC fun k hk => ?_
      rcases Nat.lt_succ_iff_lt_or_eq.1 hk with x | rfl
      · exact hj k x
      · rw [hy]; exact c
    · have f := hS.out y hyn' c
      rw [fresh g hv hL0 hv0 hyn' hWy] at f
      simp only [if_pos (show rd L (y : Int) < 0 by omega), if_pos (show Q.length < 17592186044416 by omega), Int.toNat_natCast]
      have hyl : y < L.length := by omega
      refine ih (j + 1) (L.set y (v : Int)) (Q ++ [(y : Int)]) (by omega) ⟨by rw [List.length_set]; exact hLl, fun x hx => ?_, fun w hw hm => ?_, fun w hw hm => ?_, List.mem_append_left _ hS.first, ?_⟩ (by rw [List.length_append]; omega) (by rw [rd_append hi]; exact hQi) (fun k hk u hu z hz hA => ?_) fun k hk => ?_
      · rcases List.mem_append.1 hx with x1 | x1
        · exact hS.elem x x1
        · exact ⟨y, by simpa using x1, hyn', hWy⟩
      · by_cases wy : w = y
        · subst wy; exact rd_set_self _ _ hyl _
        · rw [rd_set_ne _ _ _ (fun a => wy a.symm)]
          rcases List.mem_append.1 hm with x1 | x1
          · exact hS.inq w hw x1
          · exact absurd (by simpa using x1 : (w : Int) = y) (by omega)
      · have wy : w ≠ y := fun a => hm (by rw [a]; simp)
        rw [rd_set_ne _ _ _ (fun a => wy a.symm)]
        exact hS.out w hw fun a => hm (List.mem_append_left _ a)
      · rw [List.countP_set hyl, List.length_append]
        have ly : L[y] = -1 := by rw [← rd_get L y hyl]; exact f
        have cp : 1 ≤ L.countP (fun x => decide (x < 0)) := List.countP_pos_iff.2 ⟨L[y], List.getElem_mem hyl, by rw [ly]; rfl⟩
        rw [ly]
        simp only [List.length_cons, List.length_nil]
        rw [if_pos (by decide), if_neg (by simp)]
        omega
      · rw [rd_append (by omega)] at hu
        exact List.mem_append_left _ (hC k hk u hu z hz hA)
      · rcases Nat.lt_succ_iff_lt_or_eq.1 hk with x | rfl
        · exact List.mem_append_left _ (hj k x)
        · rw [hy]; simp
theorem spec_l01Leaders.ev_2 (R : List Int) (next : ∀ L, Leads rows n.toNat (v + 1) L → Ev (fun q => spec_l01Leaders.l1 q L ((v : Int) + 1) n rows) R) (d : Nat) :
    ∀ (i : Nat) (L Q : List Int), n.toNat ≤ i + d → Srch rows n.toNat v L0 L Q → i ≤ Q.length → Clsd rows n.toNat Q i → Ev (fun q => spec_l01Leaders.l2 q L (v : Int) Q (i : Int) n rows) R := by
  have hn := g.le
  have done : ∀ (L Q : List Int), Srch rows n.toNat v L0 L Q → Clsd rows n.toNat Q Q.length → Ev (fun q => spec_l01Leaders.l2 q L (v : Int) Q (Q.length : Int) n rows) R := by
    intro L Q hS hC
    refine Ev.step (fun k => spec_l01Leaders.l2.eq_2 ..) ?_
    simp only [if_neg (show ¬ ((Q.length : Int) < (Q.length : Int)) by omega)]
    rw [w64 (by omega) (by omega)]
    have inQ : ∀ w, Way rows n.toNat v w → (w : Int) ∈ Q := closed_way (P := fun w => (w : Int) ∈ Q) hS.first fun x y hx hy a b => by
      obtain ⟨k, hk, hr⟩ := mem_rd.1 a
      exact hC k hk x hr y hy b
    refine next L ⟨hS.len, fun w hw => ?_⟩
    by_cases c : (w : Int) ∈ Q
    · obtain ⟨u, hu, _, hW⟩ := hS.elem _ c
      have : u = w := by omega
      subst this
      exact .inr ⟨v, by omega, hS.inq u hw c, hW, fun x hx a => hv0 x hx (a.trans (hW.symm g))⟩
    · rw [hS.out w hw c]
      rcases hL0.2 w hw with ⟨a, b⟩ | ⟨u, a, b⟩
      · refine .inl ⟨a, fun u hu => ?_⟩
        rcases Nat.lt_succ_iff_lt_or_eq.1 hu with x | rfl
        · exact b u x
        · exact fun x => c (inQ w x)
      · exact .inr ⟨u, by omega, b⟩
  induction d with
  | zero =>
    intro i L Q e hS hi hC
    have := hS.size
    have : i = Q.length := by omega
    subst this
    exact done L Q hS hC
  | succ d ih =>
    intro i L Q e hS hi hC
    by_cases c : i = Q.length
    · subst c; exact done L Q hS hC
    · have hsz := hS.size
      have hrl := g.len
      refine Ev.step (fun k => spec_l01Leaders.l2.eq_2 ..) ?_
      simp only [if_pos (show (i : Int) < (Q.length : Int) by omega), if_pos (show (0 : Int) ≤ (i : Int) by omega)]
      obtain ⟨a, ha, han, hWa⟩ := hS.elem _ (rd_mem (l := Q) (i := (i : Int)) (by omega) (by omega))
      rw [ha]
      refine Ev.bind (spec_l01Neighbours.ev n rows (a : Int) (by omega) (by omega) (by have := g.1; omega) g.2.1) ?_
      refine spec_l01Leaders.ev_3 g hv hL0 hv0 han hWa R (fun L' Q' hS' hi' hC' => ?_) (bitsFrom n.toNat 0 (rd rows (a : Int))).length 0 L Q (by omega) hS (by omega) ha hC (fun k hk => by omega)
      exact ih (i + 1) L' Q' (by omega) hS' hi' hC'
end
/-- The least number of P from i on, at most i + d. -/
noncomputable def leastF (P : Nat → Prop) : Nat → Nat → Nat
  | 0, i => i
  | d + 1, i => if P i then i else leastF P d (i + 1)
theorem leastF_at {P : Nat → Prop} (d : Nat) : ∀ i, (∃ x, i ≤ x ∧ x < i + d ∧ P x) → P (leastF P d i) ∧ i ≤ leastF P d i ∧ leastF P d i < i + d ∧ ∀ x, i ≤ x → x < leastF P d i → ¬ P x := by
  induction d with
  | zero => rintro i ⟨x, a, b, _⟩; omega
  | succ d ih =>
    rintro i ⟨x, a, b, c⟩
    simp only [leastF]
    by_cases h : P i
    · rw [if_pos h]; exact ⟨h, by omega, by omega, fun x a b => by omega⟩
    · rw [if_neg h]
      have : x ≠ i := fun e => h (e ▸ c)
      obtain ⟨h1, h2, h3, h4⟩ := ih (i + 1) ⟨x, by omega, by omega, c⟩
      refine ⟨h1, by omega, by omega, fun y a b => ?_⟩
      by_cases e : y = i
      · subst e; exact h
      · exact h4 y (by omega) b
noncomputable def leadL (rows : List Int) (n : Nat) : List Int := (List.range n).map fun w => ((leastF (fun u => Way rows n u w) n 0 : Nat) : Int)
theorem leadL_leads (rows : List Int) (n : Nat) : Leads rows n n (leadL rows n) := by
  refine ⟨by simp [leadL], fun w hw => .inr ?_⟩
  obtain ⟨h1, h2, h3, h4⟩ := leastF_at (P := fun u => Way rows n u w) n 0 ⟨w, by omega, by omega, .refl⟩
  refine ⟨_, by omega, ?_, h1, fun x hx => h4 x (by omega) hx⟩
  rw [rd_nat]
  simp [leadL, hw]
theorem leads_uniq {rows : List Int} {n : Nat} {A B : List Int} (hA : Leads rows n n A) (hB : Leads rows n n B) : A = B := by
  refine list_ext_rd (by rw [hA.1, hB.1]) fun w hw => ?_
  have hw' : w < n := by rw [← hA.1]; exact hw
  rcases hA.2 w hw' with ⟨_, a2⟩ | ⟨u, a1, a2, a3, a4⟩
  · exact absurd .refl (a2 w hw')
  · rcases hB.2 w hw' with ⟨_, b2⟩ | ⟨x, b1, b2, b3, b4⟩
    · exact absurd .refl (b2 w hw')
    · have : u = x := by
        rcases Nat.lt_trichotomy u x with h | h | h
        · exact absurd a3 (b4 u h)
        · exact h
        · exact absurd b3 (a4 x h)
      rw [a2, b2, this]
theorem spec_l01Leaders.ev_1 {n : Int} {rows : List Int} (g : IsG n rows) (d : Nat) : ∀ (v : Nat) (L : List Int), v + d = n.toNat → Leads rows n.toNat v L → Ev (fun q => spec_l01Leaders.l1 q L (v : Int) n rows) (leadL rows n.toNat) := by
  have hn := g.le
  have h1 := g.1
  induction d with
  | zero =>
    intro v L e hL
    have : v = n.toNat := by omega
    subst this
    refine Ev.step (fun k => spec_l01Leaders.l1.eq_2 ..) ?_
    simp only [if_neg (show ¬ ((n.toNat : Int) < n) by omega)]
    exact ev_some (leads_uniq hL (leadL_leads rows n.toNat))
  | succ d ih =>
    intro v L e hL
    have hLl := hL.1
    have hv : v < n.toNat := by omega
    refine Ev.step (fun k => spec_l01Leaders.l1.eq_2 ..) ?_
    simp only [if_pos (show (v : Int) < n by omega), if_pos (show (0 : Int) ≤ (v : Int) by omega), if_pos (show (v : Int) < (L.length : Int) by omega), Int.toNat_natCast]
    rw [w64 (by omega) (by omega)]
    rcases hL.2 v hv with ⟨a, b⟩ | ⟨u, a, b, c, _⟩
    · simp only [if_neg (show ¬ (rd L (v : Int) ≥ 0) by omega)]
      have hvl : v < L.length := by omega
      refine spec_l01Leaders.ev_2 g hv hL b _ (fun L' h' => ih (v + 1) L' (by omega) h') n.toNat 0 (L.set v (v : Int)) [(v : Int)] (by omega) ⟨by rw [List.length_set]; exact hLl, fun x hx => ⟨v, by simpa using hx, hv, .refl⟩, fun w hw hm => ?_, fun w hw hm => ?_, by simp, ?_⟩ (by simp) (fun k hk => by omega)
      · have : (w : Int) = v := by simpa using hm
        have : w = v := by omega
        subst this; exact rd_set_self _ _ hvl _
      · rw [rd_set_ne _ _ _ (fun a => hm (by rw [a]; simp))]
      · rw [List.countP_set hvl]
        have ly : L[v] = -1 := by rw [← rd_get L v hvl]; exact a
        have cp : 1 ≤ L.countP (fun x => decide (x < 0)) := List.countP_pos_iff.2 ⟨L[v], List.getElem_mem hvl, by rw [ly]; rfl⟩
        have cl := List.countP_le_length (p := fun x : Int => decide (x < 0)) (l := L)
        rw [ly, if_pos (by decide), if_neg (by simp)]
        simp only [List.length_cons, List.length_nil]
        omega
    · simp only [if_pos (show rd L (v : Int) ≥ 0 by omega)]
      refine ih (v + 1) L (by omega) ⟨hLl, fun w hw => ?_⟩
      rcases hL.2 w hw with ⟨x, y⟩ | ⟨x, y, z⟩
      · refine .inl ⟨x, fun t ht => ?_⟩
        rcases Nat.lt_succ_iff_lt_or_eq.1 ht with s | rfl
        · exact y t s
        · exact fun s => y u a (c.trans s)
      · exact .inr ⟨x, by omega, z⟩
theorem spec_l01Leaders.ev_0 {n : Int} {rows : List Int} (g : IsG n rows) (d : Nat) : ∀ (v : Nat), v + d = n.toNat → Ev (fun q => spec_l01Leaders.l0 q (List.replicate v (-1)) (v : Int) n rows) (leadL rows n.toNat) := by
  have hn := g.le
  have h1 := g.1
  induction d with
  | zero =>
    intro v e
    have : v = n.toNat := by omega
    subst this
    refine Ev.step (fun k => spec_l01Leaders.l0.eq_2 ..) ?_
    simp only [if_neg (show ¬ ((n.toNat : Int) < n) by omega)]
    refine spec_l01Leaders.ev_1 g n.toNat 0 _ (by omega) ⟨List.length_replicate .., fun w hw => .inl ⟨?_, fun u hu => by omega⟩⟩
    rw [rd_nat]; simp [hw]
  | succ d ih =>
    intro v e
    refine Ev.step (fun k => spec_l01Leaders.l0.eq_2 ..) ?_
    simp only [if_pos (show (v : Int) < n by omega), List.length_replicate, if_pos (show v < 17592186044416 by omega)]
    rw [w64 (by omega) (by omega), ← List.replicate_succ']
    exact ih (v + 1) (by omega)
theorem spec_l01Leaders.ev {n : Int} {rows : List Int} (g : IsG n rows) : Ev (fun q => spec_l01Leaders.f q n rows) (leadL rows n.toNat) := by
  unfold spec_l01Leaders.f
  exact spec_l01Leaders.ev_0 g n.toNat 0 (by omega)

/-- How many numbers from i on are their own leaders. -/
def ownFrom (L : List Int) : Nat → Nat → Nat
  | 0, _ => 0
  | d + 1, i => (if rd L (i : Int) = (i : Int) then 1 else 0) + ownFrom L d (i + 1)
theorem ownFrom_le (L : List Int) (d : Nat) : ∀ i, ownFrom L d i ≤ d := by
  induction d with
  | zero => intro i; simp [ownFrom]
  | succ d ih => intro i; have := ih (i + 1); simp only [ownFrom]; split <;> omega
theorem ownFrom_zero {L : List Int} {d : Nat} : ∀ {i : Nat}, ownFrom L d i = 0 ↔ ∀ j : Nat, i ≤ j → j < i + d → rd L (j : Int) ≠ (j : Int) := by
  induction d with
  | zero => intro i; simp only [ownFrom]; exact ⟨fun _ j a b => by omega, fun _ => trivial⟩
  | succ d ih =>
    intro i
    simp only [ownFrom]
    by_cases c : rd L (i : Int) = (i : Int)
    · rw [if_pos c]
      exact ⟨fun a => by omega, fun a => absurd c (a i (by omega) (by omega))⟩
    · rw [if_neg c, Nat.zero_add, ih]
      constructor
      · intro a j x y
        by_cases e : j = i
        · rw [e]; exact c
        · exact a j (by omega) (by omega)
      · exact fun a j x y => a j (by omega) (by omega)
theorem spec_l01Parts.ev_l (n : Int) (rows L : List Int) (hL : (L.length : Int) = n) (hn : n ≤ 62) (d : Nat) : ∀ (i c : Nat), (i : Int) + d = n → c ≤ i →
    Ev (fun q => spec_l01Parts.l0 q L (c : Int) (i : Int) n rows) ((c + ownFrom L d i : Nat) : Int) := by
  induction d with
  | zero =>
    intro i c e h
    refine Ev.step (fun k => spec_l01Parts.l0.eq_2 ..) ?_
    simp only [if_neg (show ¬ ((i : Int) < n) by omega)]
    exact ev_some rfl
  | succ d ih =>
    intro i c e h
    refine Ev.step (fun k => spec_l01Parts.l0.eq_2 ..) ?_
    simp only [if_pos (show (i : Int) < n by omega), if_pos (show (0 : Int) ≤ (i : Int) by omega), if_pos (show (i : Int) < (L.length : Int) by omega)]
    rw [w64 (n := (c : Int) + 1) (by omega) (by omega), w64 (n := (i : Int) + 1) (by omega) (by omega)]
    by_cases x : rd L (i : Int) = (i : Int)
    · simp only [if_pos x, ownFrom]
      have := ih (i + 1) (c + 1) (by omega) (by omega)
      rw [show c + 1 + ownFrom L d (i + 1) = c + (1 + ownFrom L d (i + 1)) by omega] at this
      exact this
    · simp only [if_neg x, ownFrom, Nat.zero_add]
      exact ih (i + 1) c (by omega) (by omega)
theorem spec_l01Parts.ev {n : Int} {rows : List Int} (g : IsG n rows) : Ev (fun q => spec_l01Parts.f q n rows) ((ownFrom (leadL rows n.toNat) n.toNat 0 : Nat) : Int) := by
  unfold spec_l01Parts.f
  refine Ev.bind (spec_l01Leaders.ev g) ?_
  have := spec_l01Parts.ev_l n rows (leadL rows n.toNat) (by rw [(leadL_leads rows n.toNat).1]; have := g.1; omega) g.2.1 n.toNat 0 0 (by have := g.1; omega) (by omega)
  rw [Nat.zero_add] at this
  exact this

theorem impl_IsBase.sp (n m : Int) (l : List S51) : impl_IsBase.f n m l = some (decide (BaseOK n m l)) := by
  unfold impl_IsBase.f
  by_cases c0 : n < 1
  · rw [if_pos c0, decide_eq_false (fun a => by have := a.1; omega)]
  rw [if_neg c0]
  by_cases c1 : n > 10
  · rw [if_pos c1, decide_eq_false (fun a => by have := a.2.1; omega)]
  rw [if_neg c1]
  by_cases c2 : m < 1
  · rw [if_pos c2, decide_eq_false (fun a => by have := a.2.2.1; omega)]
  rw [if_neg c2]
  by_cases c3 : m > 62
  · rw [if_pos c3, decide_eq_false (fun a => by have := a.2.2.2.1; omega)]
  rw [if_neg c3]
  by_cases c4 : n * m > 62
  · rw [if_pos c4, decide_eq_false (fun a => by have := a.2.2.2.2.1; omega)]
  rw [if_neg c4]
  by_cases c5 : (l.length : Int) > 16
  · rw [if_pos c5, decide_eq_false (fun a => by have := a.2.2.2.2.2.1; omega)]
  rw [if_neg c5]
  have bad : ∀ x : S51, arcBad n m x = false ↔ ArcOK n m x := by
    intro x
    unfold arcBad ArcOK
    simp only [Bool.or_eq_false_iff, decide_eq_false_iff_not]
    omega
  congr 1
  by_cases h : BaseOK n m l
  · rw [decide_eq_true h]
    have : l.any (arcBad n m) = false := by
      rw [List.any_eq_false]
      intro x hx
      obtain ⟨j, hj, rfl⟩ := List.mem_iff_getElem.1 hx
      have := h.2.2.2.2.2.2 j (by omega) hj
      rw [rd_iArc hj] at this
      rw [(bad _).2 this]
      simp
    rw [this]; rfl
  · rw [decide_eq_false h]
    have : l.any (arcBad n m) = true := by
      refine Classical.byContradiction fun a => h ⟨by omega, by omega, by omega, by omega, by omega, by omega, fun j _ hj => ?_⟩
      rw [rd_iArc hj, ← bad]
      have a' : l.any (arcBad n m) = false := by simpa using a
      have := List.any_eq_false.1 a' l[j] (List.getElem_mem hj)
      simpa using this
    rw [this]; rfl

theorem impl_empty.sp (n : Int) (h0 : 0 ≤ n) (h1 : n ≤ 35184372088832) : impl_empty.f n = some (n, List.replicate n.toNat 0) := by
  unfold impl_empty.f
  rw [if_pos h0, if_pos (by omega)]

theorem impl_Graph_put.sp (n : Int) (rows : List Int) (a b : Int) (hab : a ≠ b) (ha : 0 ≤ a) (ha1 : a < rows.length) (hb : 0 ≤ b) (hb1 : b < rows.length) (hl : rows.length ≤ 62) :
    impl_Graph_put.f n rows a b = some (putE rows a b) := by
  unfold impl_Graph_put.f
  rw [if_neg hab, if_pos ha, if_pos ha1, if_pos hb, shl_one hb (by omega), shl_one ha (by omega)]
  simp only [Option.bind_some]
  rw [if_pos hb1]
  rfl
theorem impl_Graph_put.same (n : Int) (rows : List Int) (a : Int) : impl_Graph_put.f n rows a a = some rows := by
  unfold impl_Graph_put.f
  rw [if_pos rfl]

/-- The pairs that an arc's digits i.. join. -/
def arcPairs (m : Int) (x : S51) (i : Int) (d : Nat) : List (Int × Int) := (irange i d).map fun i => (x.f0 * m + i, x.f1 * m + (i + x.f2) % m)
/-- An edge put in, if its ends are two. -/
def putN (rows : List Int) (p : Int × Int) : List Int := if p.1 = p.2 then rows else putE rows p.1 p.2
theorem putN_length (rows : List Int) (p : Int × Int) : (putN rows p).length = rows.length := by unfold putN; split; rfl; exact putE_length _ _ _
def putNs (rows : List Int) (ps : List (Int × Int)) : List Int := ps.foldl putN rows
theorem putNs_length (ps : List (Int × Int)) : ∀ rows : List Int, (putNs rows ps).length = rows.length := by
  induction ps with
  | nil => intro rows; rfl
  | cons p ps ih => intro rows; exact (ih _).trans (putN_length _ _)
theorem putNs_append (rows : List Int) (ps qs : List (Int × Int)) : putNs rows (ps ++ qs) = putNs (putNs rows ps) qs := List.foldl_append
def liftPairs (m : Int) (l : List S51) : List (Int × Int) := l.flatMap fun x => arcPairs m x 0 m.toNat
/-- Where a place of the lift lies. -/
theorem lift_in {n m a i : Int} (hn : 1 ≤ n ∧ n ≤ 10) (hm : 1 ≤ m ∧ m ≤ 62) (hnm : n * m ≤ 62) (ha : 0 ≤ a) (ha1 : a < n) (hi : 0 ≤ i) (hi1 : i < m) : 0 ≤ a * m ∧ a * m ≤ 620 ∧ 0 ≤ a * m + i ∧ a * m + i < n * m := by
  have h0 : 0 ≤ a * m := Int.mul_nonneg ha (by omega)
  have h1 : (a + 1) * m ≤ n * m := Int.mul_le_mul_of_nonneg_right (by omega) (by omega)
  have h2 : (a + 1) * m = a * m + m := by rw [Int.add_mul, Int.one_mul]
  omega
theorem impl_Graph_put.n (n : Int) (rows : List Int) (a b : Int) (ha : 0 ≤ a) (ha1 : a < rows.length) (hb : 0 ≤ b) (hb1 : b < rows.length) (hl : rows.length ≤ 62) :
    impl_Graph_put.f n rows a b = some (putN rows (a, b)) := by
  unfold putN
  by_cases h : a = b
  · simp only [if_pos h]; subst h; exact impl_Graph_put.same n rows a
  · simp only [if_neg h]; exact impl_Graph_put.sp n rows a b h ha ha1 hb hb1 hl
theorem impl_lift.ev_1 (n m : Int) (l : List S51) (h : BaseOK n m l) (j : Nat) (hj : j < l.length) (x : S51) (hx : ArcOK n m x) (F : List Int → Int × List Int)
    (hF : ∀ rows : List Int, (rows.length : Int) = n * m → Ev (fun q => impl_lift.l0 q m l (l.length : Int) ((j + 1 : Nat) : Int) (n * m) rows) (F rows)) (d : Nat) : ∀ (i : Int) (rows : List Int), (rows.length : Int) = n * m → 0 ≤ i → i + d = m →
    Ev (fun q => impl_lift.l1 q m l (l.length : Int) (j : Int) m i (n * m) rows x.f0 x.f1 x.f2) (F (putNs rows (arcPairs m x i d))) := by
  have hn := And.intro h.1 h.2.1
  have hm := And.intro h.2.2.1 h.2.2.2.1
  have hnm := h.2.2.2.2.1
  have hl := h.2.2.2.2.2.1
  obtain ⟨x0, x1, x2, x3, x4, x5⟩ := hx
  induction d with
  | zero =>
    intro i rows h1 h2 h3
    refine Ev.step (fun k => impl_lift.l1.eq_2 ..) ?_
    rw [w64 (n := (j : Int) + 1) (by omega) (by omega)]
    simp only [if_neg (show ¬ (i < m) by omega)]
    exact hF rows h1
  | succ d ih =>
    intro i rows h1 h2 h3
    refine Ev.step (fun k => impl_lift.l1.eq_2 ..) ?_
    have e1 := Int.emod_nonneg (i + x.f2) (show m ≠ 0 by omega)
    have e2 := Int.emod_lt_of_pos (i + x.f2) (show 0 < m by omega)
    have f1 := lift_in hn hm hnm x0 x1 h2 (show i < m by omega)
    have f2 := lift_in hn hm hnm x2 x3 e1 e2
    rw [w64 (n := i + x.f2) (by omega) (by omega), tmod_pos (a := i + x.f2) (by omega), w64 (n := x.f0 * m) (by omega) (by omega), w64 (n := x.f1 * m) (by omega) (by omega), w64 (n := x.f0 * m + i) (by omega) (by omega), w64 (n := x.f1 * m + _) (by omega) (by omega), w64 (n := i + 1) (by omega) (by omega)]
    simp only [if_pos (show i < m by omega), if_neg (show ¬ (m = 0) by omega)]
    rw [impl_Graph_put.n _ _ _ _ (by omega) (by omega) (by omega) (by omega) (by omega)]
    simp only [Option.bind_some]
    exact ih (i + 1) _ (by rw [putN_length]; omega) (by omega) (by omega)
theorem impl_lift.ev_0 (n m : Int) (l : List S51) (h : BaseOK n m l) (d : Nat) : ∀ (j : Nat) (rows : List Int), (rows.length : Int) = n * m → j + d = l.length →
    Ev (fun q => impl_lift.l0 q m l (l.length : Int) (j : Int) (n * m) rows) (n * m, putNs rows (liftPairs m (l.drop j))) := by
  have hm := h.2.2.1
  induction d with
  | zero =>
    intro j rows h1 h2
    refine Ev.step (fun k => impl_lift.l0.eq_2 ..) ?_
    simp only [if_neg (show ¬ ((j : Int) < (l.length : Int)) by omega)]
    rw [List.drop_eq_nil_of_le (by omega)]
    exact Ev.now _
  | succ d ih =>
    intro j rows h1 h2
    refine Ev.step (fun k => impl_lift.l0.eq_2 ..) ?_
    simp only [if_pos (show (j : Int) < (l.length : Int) by omega), if_pos (show (0 : Int) ≤ (j : Int) by omega)]
    have hx := h.2.2.2.2.2.2 j (by omega) (by omega)
    have := impl_lift.ev_1 n m l h j (by omega) _ hx (fun rows => (n * m, putNs rows (liftPairs m (l.drop (j + 1))))) (fun rows hr => ih (j + 1) rows hr (by omega)) m.toNat 0 rows h1 (by omega) (by omega)
    refine ev_cast this ?_
    rw [List.drop_eq_getElem_cons (show j < l.length by omega), ← rd_iArc (show j < l.length by omega)]
    unfold liftPairs
    rw [List.flatMap_cons, putNs_append]
theorem impl_lift.ev (n m : Int) (l : List S51) (h : BaseOK n m l) : Ev (fun q => impl_lift.f q n m l) (n * m, putNs (List.replicate (n * m).toNat 0) (liftPairs m l)) := by
  unfold impl_lift.f
  have hb := base_mul ⟨h.1, h.2.1⟩ ⟨h.2.2.1, h.2.2.2.1⟩
  rw [w64 (n := n * m) (by omega) (by omega), impl_empty.sp _ (by omega) (by omega)]
  have := impl_lift.ev_0 n m l h l.length 0 (List.replicate (n * m).toNat 0) (by rw [List.length_replicate]; omega) (by omega)
  rw [List.drop_zero] at this
  exact this
/-! The reference's lift, and whether each pair was new. -/
/-- Is the edge new, and between two vertices? -/
def newP (rows : List Int) (p : Int × Int) : Bool := !(decide (p.1 = p.2) || dig (rd rows p.1) p.2.toNat)
def allNew : List Int → List (Int × Int) → Bool
  | _, [] => true
  | rows, p :: ps => newP rows p && allNew (putN rows p) ps
theorem allNew_append (ps qs : List (Int × Int)) : ∀ rows, allNew rows (ps ++ qs) = (allNew rows ps && allNew (putNs rows ps) qs) := by
  induction ps with
  | nil => intro rows; simp [allNew, putNs]
  | cons p ps ih =>
    intro rows
    simp only [List.cons_append, allNew, ih, Bool.and_assoc]
    rfl
theorem spec_l03Lift.ev_1 (n m : Int) (l : List S51) (h : BaseOK n m l) (j : Nat) (hj : j < l.length) (x : S51) (hx : ArcOK n m x) (F : Bool → List Int → Int × List Int × Bool)
    (hF : ∀ (g : Bool) (rows : List Int), (rows.length : Int) = n * m → Ev (fun q => spec_l03Lift.l0 q g ((j + 1 : Nat) : Int) n m l (n * m) rows) (F g rows)) (d : Nat) : ∀ (i : Int) (g : Bool) (rows : List Int), (rows.length : Int) = n * m → 0 ≤ i → i + d = m →
    Ev (fun q => spec_l03Lift.l1 q g (j : Int) i n m l (n * m) rows x.f0 x.f1 x.f2) (F (g && allNew rows (arcPairs m x i d)) (putNs rows (arcPairs m x i d))) := by
  have hn := And.intro h.1 h.2.1
  have hm := And.intro h.2.2.1 h.2.2.2.1
  have hnm := h.2.2.2.2.1
  have hl := h.2.2.2.2.2.1
  obtain ⟨x0, x1, x2, x3, x4, x5⟩ := hx
  induction d with
  | zero =>
    intro i g rows h1 h2 h3
    refine Ev.step (fun k => spec_l03Lift.l1.eq_2 ..) ?_
    rw [w64 (n := (j : Int) + 1) (by omega) (by omega)]
    simp only [if_neg (show ¬ (i < m) by omega)]
    have : (g && allNew rows (arcPairs m x i 0)) = g := by simp [arcPairs, irange, allNew]
    rw [this]
    exact hF g rows h1
  | succ d ih =>
    intro i g rows h1 h2 h3
    refine Ev.step (fun k => spec_l03Lift.l1.eq_2 ..) ?_
    have e1 := Int.emod_nonneg (i + x.f2) (show m ≠ 0 by omega)
    have e2 := Int.emod_lt_of_pos (i + x.f2) (show 0 < m by omega)
    have f1 := lift_in hn hm hnm x0 x1 h2 (show i < m by omega)
    have f2 := lift_in hn hm hnm x2 x3 e1 e2
    rw [w64 (n := i + x.f2) (by omega) (by omega), tmod_pos (a := i + x.f2) (by omega), w64 (n := x.f0 * m) (by omega) (by omega), w64 (n := x.f1 * m) (by omega) (by omega), w64 (n := x.f0 * m + i) (by omega) (by omega), w64 (n := x.f1 * m + _) (by omega) (by omega)]
    simp only [if_pos (show i < m by omega), if_neg (show ¬ (m = 0) by omega)]
    simp only [arcPairs, irange, List.map_cons, allNew, putNs, List.foldl_cons]
    have hh := spec_l01Has.sp (n * m) rows (x.f0 * m + i) (x.f1 * m + (i + x.f2) % m) (by omega) (by omega) (by omega) (by omega)
    have step : ∀ (b : Bool), (b = true → x.f0 * m + i = x.f1 * m + (i + x.f2) % m ∨ dig (rd rows (x.f0 * m + i)) (x.f1 * m + (i + x.f2) % m).toNat = true) → (b = false → ¬ (x.f0 * m + i = x.f1 * m + (i + x.f2) % m) ∧ dig (rd rows (x.f0 * m + i)) (x.f1 * m + (i + x.f2) % m).toNat = false) →
        Ev (fun q => spec_l03Lift.j2 q g (j : Int) i (x.f0 * m + i) (x.f1 * m + (i + x.f2) % m) b n m l (n * m) rows x.f0 x.f1 x.f2)
          (F (g && (newP rows (x.f0 * m + i, x.f1 * m + (i + x.f2) % m) && allNew (putN rows (x.f0 * m + i, x.f1 * m + (i + x.f2) % m)) ((irange (i + 1) d).map fun i => (x.f0 * m + i, x.f1 * m + (i + x.f2) % m))))
            (((irange (i + 1) d).map fun i => (x.f0 * m + i, x.f1 * m + (i + x.f2) % m)).foldl putN (putN rows (x.f0 * m + i, x.f1 * m + (i + x.f2) % m)))) := by
      intro b hb1 hb2
      refine Ev.step (fun k => spec_l03Lift.j2.eq_2 ..) ?_
      rw [w64 (n := i + 1) (by omega) (by omega)]
      by_cases hb : b = true
      · simp only [if_pos hb]
        have hw : newP rows (x.f0 * m + i, x.f1 * m + (i + x.f2) % m) = false := by
          unfold newP
          rcases hb1 hb with c | c
          · simp [c]
          · simp [c]
        rw [hw]
        have key := fun rows' (hr : ((rows' : List Int).length : Int) = n * m) => ih (i + 1) false rows' hr (by omega) (by omega)
        simp only [Bool.false_and] at key
        simp only [Bool.false_and, Bool.and_false]
        by_cases c : x.f0 * m + i = x.f1 * m + (i + x.f2) % m
        · simp only [if_pos c]
          have hp : putN rows (x.f0 * m + i, x.f1 * m + (i + x.f2) % m) = rows := by unfold putN; rw [if_pos c]
          rw [hp]
          exact key rows h1
        · simp only [if_neg c]
          have hp : putN rows (x.f0 * m + i, x.f1 * m + (i + x.f2) % m) = putE rows (x.f0 * m + i) (x.f1 * m + (i + x.f2) % m) := by unfold putN; rw [if_neg c]
          rw [hp, spec_l01Put.sp _ _ _ _ (by omega) (by omega) (by omega) (by omega) (by omega)]
          simp only [Option.bind_some]
          exact key _ (by rw [putE_length]; exact h1)
      · simp only [if_neg hb]
        obtain ⟨c, c2⟩ := hb2 (by simpa using hb)
        have hw : newP rows (x.f0 * m + i, x.f1 * m + (i + x.f2) % m) = true := by
          unfold newP
          simp [c, c2]
        rw [hw]
        simp only [if_neg c, Bool.true_and]
        have hp : putN rows (x.f0 * m + i, x.f1 * m + (i + x.f2) % m) = putE rows (x.f0 * m + i) (x.f1 * m + (i + x.f2) % m) := by unfold putN; rw [if_neg c]
        rw [hp, spec_l01Put.sp _ _ _ _ (by omega) (by omega) (by omega) (by omega) (by omega)]
        simp only [Option.bind_some]
        exact ih (i + 1) g _ (by rw [putE_length]; exact h1) (by omega) (by omega)
    by_cases c : x.f0 * m + i = x.f1 * m + (i + x.f2) % m
    · simp only [if_pos c]
      exact step true (fun _ => .inl c) (fun a => by cases a)
    · simp only [if_neg c, hh, Option.bind_some]
      exact step _ (fun a => .inr a) (fun a => ⟨c, a⟩)
theorem spec_l03Lift.ev_0 (n m : Int) (l : List S51) (h : BaseOK n m l) (d : Nat) : ∀ (j : Nat) (g : Bool) (rows : List Int), (rows.length : Int) = n * m → j + d = l.length →
    Ev (fun q => spec_l03Lift.l0 q g (j : Int) n m l (n * m) rows) (n * m, putNs rows (liftPairs m (l.drop j)), g && allNew rows (liftPairs m (l.drop j))) := by
  have hm := h.2.2.1
  induction d with
  | zero =>
    intro j g rows h1 h2
    refine Ev.step (fun k => spec_l03Lift.l0.eq_2 ..) ?_
    simp only [if_neg (show ¬ ((j : Int) < (l.length : Int)) by omega)]
    rw [List.drop_eq_nil_of_le (by omega)]
    exact ev_some (by simp [liftPairs, allNew, putNs])
  | succ d ih =>
    intro j g rows h1 h2
    refine Ev.step (fun k => spec_l03Lift.l0.eq_2 ..) ?_
    simp only [if_pos (show (j : Int) < (l.length : Int) by omega), if_pos (show (0 : Int) ≤ (j : Int) by omega)]
    have hx := h.2.2.2.2.2.2 j (by omega) (by omega)
    have := spec_l03Lift.ev_1 n m l h j (by omega) _ hx (fun g rows => (n * m, putNs rows (liftPairs m (l.drop (j + 1))), g && allNew rows (liftPairs m (l.drop (j + 1))))) (fun g rows hr => ih (j + 1) g rows hr (by omega)) m.toNat 0 g rows h1 (by omega) (by omega)
    refine ev_cast this ?_
    rw [List.drop_eq_getElem_cons (show j < l.length by omega), ← rd_iArc (show j < l.length by omega)]
    unfold liftPairs
    rw [List.flatMap_cons, putNs_append, allNew_append, Bool.and_assoc]
theorem spec_l03Lift.ev (n m : Int) (l : List S51) (h : BaseOK n m l) : Ev (fun q => spec_l03Lift.f q n m l) (n * m, putNs (List.replicate (n * m).toNat 0) (liftPairs m l), allNew (List.replicate (n * m).toNat 0) (liftPairs m l)) := by
  unfold spec_l03Lift.f
  have hb := base_mul ⟨h.1, h.2.1⟩ ⟨h.2.2.1, h.2.2.2.1⟩
  rw [w64 (n := n * m) (by omega) (by omega), spec_l01Empty.sp _ (by omega) (by omega)]
  have := spec_l03Lift.ev_0 n m l h l.length 0 true (List.replicate (n * m).toNat 0) (by rw [List.length_replicate]; omega) (by omega)
  rw [List.drop_zero, Bool.true_and] at this
  exact this

theorem impl_list.ev_l (n : Nat) (hn : n ≤ 62) (d : Nat) : ∀ (i x : Nat) (acc : List Int), i + d = n → x < 2 ^ n → acc.length ≤ i → (∀ j, j < i → x.testBit j = false) →
    Ev (fun q => impl_list.l0 q (x : Int) acc) (acc ++ bitsFrom d i (x : Int)) := by
  have hp := pow62 hn
  induction d with
  | zero =>
    intro i x acc e hx ha h
    have x0 : x = 0 := by
      refine Nat.eq_of_testBit_eq fun j => ?_
      rw [Nat.zero_testBit]
      rcases Nat.lt_or_ge j n with c | c
      · exact h j (by omega)
      · exact Nat.testBit_lt_two_pow (Nat.lt_of_lt_of_le hx (Nat.pow_le_pow_right (by decide) c))
    refine Ev.step (fun k => impl_list.l0.eq_2 ..) ?_
    rw [x0]
    simp only [if_pos (show ((0 : Nat) : Int) = 0 from rfl), bitsFrom, List.append_nil]
    exact Ev.now _
  | succ d ih =>
    intro i x acc e hx ha h
    by_cases c : x.testBit i = true
    · obtain ⟨h1, h2⟩ := low_bit c h (by omega)
      have x0 : x ≠ 0 := fun a => by rw [a] at c; simp at c
      refine Ev.step (fun k => impl_list.l0.eq_2 ..) ?_
      rw [bits_TrailingZeros64.sp (by omega), h1, w64 (by omega) (by omega), show (x : Int) - 1 = ((x - 1 : Nat) : Int) by omega, bit_and _ _ (by omega) (by omega)]
      simp only [if_neg (show ¬ ((x : Int) = 0) by omega), Option.bind_some, if_pos (show acc.length < 17592186044416 by omega)]
      have := ih (i + 1) (x &&& (x - 1)) (acc ++ [(i : Int)]) (by omega) (Nat.lt_of_le_of_lt Nat.and_le_left hx) (by rw [List.length_append]; simp only [List.length_cons, List.length_nil]; omega) (fun j hj => by
        rw [h2 j]
        rcases Nat.lt_succ_iff_lt_or_eq.1 hj with a | rfl
        · rw [h j a]; rfl
        · simp)
      refine ev_cast this ?_
      have cd : dig (x : Int) i = true := by rw [dig_nat]; exact c
      simp only [bitsFrom, if_pos cd, List.append_assoc, List.singleton_append]
      rw [bitsFrom_congr fun j a b => ?_]
      rw [dig_nat, dig_nat, h2 j]
      simp [show j ≠ i by omega]
    · have cd : ¬ dig (x : Int) i = true := by rw [dig_nat]; exact c
      simp only [bitsFrom, if_neg cd]
      refine ih (i + 1) x acc (by omega) hx (by omega) fun j hj => ?_
      rcases Nat.lt_succ_iff_lt_or_eq.1 hj with a | rfl
      · exact h j a
      · simpa using c
theorem impl_list.ev {n : Nat} (hn : n ≤ 62) {x : Nat} (hx : x < 2 ^ n) : Ev (fun q => impl_list.f q (x : Int)) (bitsFrom n 0 (x : Int)) := by
  unfold impl_list.f
  exact impl_list.ev_l n hn n 0 x [] (by omega) hx (by simp) (fun j hj => by omega)

theorem impl_all.sp {n : Int} (h0 : 0 ≤ n) (h1 : n ≤ 62) : impl_all.f n = some (((2 ^ n.toNat - 1 : Nat)) : Int) := by
  unfold impl_all.f
  have hp : 1 ≤ 2 ^ n.toNat := Nat.one_le_two_pow
  have hq := pow62 (n := n.toNat) (by omega)
  rw [if_pos h0, shl_one h0 h1]
  generalize 2 ^ n.toNat = P at *
  rw [w64 (by omega) (by omega)]
  congr 1
  omega

section
variable {n : Int} {rows : List Int} (g : IsG n rows)
include g
theorem impl_Graph_part.ev_1 {S F : Nat} (hF : F < 2 ^ n.toNat) (R : Int)
    (next : ∀ N : Nat, N < 2 ^ n.toNat → (∀ j, N.testBit j = true ↔ ∃ u, u < n.toNat ∧ F.testBit u = true ∧ Adj rows u j) →
      Ev (fun q => impl_Graph_part.l0 q (Go.bits .or .i64 (S : Int) (N : Int)) (Go.bits .andNot .i64 (N : Int) (S : Int)) n rows) R) (d : Nat) :
    ∀ (i A : Nat), i + d = (bitsFrom n.toNat 0 (F : Int)).length → A < 2 ^ n.toNat →
      (∀ j, A.testBit j = true ↔ ∃ k : Nat, k < i ∧ ∃ u : Nat, rd (bitsFrom n.toNat 0 (F : Int)) (k : Int) = (u : Int) ∧ Adj rows u j) →
      Ev (fun q => impl_Graph_part.l1 q (S : Int) (A : Int) (bitsFrom n.toNat 0 (F : Int)) ((bitsFrom n.toNat 0 (F : Int)).length : Int) (i : Int) n rows) R := by
  have hn := g.le
  have hp := pow62 hn
  have hlen := bitsFrom_length (F : Int) n.toNat 0
  have hrl := g.len
  have elem : ∀ k : Nat, k < (bitsFrom n.toNat 0 (F : Int)).length → ∃ u : Nat, rd (bitsFrom n.toNat 0 (F : Int)) (k : Int) = (u : Int) ∧ u < n.toNat ∧ F.testBit u = true := fun k hk => by
    obtain ⟨u, a, _, b, c⟩ := mem_bitsFrom.1 (rd_mem (l := bitsFrom n.toNat 0 (F : Int)) (i := (k : Int)) (by omega) (by omega))
    exact ⟨u, a, by omega, by rw [← dig_nat]; exact c⟩
  induction d with
  | zero =>
    intro i A e hA hAb
    refine Ev.step (fun k => impl_Graph_part.l1.eq_2 ..) ?_
    simp only [if_neg (show ¬ ((i : Int) < ((bitsFrom n.toNat 0 (F : Int)).length : Int)) by omega)]
    refine next A hA fun j => (hAb j).trans ⟨?_, ?_⟩
    · rintro ⟨k, hk, u, hu, ha⟩
      obtain ⟨u', a, b, c⟩ := elem k (by omega)
      have : u = u' := by omega
      subst this
      exact ⟨u, b, c, ha⟩
    · rintro ⟨u, hu, hb, ha⟩
      have : (u : Int) ∈ bitsFrom n.toNat 0 (F : Int) := mem_bitsFrom.2 ⟨u, rfl, by omega, by omega, by rw [dig_nat]; exact hb⟩
      obtain ⟨k, hk, hr⟩ := mem_rd.1 this
      exact ⟨k, by omega, u, hr, ha⟩
  | succ d ih =>
    intro i A e hA hAb
    refine Ev.step (fun k => impl_Graph_part.l1.eq_2 ..) ?_
    obtain ⟨u, hu, hun, _⟩ := elem i (by omega)
    obtain ⟨x, hx, hx1⟩ := IsG_row g (v := (u : Int)) (by omega) (by omega)
    rw [hu, hx, w64 (by omega) (by omega), bit_or _ _ (by omega) (by omega)]
    simp only [if_pos (show (i : Int) < ((bitsFrom n.toNat 0 (F : Int)).length : Int) by omega), if_pos (show (0 : Int) ≤ (i : Int) by omega), if_pos (show (0 : Int) ≤ (u : Int) by omega), if_pos (show (u : Int) < (rows.length : Int) by omega)]
    refine ih (i + 1) (A ||| x) (by omega) (Nat.or_lt_two_pow hA hx1) fun j => ?_
    rw [Nat.testBit_or, Bool.or_eq_true, hAb j]
    have hxb : x.testBit j = true ↔ Adj rows u j := by unfold Adj; rw [hx, dig_nat]
    rw [hxb]
    constructor
    · rintro (⟨k, a, b⟩ | a)
      · exact ⟨k, by omega, b⟩
      · exact ⟨i, by omega, u, hu, a⟩
    · rintro ⟨k, a, u', b, c⟩
      rcases Nat.lt_succ_iff_lt_or_eq.1 a with a | rfl
      · exact .inl ⟨k, a, u', b, c⟩
      · have : u' = u := by omega
        subst this
        exact .inr c
/-- What a vertex reaches, as bits. -/
noncomputable def partOf (rows : List Int) (n v : Nat) : Nat := bsum n fun w => decide (Way rows n v w)
theorem impl_Graph_part.ev_0 {v : Nat} (hv : v < n.toNat) (d : Nat) : ∀ (S F : Nat), S < 2 ^ n.toNat → F < 2 ^ n.toNat → (∀ j, F.testBit j = true → S.testBit j = true) → S.testBit v = true → (∀ j, S.testBit j = true → Way rows n.toNat v j) →
    (∀ x y, x < n.toNat → y < n.toNat → S.testBit x = true → F.testBit x = false → Adj rows x y → S.testBit y = true) → (F = 0 ∨ 2 ^ n.toNat - S < d) →
    Ev (fun q => impl_Graph_part.l0 q (S : Int) (F : Int) n rows) ((partOf rows n.toNat v : Nat) : Int) := by
  have hn := g.le
  have hp := pow62 hn
  have done : ∀ (S : Nat), S < 2 ^ n.toNat → S.testBit v = true → (∀ j, S.testBit j = true → Way rows n.toNat v j) →
      (∀ x y, x < n.toNat → y < n.toNat → S.testBit x = true → (0 : Nat).testBit x = false → Adj rows x y → S.testBit y = true) →
      Ev (fun q => impl_Graph_part.l0 q (S : Int) ((0 : Nat) : Int) n rows) ((partOf rows n.toNat v : Nat) : Int) := by
    intro S hS h1 h2 h3
    refine Ev.step (fun k => impl_Graph_part.l0.eq_2 ..) ?_
    simp only [if_pos (show ((0 : Nat) : Int) = 0 from rfl)]
    refine ev_some ?_
    congr 1
    refine Nat.eq_of_testBit_eq fun j => ?_
    unfold partOf
    rw [bsum_bit]
    by_cases c : S.testBit j = true
    · have w := h2 j c
      rw [c, decide_eq_true (w.lt hv), decide_eq_true w]; rfl
    · have c' : S.testBit j = false := by simpa using c
      rw [c']
      by_cases jn : j < n.toNat
      · have nw : ¬ Way rows n.toNat v j := fun w => c (closed_way (P := fun j => S.testBit j = true) h1 (fun x y hx hy a b => h3 x y hx hy a (Nat.zero_testBit _) b) j w)
        rw [decide_eq_false nw, Bool.and_false]
      · rw [decide_eq_false jn, Bool.false_and]
  induction d with
  | zero =>
    intro S F hS hF h0 h1 h2 h3 h4
    have : F = 0 := by rcases h4 with h | h <;> omega
    subst this
    exact done S hS h1 h2 h3
  | succ d ih =>
    intro S F hS hF h0 h1 h2 h3 h4
    by_cases f0 : F = 0
    · subst f0; exact done S hS h1 h2 h3
    · refine Ev.step (fun k => impl_Graph_part.l0.eq_2 ..) ?_
      simp only [if_neg (show ¬ ((F : Int) = 0) by omega)]
      refine Ev.bind (impl_list.ev hn hF) ?_
      refine impl_Graph_part.ev_1 g (S := S) hF _ (fun N hN hNb => ?_) (bitsFrom n.toNat 0 (F : Int)).length 0 0 (by omega) (Nat.two_pow_pos _) (fun j => by
        rw [Nat.zero_testBit]
        exact ⟨fun a => (by cases a), fun ⟨k, a, _⟩ => by omega⟩)
      obtain ⟨G, hG, hGb⟩ := bit_andNot N S (by omega) (by omega)
      have hG1 : G < 2 ^ n.toNat := by
        refine Nat.lt_pow_two_of_testBit _ fun i hi => ?_
        rw [hGb i, Nat.testBit_lt_two_pow (Nat.lt_of_lt_of_le hN (Nat.pow_le_pow_right (by decide) hi))]; rfl
      rw [hG, bit_or _ _ (by omega) (by omega)]
      have wN : ∀ j, N.testBit j = true → Way rows n.toNat v j := fun j hj => by
        obtain ⟨u, a, b, c⟩ := (hNb j).1 hj
        have jn : j < n.toNat := by
          rcases Nat.lt_or_ge j n.toNat with x | x
          · exact x
          · rw [Nat.testBit_lt_two_pow (Nat.lt_of_lt_of_le hN (Nat.pow_le_pow_right (by decide) x))] at hj; cases hj
        exact .step (h2 u (h0 u b)) a jn c
      have hSN : S ||| N < 2 ^ n.toNat := Nat.or_lt_two_pow hS hN
      have hle : S ≤ S ||| N := Nat.left_le_or
      refine ih (S ||| N) G hSN hG1 (fun j hj => ?_) (by rw [Nat.testBit_or, h1]; rfl) (fun j hj => ?_) (fun x y hx hy a b c => ?_) ?_
      · rw [hGb j] at hj
        rw [Nat.testBit_or]
        simp only [Bool.and_eq_true] at hj
        rw [hj.1]; simp
      · rw [Nat.testBit_or, Bool.or_eq_true] at hj
        exact hj.elim (h2 j) (wN j)
      · rw [Nat.testBit_or, Bool.or_eq_true] at a ⊢
        rw [hGb x] at b
        have sx : S.testBit x = true := by
          rcases a with a | a
          · exact a
          · rw [a] at b; simpa using b
        by_cases fx : F.testBit x = true
        · exact .inr ((hNb y).2 ⟨x, hx, fx, c⟩)
        · exact .inl (h3 x y hx hy sx (by simpa using fx) c)
      · by_cases g0 : G = 0
        · exact .inl g0
        · refine .inr ?_
          have ne : S ||| N ≠ S := fun a => by
            refine g0 (Nat.eq_of_testBit_eq fun i => ?_)
            rw [hGb i, Nat.zero_testBit]
            by_cases x : N.testBit i = true
            · have : (S ||| N).testBit i = true := by rw [Nat.testBit_or, x]; simp
              rw [a] at this
              rw [x, this]; rfl
            · have : N.testBit i = false := by simpa using x
              rw [this]; rfl
          have := h4.resolve_left f0
          omega
theorem impl_Graph_part.ev (v : Nat) (hv : v < n.toNat) : Ev (fun q => impl_Graph_part.f q n rows (v : Int)) ((partOf rows n.toNat v : Nat) : Int) := by
  have hn := g.le
  have hp := pow62 hn
  unfold impl_Graph_part.f
  simp only [if_pos (show (0 : Int) ≤ (v : Int) by omega)]
  rw [shl_one (by omega) (by omega), Int.toNat_natCast]
  have hb : 2 ^ v < 2 ^ n.toNat := Nat.pow_lt_pow_right (by decide) hv
  refine impl_Graph_part.ev_0 g hv (2 ^ n.toNat + 1) (2 ^ v) (2 ^ v) hb hb (fun _ a => a) (by rw [Nat.testBit_two_pow]; simp) (fun j hj => ?_) (fun x y _ _ a b _ => ?_) (.inr (Nat.lt_succ_of_le (Nat.sub_le _ _)))
  · rw [Nat.testBit_two_pow, decide_eq_true_eq] at hj
    subst hj; exact .refl
  · rw [a] at b; cases b
end

/-- The parts whose leaders are at least i. -/
noncomputable def partsFrom (rows : List Int) (n : Nat) (L : List Int) : Nat → Nat → List (List Int)
  | 0, _ => []
  | d + 1, i => if rd L (i : Int) = (i : Int) then bitsFrom n 0 ((partOf rows n i : Nat) : Int) :: partsFrom rows n L d (i + 1) else partsFrom rows n L d (i + 1)
theorem partsFrom_length (rows : List Int) (n : Nat) (L : List Int) (d : Nat) : ∀ i, (partsFrom rows n L d i).length = ownFrom L d i := by
  induction d with
  | zero => intro i; rfl
  | succ d ih =>
    intro i
    simp only [partsFrom, ownFrom]
    split
    · rw [List.length_cons, ih]; omega
    · rw [ih]; omega
theorem bitsFrom_skip {r : Int} (d : Nat) : ∀ {i j : Nat}, i ≤ j → j < i + d → dig r j = true → (∀ k, i ≤ k → k < j → dig r k = false) → ∃ t, bitsFrom d i r = (j : Int) :: t := by
  induction d with
  | zero => intro i j a b; omega
  | succ d ih =>
    intro i j a b c e
    by_cases h : i = j
    · subst h; exact ⟨_, by rw [bitsFrom, if_pos c]⟩
    · obtain ⟨t, ht⟩ := ih (i := i + 1) (j := j) (by omega) (by omega) c (fun k x y => e k (by omega) y)
      refine ⟨t, ?_⟩
      have := e i (by omega) (by omega)
      rw [bitsFrom, if_neg (by rw [this]; simp), ht]
theorem impl_Graph_parts.ev_l {n : Int} {rows : List Int} (g : IsG n rows) {L : List Int} (hL : Leads rows n.toNat n.toNat L) (d : Nat) : ∀ (i R : Nat) (acc : List (List Int)), i + d = n.toNat → R < 2 ^ n.toNat → acc.length ≤ i →
    (∀ w, R.testBit w = true ↔ w < n.toNat ∧ ∀ u, u < i → ¬ Way rows n.toNat u w) →
    Ev (fun q => impl_Graph_parts.l0 q acc (R : Int) n rows) (acc ++ partsFrom rows n.toNat L d i) := by
  have hn := g.le
  have hp := pow62 hn
  induction d with
  | zero =>
    intro i R acc e hR ha hb
    refine Ev.step (fun k => impl_Graph_parts.l0.eq_2 ..) ?_
    have : R = 0 := Nat.eq_of_testBit_eq fun w => by
      rw [Nat.zero_testBit]
      by_cases c : R.testBit w = true
      · obtain ⟨a, b⟩ := (hb w).1 c
        exact absurd .refl (b w (by omega))
      · simpa using c
    subst this
    simp only [if_pos (show ((0 : Nat) : Int) = 0 from rfl), partsFrom, List.append_nil]
    exact Ev.now _
  | succ d ih =>
    intro i R acc e hR ha hb
    have hi : i < n.toNat := by omega
    by_cases c : rd L (i : Int) = (i : Int)
    · -- i leads a part
      have hlead : ∀ u, u < i → ¬ Way rows n.toNat u i := by
        rcases hL.2 i hi with ⟨_, a⟩ | ⟨u, _, a, _, b⟩
        · exact absurd .refl (a i hi)
        · have : u = i := by omega
          subst this; exact b
      have hRi : R.testBit i = true := (hb i).2 ⟨hi, hlead⟩
      have R0 : R ≠ 0 := fun a => by rw [a, Nat.zero_testBit] at hRi; cases hRi
      obtain ⟨t, ht⟩ := bitsFrom_skip (r := (R : Int)) n.toNat (i := 0) (j := i) (by omega) (by omega) (by rw [dig_nat]; exact hRi) (fun k _ hk => by
        rw [dig_nat]
        by_cases x : R.testBit k = true
        · exact absurd .refl (((hb k).1 x).2 k hk)
        · simpa using x)
      refine Ev.step (fun k => impl_Graph_parts.l0.eq_2 ..) ?_
      simp only [if_neg (show ¬ ((R : Int) = 0) by omega)]
      refine Ev.bind (impl_list.ev hn hR) ?_
      rw [ht]
      have hr0 : rd ((i : Int) :: t) 0 = (i : Int) := rfl
      simp only [if_pos (show (0 : Int) < ((((i : Int) :: t).length : Nat) : Int) by simp only [List.length_cons]; omega), hr0]
      refine Ev.bind (impl_Graph_part.ev g i hi) ?_
      have hpo : partOf rows n.toNat i < 2 ^ n.toNat := bsum_lt _ _
      refine Ev.bind (impl_list.ev hn hpo) ?_
      obtain ⟨R', hR', hRb⟩ := bit_andNot R (partOf rows n.toNat i) (by omega) (by omega)
      simp only [if_pos (show acc.length < 5864062014805 by omega), hR']
      have hpb : ∀ w, (partOf rows n.toNat i).testBit w = decide (w < n.toNat ∧ Way rows n.toNat i w) := fun w => by
        unfold partOf; rw [bsum_bit, ← Bool.decide_and]
      have hR1 : R' < 2 ^ n.toNat := Nat.lt_pow_two_of_testBit _ fun w hw => by
        rw [hRb w, Nat.testBit_lt_two_pow (Nat.lt_of_lt_of_le hR (Nat.pow_le_pow_right (by decide) hw))]; rfl
      refine ev_cast (ih (i + 1) R' _ (by omega) hR1 (by rw [List.length_append]; simp only [List.length_cons, List.length_nil]; omega) fun w => ?_) ?_
      · rw [hRb w, hpb w]
        simp only [Bool.and_eq_true, Bool.not_eq_true', decide_eq_false_iff_not]
        rw [hb w]
        constructor
        · rintro ⟨⟨a, b⟩, x⟩
          refine ⟨a, fun u hu => ?_⟩
          rcases Nat.lt_succ_iff_lt_or_eq.1 hu with y | rfl
          · exact b u y
          · exact fun z => x ⟨a, z⟩
        · rintro ⟨a, b⟩
          exact ⟨⟨a, fun u hu => b u (by omega)⟩, fun x => b i (by omega) x.2⟩
      · rw [partsFrom, if_pos c, List.append_assoc, List.singleton_append]
    · rw [partsFrom, if_neg c]
      refine ih (i + 1) R acc (by omega) hR (by omega) fun w => (hb w).trans ⟨fun ⟨a, b⟩ => ⟨a, fun u hu => ?_⟩, fun ⟨a, b⟩ => ⟨a, fun u hu => b u (by omega)⟩⟩
      rcases Nat.lt_succ_iff_lt_or_eq.1 hu with y | rfl
      · exact b u y
      · intro hw
        rcases hL.2 u hi with ⟨_, x⟩ | ⟨t, t1, t2, t3, t4⟩
        · exact absurd .refl (x u hi)
        · by_cases tu : t = u
          · subst tu; exact c t2
          · have : t < u := by
              rcases Nat.lt_trichotomy t u with h | h | h
              · exact h
              · exact absurd h tu
              · exact absurd .refl (t4 u h)
            exact b t this (t3.trans hw)
noncomputable def partsL (rows : List Int) (n : Nat) : List (List Int) := partsFrom rows n (leadL rows n) n 0
theorem impl_Graph_parts.ev {n : Int} {rows : List Int} (g : IsG n rows) : Ev (fun q => impl_Graph_parts.f q n rows) (partsL rows n.toNat) := by
  have hn := g.le
  have hp := pow62 hn
  have hq := Nat.one_le_two_pow (n := n.toNat)
  unfold impl_Graph_parts.f
  rw [impl_all.sp (n := n) (by have := g.1; omega) g.2.1]
  simp only [Option.bind_some]
  have := impl_Graph_parts.ev_l g (leadL_leads rows n.toNat) n.toNat 0 (2 ^ n.toNat - 1) [] (by omega) (by omega) (by simp) (fun w => by
    rw [Nat.testBit_two_pow_sub_one, decide_eq_true_eq]
    exact ⟨fun a => ⟨a, fun u hu => by omega⟩, fun a => a.1⟩)
  rw [List.nil_append] at this
  exact this

/-- Edges put in, whose ends lie below N. -/
theorem putNs_gr {N : Nat} (hN : N ≤ 62) (ps : List (Int × Int)) : ∀ (E : Nat → Nat → Prop), (∀ p ∈ ps, 0 ≤ p.1 ∧ p.1 < N ∧ 0 ≤ p.2 ∧ p.2 < N) → (∀ v w, E v w ↔ E w v) → (∀ v, ¬ E v v) →
    ∃ F : Nat → Nat → Prop, putNs (gr N E) ps = gr N F ∧ (∀ v w, F v w ↔ F w v) ∧ ∀ v, ¬ F v v := by
  induction ps with
  | nil => intro E _ h1 h2; exact ⟨E, rfl, h1, h2⟩
  | cons p ps ih =>
    intro E hp h1 h2
    obtain ⟨a, b⟩ := p
    obtain ⟨a0, a1, b0, b1⟩ := hp (a, b) (by simp)
    simp only at a0 a1 b0 b1
    have hps : ∀ p ∈ ps, 0 ≤ p.1 ∧ p.1 < N ∧ 0 ≤ p.2 ∧ p.2 < N := fun p h => hp p (by simp [h])
    show ∃ F : Nat → Nat → Prop, putNs (putN (gr N E) (a, b)) ps = gr N F ∧ _
    by_cases c : a = b
    · have : putN (gr N E) (a, b) = gr N E := by unfold putN; rw [if_pos c]
      rw [this]; exact ih E hps h1 h2
    · obtain ⟨x, rfl⟩ := Int.eq_ofNat_of_zero_le a0
      obtain ⟨y, rfl⟩ := Int.eq_ofNat_of_zero_le b0
      have : putN (gr N E) ((x : Int), (y : Int)) = putE (gr N E) (x : Int) (y : Int) := by unfold putN; rw [if_neg c]
      rw [this, gr_put hN (by omega) (by omega)]
      refine ih _ hps (fun v w => ?_) (fun v => ?_)
      · have := h1 v w
        constructor
        · rintro (h | h | h)
          · exact .inl (this.1 h)
          · exact .inr (.inr ⟨h.2, h.1⟩)
          · exact .inr (.inl ⟨h.2, h.1⟩)
        · rintro (h | h | h)
          · exact .inl (this.2 h)
          · exact .inr (.inr ⟨h.2, h.1⟩)
          · exact .inr (.inl ⟨h.2, h.1⟩)
      · rintro (h | h | h)
        · exact h2 v h
        · omega
        · omega
theorem liftPairs_in {n m : Int} {l : List S51} (h : BaseOK n m l) : ∀ p ∈ liftPairs m l, 0 ≤ p.1 ∧ p.1 < n * m ∧ 0 ≤ p.2 ∧ p.2 < n * m := by
  intro p hp
  have hn := And.intro h.1 h.2.1
  have hm := And.intro h.2.2.1 h.2.2.2.1
  have hnm := h.2.2.2.2.1
  obtain ⟨x, hx, hp2⟩ := List.mem_flatMap.1 hp
  obtain ⟨j, hj, rfl⟩ := List.mem_iff_getElem.1 hx
  obtain ⟨x0, x1, x2, x3, x4, x5⟩ := h.2.2.2.2.2.2 j (by omega) hj
  rw [rd_iArc hj] at x0 x1 x2 x3 x4 x5
  obtain ⟨i, hi, rfl⟩ := List.mem_map.1 hp2
  rw [mem_irange] at hi
  have e1 := Int.emod_nonneg (i + l[j].f2) (show m ≠ 0 by omega)
  have e2 := Int.emod_lt_of_pos (i + l[j].f2) (show 0 < m by omega)
  have f1 := lift_in hn hm hnm x0 x1 (i := i) (by omega) (by omega)
  have f2 := lift_in hn hm hnm x2 x3 e1 e2
  simp only
  omega
/-- The rows of the lift. -/
def liftG (n m : Int) (l : List S51) : List Int := putNs (List.replicate (n * m).toNat 0) (liftPairs m l)
theorem liftG_isG {n m : Int} {l : List S51} (h : BaseOK n m l) : IsG (n * m) (liftG n m l) := by
  have hnm := h.2.2.2.2.1
  have hpos : 1 ≤ n * m := by
    have := Int.mul_le_mul (a := 1) (b := 1) (c := n) (d := m) h.1 h.2.2.1 (by omega) (by have := h.1; omega)
    omega
  unfold liftG
  rw [gr_empty]
  obtain ⟨F, e, f1, f2⟩ := putNs_gr (N := (n * m).toNat) (by omega) (liftPairs m l) (fun _ _ => False) (fun p hp => by have := liftPairs_in h p hp; omega) (fun _ _ => Iff.rfl) (fun _ => id)
  rw [e]
  have := IsG.of_gr (n := (n * m).toNat) (by omega) (by omega) (fun v w _ _ => f1 v w) (fun v _ => f2 v)
  rw [show (((n * m).toNat : Nat) : Int) = n * m by omega] at this
  exact this

noncomputable def lpartsR (n m : Int) (l : List S51) : Int × Int := if BaseOK n m l then ((ownFrom (leadL (liftG n m l) (n * m).toNat) (n * m).toNat 0 : Nat), 0) else (0, 1)
theorem spec_LiftParts.ev (n m : Int) (l : List S51) : Ev (fun q => spec_LiftParts.f q n m l) (lpartsR n m l) := by
  unfold spec_LiftParts.f lpartsR
  refine Ev.bind (spec_l03Is.ev n m l) ?_
  by_cases h : BaseOK n m l
  · simp only [h, decide_true, if_true]
    refine Ev.bind (spec_l03Lift.ev n m l h) ?_
    exact Ev.bind (spec_l01Parts.ev (liftG_isG h)) (Ev.now _)
  · simp only [h, decide_false, Bool.false_eq_true, if_false]
    exact Ev.now _
theorem impl_LiftParts.ev (n m : Int) (l : List S51) : Ev (fun q => impl_LiftParts.f q n m l) (lpartsR n m l) := by
  unfold impl_LiftParts.f lpartsR
  simp only [impl_IsBase.sp, Option.bind_some]
  by_cases h : BaseOK n m l
  · simp only [h, decide_true, if_true]
    refine Ev.bind (impl_lift.ev n m l h) ?_
    refine Ev.bind (impl_Graph_parts.ev (liftG_isG h)) ?_
    refine ev_some ?_
    unfold partsL
    rw [partsFrom_length]
    rfl
  · simp only [h, decide_false, Bool.false_eq_true, if_false]
    exact Ev.now _

end Go.Proofs.YtdieobmhmkdjmaaDoor.XFnExactLiftParts
