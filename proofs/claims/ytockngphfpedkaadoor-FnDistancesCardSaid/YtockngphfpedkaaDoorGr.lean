/- Graphs as relations on numbers: the rows of bits that belong to a relation, an edge put in, the test for a graph. -/
import Derived.Test.YtockngphfpedkaaDoorBase
namespace Go.Proofs.YtockngphfpedkaaDoor.B
open Go.RowKit Go.Proofs.YtockngphfpedkaaDoorW.PrintWords
set_option linter.unusedVariables false
set_option linter.unusedSimpArgs false
open Classical

/-! ### numbers by their digits -/
/-- The number whose digits at 0 to n - 1 are told by f. -/
def bsum : Nat → (Nat → Bool) → Nat
  | 0, _ => 0
  | n + 1, f => bsum n f + (if f n then 2 ^ n else 0)
theorem bsum_lt (n : Nat) (f : Nat → Bool) : bsum n f < 2 ^ n := by
  induction n with
  | zero => simp [bsum]
  | succ n ih => simp only [bsum]; split <;> (rw [Nat.pow_succ]; omega)
theorem bsum_bit (n : Nat) (f : Nat → Bool) (i : Nat) : (bsum n f).testBit i = (decide (i < n) && f i) := by
  induction n with
  | zero => simp [bsum]
  | succ n ih =>
    simp only [bsum]
    have hlt := bsum_lt n f
    by_cases hf : f n = true
    · rw [if_pos hf]
      by_cases hin : i = n
      · subst hin
        rw [Nat.add_comm, Nat.testBit_two_pow_add_eq, Nat.testBit_lt_two_pow hlt]
        simp [hf]
      · rcases Nat.lt_or_gt_of_ne hin with h | h
        · rw [Nat.add_comm, Nat.testBit_two_pow_add_gt h, ih]
          simp [h, Nat.lt_succ_of_lt h]
        · have : bsum n f + 2 ^ n < 2 ^ i := by
            have : 2 ^ (n + 1) ≤ 2 ^ i := Nat.pow_le_pow_right (by decide) h
            rw [Nat.pow_succ] at this
            omega
          rw [Nat.testBit_lt_two_pow this]
          have : ¬ i < n + 1 := by omega
          simp [this]
    · rw [if_neg hf, Nat.add_zero, ih]
      by_cases hin : i = n
      · subst hin; simp [Bool.eq_false_iff.mpr hf]
      · have : (i < n) ↔ (i < n + 1) := by omega
        simp [this]
theorem bsum_eq {n : Nat} {f g : Nat → Bool} (h : ∀ i, i < n → f i = g i) : bsum n f = bsum n g := by
  refine Nat.eq_of_testBit_eq fun i => ?_
  rw [bsum_bit, bsum_bit]
  by_cases hi : i < n
  · rw [h i hi]
  · simp [hi]
theorem bsum_of (n a : Nat) (h : a < 2 ^ n) : bsum n (fun i => a.testBit i) = a := by
  refine Nat.eq_of_testBit_eq fun i => ?_
  rw [bsum_bit]
  by_cases hi : i < n
  · simp [hi]
  · have : a.testBit i = false := Nat.testBit_lt_two_pow (Nat.lt_of_lt_of_le h (Nat.pow_le_pow_right (by decide) (by omega)))
    simp [hi, this]
theorem pow62 {n : Nat} (h : n ≤ 62) : 2 ^ n ≤ 4611686018427387904 := Nat.le_trans (Nat.pow_le_pow_right (by decide) h) (by decide)

/-! ### the rows of a relation -/
noncomputable def gr (n : Nat) (E : Nat → Nat → Prop) : List Int := (List.range n).map fun v => ((bsum n fun w => decide (E v w) : Nat) : Int)
theorem gr_length (n : Nat) (E : Nat → Nat → Prop) : (gr n E).length = n := by simp [gr]
theorem gr_rd {n : Nat} {E : Nat → Nat → Prop} {v : Nat} (h : v < n) : rd (gr n E) (v : Int) = ((bsum n fun w => decide (E v w) : Nat) : Int) := by
  rw [rd_get _ _ (by rw [gr_length]; exact h)]
  simp [gr]
theorem gr_congr {n : Nat} {E F : Nat → Nat → Prop} (h : ∀ v w, v < n → w < n → (E v w ↔ F v w)) : gr n E = gr n F := by
  refine list_ext_rd (by rw [gr_length, gr_length]) fun i hi => ?_
  rw [gr_length] at hi
  rw [gr_rd hi, gr_rd hi, bsum_eq fun w hw => decide_eq_decide.mpr (h i w hi hw)]
theorem gr_empty (n : Nat) : List.replicate n (0 : Int) = gr n fun _ _ => False := by
  refine list_ext_rd (by simp [gr_length]) fun i hi => ?_
  simp only [List.length_replicate] at hi
  rw [gr_rd hi, rd_get _ _ (by simpa using hi)]
  have : ∀ f : Nat → Bool, (∀ i, f i = false) → bsum n f = 0 := fun f hf => by
    refine Nat.eq_of_testBit_eq fun j => ?_
    rw [bsum_bit, hf j]; simp
  rw [this _ fun _ => by simp]; simp
theorem gr_dig {n : Nat} {E : Nat → Nat → Prop} {v w : Nat} (h : v < n) (hw : w < n) : dig (rd (gr n E) (v : Int)) w = decide (E v w) := by
  rw [gr_rd h, dig_nat, bsum_bit]; simp [hw]

/-- Row a, with the digit b put in. -/
def orRow (rows : List Int) (a b : Int) : List Int := rows.set a.toNat (Go.bits .or .i64 (rd rows a) ((2 ^ b.toNat : Nat) : Int))
/-- The edge of a and b, put in. -/
def putE (rows : List Int) (a b : Int) : List Int := orRow (orRow rows a b) b a
theorem orRow_length (rows : List Int) (a b : Int) : (orRow rows a b).length = rows.length := by simp [orRow]
theorem putE_length (rows : List Int) (a b : Int) : (putE rows a b).length = rows.length := by simp [putE, orRow_length]
theorem gr_or {n : Nat} (hn : n ≤ 62) {E : Nat → Nat → Prop} {a b : Nat} (ha : a < n) (hb : b < n) : orRow (gr n E) (a : Int) (b : Int) = gr n fun v w => E v w ∨ (v = a ∧ w = b) := by
  refine list_ext_rd (by rw [orRow_length, gr_length, gr_length]) fun i hi => ?_
  rw [orRow_length, gr_length] at hi
  rw [gr_rd hi]
  unfold orRow
  rw [Int.toNat_natCast, Int.toNat_natCast]
  by_cases h : a = i
  · subst h
    rw [rd_set_self _ _ (by rw [gr_length]; exact ha), gr_rd ha]
    have h1 := bsum_lt n fun w => decide (E a w)
    have h2 := pow62 hn
    have h3 : 2 ^ b < 2 ^ n := Nat.pow_lt_pow_right (by decide) hb
    rw [bit_or _ _ (by omega) (by omega)]
    congr 1
    refine Nat.eq_of_testBit_eq fun j => ?_
    rw [Nat.testBit_or, bsum_bit, bsum_bit, Nat.testBit_two_pow]
    by_cases hj : j < n
    · by_cases hbj : b = j
      · subst hbj; simp [hj]
      · have : ¬ j = b := fun h => hbj h.symm
        simp [hj, hbj, this]
    · have : ¬ b = j := by omega
      simp [hj, this]
  · rw [rd_set_ne _ _ _ h, gr_rd hi]
    congr 1
    refine bsum_eq fun w _ => ?_
    have : ¬ i = a := fun e => h e.symm
    simp [this]
theorem gr_put {n : Nat} (hn : n ≤ 62) {E : Nat → Nat → Prop} {a b : Nat} (ha : a < n) (hb : b < n) :
    putE (gr n E) (a : Int) (b : Int) = gr n fun v w => E v w ∨ (v = a ∧ w = b) ∨ (v = b ∧ w = a) := by
  unfold putE
  rw [gr_or hn ha hb, gr_or hn hb ha]
  exact gr_congr fun v w _ _ => or_assoc

/-! ### many edges, put in one by one -/
def putAll (rows : List Int) (ps : List (Int × Int)) : List Int := ps.foldl (fun r p => putE r p.1 p.2) rows
theorem putAll_nil (rows : List Int) : putAll rows [] = rows := rfl
theorem putAll_cons (rows : List Int) (p : Int × Int) (ps : List (Int × Int)) : putAll rows (p :: ps) = putAll (putE rows p.1 p.2) ps := rfl
theorem putAll_append (rows : List Int) (ps qs : List (Int × Int)) : putAll rows (ps ++ qs) = putAll (putAll rows ps) qs := List.foldl_append
theorem putAll_length (ps : List (Int × Int)) : ∀ rows : List Int, (putAll rows ps).length = rows.length := by
  induction ps with
  | nil => intro rows; rfl
  | cons p ps ih => intro rows; rw [putAll_cons, ih, putE_length]
theorem gr_putAll {n : Nat} (hn : n ≤ 62) (ps : List (Int × Int)) : ∀ (E : Nat → Nat → Prop), (∀ p ∈ ps, 0 ≤ p.1 ∧ p.1 < n ∧ 0 ≤ p.2 ∧ p.2 < n) →
    putAll (gr n E) ps = gr n fun v w => E v w ∨ ∃ p ∈ ps, (p.1 = v ∧ p.2 = w) ∨ (p.1 = w ∧ p.2 = v) := by
  induction ps with
  | nil => intro E _; exact gr_congr fun v w _ _ => by simp
  | cons p ps ih =>
    intro E h
    obtain ⟨a, b⟩ := p
    obtain ⟨h1, h2, h3, h4⟩ := h (a, b) List.mem_cons_self
    obtain ⟨x, rfl⟩ := Int.eq_ofNat_of_zero_le h1
    obtain ⟨y, rfl⟩ := Int.eq_ofNat_of_zero_le h3
    rw [putAll_cons, gr_put hn (by omega) (by omega), ih _ fun q hq => h q (List.mem_cons_of_mem _ hq)]
    refine gr_congr fun v w _ _ => ?_
    constructor
    · rintro ((e | e | e) | ⟨q, hq, e⟩)
      · exact .inl e
      · exact .inr ⟨_, List.mem_cons_self, .inl ⟨by simp only; omega, by simp only; omega⟩⟩
      · exact .inr ⟨_, List.mem_cons_self, .inr ⟨by simp only; omega, by simp only; omega⟩⟩
      · exact .inr ⟨q, List.mem_cons_of_mem _ hq, e⟩
    · rintro (e | ⟨q, hq, e⟩)
      · exact .inl (.inl e)
      · rcases List.mem_cons.1 hq with rfl | hq
        · rcases e with ⟨e1, e2⟩ | ⟨e1, e2⟩
          · exact .inl (.inr (.inl ⟨by simp only at e1; omega, by simp only at e2; omega⟩))
          · exact .inl (.inr (.inr ⟨by simp only at e2; omega, by simp only at e1; omega⟩))
        · exact .inr ⟨q, hq, e⟩
/-- The numbers i, i + 1, .. (d of them). -/
def irange (i : Int) : Nat → List Int
  | 0 => []
  | d + 1 => i :: irange (i + 1) d
theorem mem_irange {d : Nat} : ∀ {i x : Int}, x ∈ irange i d ↔ i ≤ x ∧ x < i + d := by
  induction d with
  | zero => intro i x; simp only [irange, List.not_mem_nil, false_iff]; omega
  | succ d ih => intro i x; simp only [irange, List.mem_cons, ih]; omega
theorem drop_rd (l : List Int) (i : Nat) (h : i < l.length) : l.drop i = rd l i :: l.drop (i + 1) := by
  rw [List.drop_eq_getElem_cons h, rd_get l i h]
theorem mem_rd {l : List Int} {x : Int} : x ∈ l ↔ ∃ j : Nat, j < l.length ∧ rd l j = x := by
  rw [List.mem_iff_getElem]
  constructor
  · rintro ⟨j, hj, e⟩; exact ⟨j, hj, by rw [rd_get l j hj, e]⟩
  · rintro ⟨j, hj, e⟩; exact ⟨j, hj, by rw [← rd_get l j hj, e]⟩

/-! ### the test for a graph -/
def IsG (n : Int) (rows : List Int) : Prop :=
  1 ≤ n ∧ n ≤ 62 ∧ (rows.length : Int) = n ∧
  (∀ v : Nat, (v : Int) < n → 0 ≤ rd rows v ∧ rd rows v < ((2 ^ n.toNat : Nat) : Int) ∧ dig (rd rows v) v = false) ∧
  ∀ v w : Nat, (v : Int) < n → (w : Int) < n → dig (rd rows v) w = dig (rd rows w) v
/-- The relation of rows. -/
def Adj (rows : List Int) (v w : Nat) : Prop := dig (rd rows v) w = true
theorem IsG.rows_eq {n : Int} {rows : List Int} (h : IsG n rows) : rows = gr n.toNat (Adj rows) := by
  obtain ⟨h1, h2, h3, h4, _⟩ := h
  refine list_ext_rd (by rw [gr_length]; omega) fun i hi => ?_
  obtain ⟨a0, a1, _⟩ := h4 i (by omega)
  rw [gr_rd (by omega)]
  obtain ⟨m, hm⟩ := Int.eq_ofNat_of_zero_le a0
  have hm' : rd rows (i : Int) = ((m : Nat) : Int) := hm
  have hlt : m < 2 ^ n.toNat := by rw [hm'] at a1; omega
  rw [hm']
  congr 1
  have : (fun w => decide (Adj rows i w)) = fun w => m.testBit w := by
    funext w
    unfold Adj
    rw [hm', dig_nat]
    by_cases h : m.testBit w = true <;> simp [h]
  rw [this, bsum_of _ _ hlt]
theorem IsG.symm {n : Int} {rows : List Int} (h : IsG n rows) {v w : Nat} (hv : v < n.toNat) (hw : w < n.toNat) : Adj rows v w ↔ Adj rows w v := by
  unfold Adj
  rw [h.2.2.2.2 v w (by omega) (by omega)]
theorem IsG.irrefl {n : Int} {rows : List Int} (h : IsG n rows) {v : Nat} (hv : v < n.toNat) : ¬ Adj rows v v := by
  unfold Adj
  rw [(h.2.2.2.1 v (by omega)).2.2]
  simp
theorem IsG.le {n : Int} {rows : List Int} (h : IsG n rows) : n.toNat ≤ 62 := by have := h.2.1; omega
theorem IsG.len {n : Int} {rows : List Int} (h : IsG n rows) : rows.length = n.toNat := by have := h.2.2.1; omega
theorem IsG.of_gr {n : Nat} (h1 : 1 ≤ n) (h2 : n ≤ 62) {E : Nat → Nat → Prop} (hs : ∀ v w, v < n → w < n → (E v w ↔ E w v)) (hi : ∀ v, v < n → ¬ E v v) : IsG n (gr n E) := by
  refine ⟨by omega, by omega, by rw [gr_length], fun v hv => ?_, fun v w hv hw => ?_⟩
  · have hv' : v < n := by omega
    have := bsum_lt n fun w => decide (E v w)
    rw [gr_dig hv' hv', gr_rd hv', Int.toNat_natCast]
    refine ⟨by omega, by omega, by simp [hi v hv']⟩
  · rw [gr_dig (by omega) (by omega), gr_dig (by omega) (by omega)]
    exact decide_eq_decide.mpr (hs v w (by omega) (by omega))
end Go.Proofs.YtockngphfpedkaaDoor.B
