/- What the functions that FnExactWalkGirth reaches compute. -/
import Derived.Test.YtdieobmhmkdjmaaXFnExactWalkGirthx0
import Derived.Test.YtdieobmhmkdjmaaXFnExactWalkGirthx1
import Derived.Test.YtdieobmhmkdjmaaXFnExactWalkGirthx2
import Derived.Test.YtdieobmhmkdjmaaXFnExactWalkGirthx3
import Derived.Test.YtdieobmhmkdjmaaXFnExactWalkGirthx4
import Derived.Test.YtdieobmhmkdjmaaXFnExactWalkGirthx5
import Derived.Test.YtdieobmhmkdjmaaXFnExactWalkGirthx6
import Derived.Test.YtdieobmhmkdjmaaGr
namespace Go.Proofs.Ytdieobmhmkdjmaa.XFnExactWalkGirth
open Go.RowKit Go.Proofs.YtdieobmhmkdjmaaW.PrintWords Go.Proofs.YtdieobmhmkdjmaaW.PrintLast Go.Proofs.Ytdieobmhmkdjmaa.B
open Classical
set_option linter.unusedVariables false
set_option linter.unusedSimpArgs false
set_option linter.unusedSectionVars false

theorem laws_szArcS.sp {l : List S75} {a : Int} (h : l.length ≤ 9223372036854775807) (ha : a ≤ 1048576) (ha0 : 0 ≤ a) :
    (laws_szArcS.f l a = some (-1) ∧ a < l.length) ∨ (laws_szArcS.f l a = some (a - l.length) ∧ (l.length : Int) ≤ a) := by
  unfold laws_szArcS.f
  rw [w64 (by omega) (by omega)]
  by_cases c : a - (l.length : Int) < 0
  · rw [if_pos c]; exact .inl ⟨rfl, by omega⟩
  · rw [if_neg c]; exact .inr ⟨rfl, by omega⟩

theorem laws_szBase.sp {n m : Int} {l : List S75} {a : Int} (h : l.length ≤ 9223372036854775807) (ha : a ≤ 1048576) (ha0 : 0 ≤ a) :
    (laws_szBase.f n m l a = some (-1) ∧ a < l.length) ∨ (laws_szBase.f n m l a = some (a - l.length) ∧ (l.length : Int) ≤ a) := by
  unfold laws_szBase.f
  rcases laws_szArcS.sp h ha ha0 with ⟨e, c⟩ | ⟨e, c⟩
  · rw [e]; exact .inl ⟨by simp, c⟩
  · rw [e]
    refine .inr ⟨?_, c⟩
    simp only [Option.bind_some]
    rw [if_neg (by omega)]

def toA (x : S75) : S60 := ⟨x.f0, x.f1, x.f2⟩
theorem rd_lArc {l : List S75} {i : Nat} (h : i < l.length) : rd_T75 l (i : Int) = l[i] := by simp [rd_T75, h]
theorem rd_iArc {l : List S60} {i : Nat} (h : i < l.length) : rd_T60 l (i : Int) = l[i] := by simp [rd_T60, h]
theorem laws_toArcS.ev_l (l : List S75) (hl : l.length ≤ 281474976710656) (d : Nat) : ∀ (i : Nat) (acc : List S60), acc.length = l.length → (∀ j, j < i → acc[j]? = (l.map toA)[j]?) → i + d = l.length →
    Ev (fun k => laws_toArcS.l0 k l acc (i : Int)) (l.map toA) := by
  induction d with
  | zero =>
    intro i acc h1 h2 h3
    refine Ev.step (fun k => laws_toArcS.l0.eq_2 ..) ?_
    simp only [if_neg (show ¬ ((i : Int) < (l.length : Int)) by omega)]
    refine ev_some (List.ext_getElem? fun j => ?_)
    by_cases hj : j < i
    · exact h2 j hj
    · rw [List.getElem?_eq_none (by omega), List.getElem?_eq_none (by rw [List.length_map]; omega)]
  | succ d ih =>
    intro i acc h1 h2 h3
    refine Ev.step (fun k => laws_toArcS.l0.eq_2 ..) ?_
    unfold laws_toArc.f
    simp only [if_pos (show (i : Int) < (l.length : Int) by omega), if_pos (show (0 : Int) ≤ (i : Int) by omega), if_pos (show (i : Int) < (acc.length : Int) by omega), Option.bind_some]
    rw [w64 (by omega) (by omega)]
    refine ih (i + 1) _ (by simp [h1]) (fun j hj => ?_) (by omega)
    rw [Int.toNat_natCast]
    by_cases e : i = j
    · subst e
      rw [List.getElem?_set_self (by omega), rd_lArc (by omega), List.getElem?_map, List.getElem?_eq_getElem (by omega)]
      rfl
    · rw [List.getElem?_set_ne e]
      exact h2 j (by omega)
theorem laws_toArcS.ev (l : List S75) (hl : l.length ≤ 11728124029610) : Ev (fun k => laws_toArcS.f k l) (l.map toA) := by
  unfold laws_toArcS.f
  simp only [if_pos (show (0 : Int) ≤ (l.length : Int) by omega), if_pos (show ((l.length : Int)).toNat ≤ 11728124029610 by omega)]
  exact laws_toArcS.ev_l l (by omega) l.length 0 _ (by simp) (fun j hj => by omega) (by omega)

theorem laws_toBase.ev (n m : Int) (l : List S75) (hl : l.length ≤ 11728124029610) : Ev (fun k => laws_toBase.f k n m l) (n, m, l.map toA) := by
  unfold laws_toBase.f
  exact Ev.bind (laws_toArcS.ev l hl) (Ev.now _)

theorem laws_eqArcS.ev_l (l : List S60) (hl : l.length ≤ 281474976710656) (d : Nat) : ∀ (i : Nat), i + d = l.length → Ev (fun k => laws_eqArcS.l0 k l l (i : Int)) true := by
  induction d with
  | zero =>
    intro i h3
    refine Ev.step (fun k => laws_eqArcS.l0.eq_2 ..) ?_
    simp only [if_neg (show ¬ ((i : Int) < (l.length : Int)) by omega)]
    exact Ev.now _
  | succ d ih =>
    intro i h3
    refine Ev.step (fun k => laws_eqArcS.l0.eq_2 ..) ?_
    unfold laws_eqArc.f
    simp only [if_pos (show (i : Int) < (l.length : Int) by omega), if_pos (show (0 : Int) ≤ (i : Int) by omega), if_true, Option.bind_some]
    rw [w64 (by omega) (by omega)]
    exact ih (i + 1) (by omega)
theorem laws_eqArcS.ev (l : List S60) (hl : l.length ≤ 281474976710656) : Ev (fun k => laws_eqArcS.f k l l) true := by
  unfold laws_eqArcS.f
  simp only [if_true]
  exact laws_eqArcS.ev_l l hl l.length 0 (by omega)

theorem laws_eqBase.ev (n m : Int) (l : List S60) (hl : l.length ≤ 281474976710656) : Ev (fun k => laws_eqBase.f k n m l n m l) true := by
  unfold laws_eqBase.f
  simp only [if_true]
  exact Ev.bind (laws_eqArcS.ev l hl) (Ev.now _)

theorem spec_l01In.sp (a b c : Int) : spec_l01In.f a b c = some (decide (b ≤ a ∧ a ≤ c)) := by
  unfold spec_l01In.f
  by_cases h : b ≤ a <;> simp [h]

def ArcOK (n m : Int) (x : S60) : Prop := 0 ≤ x.f0 ∧ x.f0 < n ∧ 0 ≤ x.f1 ∧ x.f1 < n ∧ 0 ≤ x.f2 ∧ x.f2 < m
def BaseOK (n m : Int) (l : List S60) : Prop := 1 ≤ n ∧ n ≤ 10 ∧ 1 ≤ m ∧ m ≤ 62 ∧ n * m ≤ 62 ∧ l.length ≤ 16 ∧ ∀ j : Nat, 0 ≤ j → j < l.length → ArcOK n m (rd_T60 l (j : Int))
theorem base_mul {n m : Int} (h : 1 ≤ n ∧ n ≤ 10) (h' : 1 ≤ m ∧ m ≤ 62) : 0 ≤ n * m ∧ n * m ≤ 620 :=
  ⟨Int.mul_nonneg (by omega) (by omega), Int.mul_le_mul h.2 h'.2 (by omega) (by omega)⟩
theorem spec_l03Is.ev_l (n m : Int) (l : List S60) (h1 : 1 ≤ n ∧ n ≤ 10) (h2 : 1 ≤ m ∧ m ≤ 62) (hm : n * m ≤ 62) (hl : l.length ≤ 16) (d : Nat) : ∀ i : Nat, i + d = l.length → ((∀ j : Nat, i ≤ j → j < l.length → ArcOK n m (rd_T60 l (j : Int))) ↔ BaseOK n m l) →
    Ev (fun q => spec_l03Is.l0 q (i : Int) n m l) (decide (BaseOK n m l)) := by
  induction d with
  | zero =>
    intro i h hj
    refine Ev.step (fun k => spec_l03Is.l0.eq_2 ..) ?_
    simp only [if_neg (show ¬ ((i : Int) < (l.length : Int)) by omega)]
    rw [decide_eq_true (hj.1 (scan_end (by omega)))]
    exact Ev.now _
  | succ d ih =>
    intro i h hj
    refine Ev.step (fun k => spec_l03Is.l0.eq_2 ..) ?_
    rw [w64 (n := n - 1) (by omega) (by omega), w64 (n := m - 1) (by omega) (by omega), w64 (by omega) (by omega)]
    simp only [if_pos (show (i : Int) < (l.length : Int) by omega), if_pos (show (0 : Int) ≤ (i : Int) by omega), spec_l01In.sp, Option.bind_some, decide_eq_true_eq]
    have fl : ¬ ArcOK n m (rd_T60 l (i : Int)) → decide (BaseOK n m l) = false := fun a => decide_eq_false fun b => scan_fail (P := fun j : Nat => ArcOK n m (rd_T60 l (j : Int))) (i := i) a (by omega) (hj.2 b)
    generalize hx : rd_T60 l (i : Int) = x at fl
    by_cases c0 : 0 ≤ x.f0 ∧ x.f0 ≤ n - 1
    · simp only [if_pos c0]
      by_cases c1 : 0 ≤ x.f1 ∧ x.f1 ≤ n - 1
      · simp only [if_pos c1]
        by_cases c2 : 0 ≤ x.f2 ∧ x.f2 ≤ m - 1
        · simp only [if_pos c2]
          refine ih (i + 1) (by omega) ((scan_step (P := fun j : Nat => ArcOK n m (rd_T60 l (j : Int))) (i := i) ?_).symm.trans hj)
          rw [hx]
          exact ⟨by omega, by omega, by omega, by omega, by omega, by omega⟩
        · simp only [if_neg c2]
          rw [fl (fun a => c2 ⟨a.2.2.2.2.1, by have := a.2.2.2.2.2; omega⟩)]
          exact Ev.now _
      · simp only [if_neg c1]
        rw [fl (fun a => c1 ⟨a.2.2.1, by have := a.2.2.2.1; omega⟩)]
        exact Ev.now _
    · simp only [if_neg c0]
      rw [fl (fun a => c0 ⟨a.1, by have := a.2.1; omega⟩)]
      exact Ev.now _
theorem spec_l03Is.ev (n m : Int) (l : List S60) : Ev (fun q => spec_l03Is.f q n m l) (decide (BaseOK n m l)) := by
  unfold spec_l03Is.f
  simp only [spec_l01In.sp, Option.bind_some, decide_eq_true_eq]
  by_cases h1 : 1 ≤ n ∧ n ≤ 10
  · simp only [if_pos h1]
    by_cases h2 : 1 ≤ m ∧ m ≤ 62
    · simp only [if_pos h2]
      have hb := base_mul h1 h2
      rw [w64 (n := n * m) (by omega) (by omega)]
      by_cases h3 : n * m > 62
      · simp only [if_pos h3]
        refine Ev.step (fun k => spec_l03Is.j0.eq_2 ..) ?_
        simp only [if_true]
        rw [decide_eq_false (fun a => by have := a.2.2.2.2.1; omega)]
        exact Ev.now _
      · simp only [if_neg h3]
        refine Ev.step (fun k => spec_l03Is.j0.eq_2 ..) ?_
        simp only [decide_eq_true_eq]
        by_cases h4 : (l.length : Int) > 16
        · simp only [if_pos h4]
          rw [decide_eq_false (fun a => by have := a.2.2.2.2.2.1; omega)]
          exact Ev.now _
        · simp only [if_neg h4]
          exact spec_l03Is.ev_l n m l h1 h2 (by omega) (by omega) l.length 0 (by omega) ⟨fun a => ⟨h1.1, h1.2, h2.1, h2.2, by omega, by omega, a⟩, fun a => a.2.2.2.2.2.2⟩
    · simp only [if_neg h2]
      refine Ev.step (fun k => spec_l03Is.j0.eq_2 ..) ?_
      simp only [if_true]
      rw [decide_eq_false (fun a => h2 ⟨a.2.2.1, a.2.2.2.1⟩)]
      exact Ev.now _
  · simp only [if_neg h1]
    refine Ev.step (fun k => spec_l03Is.j0.eq_2 ..) ?_
    simp only [if_true]
    rw [decide_eq_false (fun a => h1 ⟨a.1, a.2.1⟩)]
    exact Ev.now _

theorem impl_IsBase.sp (n m : Int) (l : List S60) : impl_IsBase.f n m l = some (decide (BaseOK n m l)) := by
  unfold impl_IsBase.f
  by_cases c0 : n < 1
  · rw [if_pos c0, decide_eq_false (fun a => by have := a.1; omega)]
  rw [if_neg c0]
  by_cases c1 : n > 10
  · rw [if_pos c1, decide_eq_false (fun a => by have := a.2.1; omega)]
  rw [if_neg c1]
  by_cases c2 : m < 1
  · rw [if_pos c2, decide_eq_false (fun a => by have := a.2.2.1; omega)]
  rw [if_neg c2]
  by_cases c3 : m > 62
  · rw [if_pos c3, decide_eq_false (fun a => by have := a.2.2.2.1; omega)]
  rw [if_neg c3]
  by_cases c4 : n * m > 62
  · rw [if_pos c4, decide_eq_false (fun a => by have := a.2.2.2.2.1; omega)]
  rw [if_neg c4]
  by_cases c5 : (l.length : Int) > 16
  · rw [if_pos c5, decide_eq_false (fun a => by have := a.2.2.2.2.2.1; omega)]
  rw [if_neg c5]
  have bad : ∀ x : S60, arcBad n m x = false ↔ ArcOK n m x := by
    intro x
    unfold arcBad ArcOK
    simp only [Bool.or_eq_false_iff, decide_eq_false_iff_not]
    omega
  congr 1
  by_cases h : BaseOK n m l
  · rw [decide_eq_true h]
    have : l.any (arcBad n m) = false := by
      rw [List.any_eq_false]
      intro x hx
      obtain ⟨j, hj, rfl⟩ := List.mem_iff_getElem.1 hx
      have := h.2.2.2.2.2.2 j (by omega) hj
      rw [rd_iArc hj] at this
      rw [(bad _).2 this]
      simp
    rw [this]; rfl
  · rw [decide_eq_false h]
    have : l.any (arcBad n m) = true := by
      refine Classical.byContradiction fun a => h ⟨by omega, by omega, by omega, by omega, by omega, by omega, fun j _ hj => ?_⟩
      rw [rd_iArc hj, ← bad]
      have a' : l.any (arcBad n m) = false := by simpa using a
      have := List.any_eq_false.1 a' l[j] (List.getElem_mem hj)
      simpa using this
    rw [this]; rfl

/-- Where a step begins, where it ends, and its voltage. -/
def stepV (m : Int) (l : List S60) (s : Int) : Int × Int × Int :=
  if s % 2 = 1 then ((rd_T60 l (s / 2)).f1, (rd_T60 l (s / 2)).f0, (m - (rd_T60 l (s / 2)).f2) % m) else ((rd_T60 l (s / 2)).f0, (rd_T60 l (s / 2)).f1, (rd_T60 l (s / 2)).f2)
theorem BaseOK.arc {n m : Int} {l : List S60} (h : BaseOK n m l) {i : Int} (h0 : 0 ≤ i) (h1 : i < l.length) : ArcOK n m (rd_T60 l i) := by
  obtain ⟨j, rfl⟩ := Int.eq_ofNat_of_zero_le h0
  exact h.2.2.2.2.2.2 j (by omega) (by omega)
theorem stepV_bd {n m : Int} {l : List S60} (h : BaseOK n m l) {s : Int} (h0 : 0 ≤ s) (h1 : s < 2 * l.length) : 0 ≤ (stepV m l s).1 ∧ (stepV m l s).1 < n ∧ 0 ≤ (stepV m l s).2.1 ∧ (stepV m l s).2.1 < n ∧ 0 ≤ (stepV m l s).2.2 ∧ (stepV m l s).2.2 < m := by
  obtain ⟨a0, a1, a2, a3, a4, a5⟩ := h.arc (i := s / 2) (by omega) (by omega)
  unfold stepV
  split
  · exact ⟨a2, a3, a0, a1, Int.emod_nonneg _ (by omega), Int.emod_lt_of_pos _ (by omega)⟩
  · exact ⟨a0, a1, a2, a3, a4, a5⟩
theorem impl_step.sp {n m : Int} {l : List S60} (h : BaseOK n m l) {s : Int} (h0 : 0 ≤ s) (h1 : s < 2 * l.length) : impl_step.f n m l s = some (stepV m l s) := by
  have hl := h.2.2.2.2.2.1
  have hm := h.2.2.1
  have hm1 := h.2.2.2.1
  obtain ⟨a0, a1, a2, a3, a4, a5⟩ := h.arc (i := s / 2) (by omega) (by omega)
  unfold impl_step.f stepV
  rw [tdiv_pos h0, tmod_pos h0, w64 (n := s / 2) (by omega) (by omega), w64 (n := m - _) (by omega) (by omega), tmod_pos (by omega), if_pos (by omega), if_pos (by omega), if_neg (show ¬ m = 0 by omega)]
  split <;> rfl
theorem impl_steps.sp {n m : Int} {l : List S60} (hl : l.length ≤ 16) : impl_steps.f n m l = some (2 * (l.length : Int)) := by
  unfold impl_steps.f
  rw [w64 (by omega) (by omega)]

theorem spec_l03Step.sp {n m : Int} {l : List S60} (h : BaseOK n m l) {s : Int} (h0 : 0 ≤ s) (h1 : s < 2 * l.length) : spec_l03Step.f n m l s = some (stepV m l s) := by
  have hl := h.2.2.2.2.2.1
  have hm := h.2.2.1
  have hm1 := h.2.2.2.1
  obtain ⟨a0, a1, a2, a3, a4, a5⟩ := h.arc (i := s / 2) (by omega) (by omega)
  unfold spec_l03Step.f stepV
  rw [tdiv_pos h0, tmod_pos h0, w64 (n := s / 2) (by omega) (by omega), w64 (n := m - _) (by omega) (by omega), tmod_pos (by omega), if_pos (by omega), if_pos (by omega), if_neg (show ¬ m = 0 by omega)]
  by_cases c : s % 2 = 0
  · rw [if_pos c, if_neg (show ¬ s % 2 = 1 by omega)]
  · rw [if_neg c, if_pos (show s % 2 = 1 by omega)]

theorem impl_all.sp {n : Int} (h0 : 0 ≤ n) (h1 : n ≤ 62) : impl_all.f n = some (((2 ^ n.toNat - 1 : Nat)) : Int) := by
  unfold impl_all.f
  have hp : 1 ≤ 2 ^ n.toNat := Nat.one_le_two_pow
  have hq := pow62 (n := n.toNat) (by omega)
  rw [if_pos h0, shl_one h0 h1]
  generalize 2 ^ n.toNat = P at *
  rw [w64 (by omega) (by omega)]
  congr 1
  omega

theorem xor1' {a : Nat} (h1 : a < 2 ^ 62) : Go.bits .xor .i64 (a : Int) 1 = (a : Int) + 1 - 2 * ((a : Int) % 2) := by
  have := bit_xor a 1 (by omega) (by omega)
  rw [show ((1 : Nat) : Int) = 1 from rfl] at this
  rw [this]
  have e : a ^^^ 1 = a + 1 - 2 * (a % 2) := by
    refine Nat.eq_of_testBit_eq fun i => ?_
    rw [Nat.testBit_xor]
    cases i with
    | zero =>
      simp only [Nat.testBit_zero]
      rcases Nat.mod_two_eq_zero_or_one a with h | h
      · have : (a + 1 - 2 * (a % 2)) % 2 = 1 := by omega
        rw [this, h]; decide
      · have : (a + 1 - 2 * (a % 2)) % 2 = 0 := by omega
        rw [this, h]; decide
    | succ i =>
      rw [Nat.testBit_succ, Nat.testBit_succ, Nat.testBit_succ]
      have : (a + 1 - 2 * (a % 2)) / 2 = a / 2 := by omega
      rw [this]
      simp
  rw [e]
  omega

/-! ### rotations of a set of sums -/
theorem ofInt_wrap (x : Int) : BitVec.ofInt 64 (IntKind.i64.wrap x) = BitVec.ofInt 64 x := by
  rw [IntKind.wrap_i64]
  apply BitVec.eq_of_toNat_eq
  rw [BitVec.toNat_ofInt, BitVec.toNat_ofInt]
  omega
theorem bits_andV (x y : Int) : Go.bits .and .i64 x y = IntKind.i64.wrap (((BitVec.ofInt 64 x &&& BitVec.ofInt 64 y).toNat : Nat) : Int) := rfl
theorem bits_orV (x y : Int) : Go.bits .or .i64 x y = IntKind.i64.wrap (((BitVec.ofInt 64 x ||| BitVec.ofInt 64 y).toNat : Nat) : Int) := rfl
/-- S, a set of numbers below m, moved on by v. -/
theorem rot_bits (m v S : Nat) (hm : 1 ≤ m) (hm1 : m ≤ 62) (hv : v < m) (hS : S < 2 ^ m) :
    ∃ c : Nat, Go.bits .and .i64 (Go.bits .or .i64 (shl .i64 (S : Int) (v : Int)) (shr .i64 (S : Int) ((m : Int) - v))) ((2 ^ m - 1 : Nat) : Int) = (c : Int) ∧ c < 2 ^ m ∧
      ∀ t, c.testBit t = true ↔ t < m ∧ ∃ s, s < m ∧ S.testBit s = true ∧ (s + v) % m = t := by
  have hp := pow62 hm1
  refine ⟨((BitVec.ofInt 64 (shl .i64 (S : Int) (v : Int)) ||| BitVec.ofInt 64 (shr .i64 (S : Int) ((m : Int) - v))) &&& BitVec.ofNat 64 (2 ^ m - 1)).toNat, ?_, ?_, ?_⟩
  · rw [bits_andV, bits_orV, ofInt_wrap, BitVec.ofInt_natCast, BitVec.ofNat_toNat, BitVec.setWidth_eq, BitVec.ofInt_natCast]
    have h1 : ((BitVec.ofInt 64 (shl .i64 (S : Int) (v : Int)) ||| BitVec.ofInt 64 (shr .i64 (S : Int) ((m : Int) - v))) &&& BitVec.ofNat 64 (2 ^ m - 1)).toNat ≤ 2 ^ m - 1 := by
      rw [BitVec.toNat_and, BitVec.toNat_ofNat, Nat.mod_eq_of_lt (show 2 ^ m - 1 < 2 ^ 64 by omega)]
      exact Nat.and_le_right
    exact i64 (by omega) (by omega)
  · have h1 : ((BitVec.ofInt 64 (shl .i64 (S : Int) (v : Int)) ||| BitVec.ofInt 64 (shr .i64 (S : Int) ((m : Int) - v))) &&& BitVec.ofNat 64 (2 ^ m - 1)).toNat ≤ 2 ^ m - 1 := by
      rw [BitVec.toNat_and, BitVec.toNat_ofNat, Nat.mod_eq_of_lt (show 2 ^ m - 1 < 2 ^ 64 by omega)]
      exact Nat.and_le_right
    have := Nat.one_le_two_pow (n := m)
    omega
  · intro t
    have e1 : shl .i64 (S : Int) (v : Int) = IntKind.i64.wrap ((S * 2 ^ v : Nat) : Int) := by
      unfold shl
      have : min ((v : Int)).toNat 64 = v := by omega
      simp only [IntKind.bits, this]
      congr 1
    have e2 : shr .i64 (S : Int) ((m : Int) - v) = ((S / 2 ^ (m - v) : Nat) : Int) := by
      rw [shr_small' (by omega) (by omega), show ((m : Int) - v).toNat = m - v by omega]
      simp
    rw [e1, e2, ofInt_wrap, BitVec.ofInt_natCast, BitVec.ofInt_natCast, ← BitVec.getLsbD, BitVec.getLsbD_and, BitVec.getLsbD_or, BitVec.getLsbD_ofNat, BitVec.getLsbD_ofNat, BitVec.getLsbD_ofNat, Nat.testBit_two_pow_sub_one, Nat.testBit_mul_two_pow, Nat.testBit_div_two_pow]
    have hbit : ∀ i, S.testBit i = true → i < m := fun i hi => by
      rcases Nat.lt_or_ge i m with h | h
      · exact h
      · rw [Nat.testBit_lt_two_pow (Nat.lt_of_lt_of_le hS (Nat.pow_le_pow_right (by decide) h))] at hi; cases hi
    constructor
    · intro h
      simp only [Bool.and_eq_true, Bool.or_eq_true, decide_eq_true_eq] at h
      obtain ⟨h1, h2⟩ := h
      refine ⟨h2.2, ?_⟩
      rcases h1 with ⟨_, h3, h4⟩ | ⟨_, h4⟩
      · exact ⟨t - v, hbit _ h4, h4, by rw [Nat.sub_add_cancel h3]; exact Nat.mod_eq_of_lt h2.2⟩
      · have := hbit _ h4
        refine ⟨t + (m - v), this, h4, ?_⟩
        rw [show t + (m - v) + v = t + m by omega, Nat.add_mod_right]
        exact Nat.mod_eq_of_lt h2.2
    · rintro ⟨h1, s, h2, h3, h4⟩
      simp only [Bool.and_eq_true, Bool.or_eq_true, decide_eq_true_eq]
      refine ⟨?_, by omega, h1⟩
      by_cases c : s + v < m
      · rw [Nat.mod_eq_of_lt c] at h4
        refine .inl ⟨by omega, by omega, ?_⟩
        rw [show t - v = s by omega]; exact h3
      · have : (s + v) % m = s + v - m := by
          rw [Nat.mod_eq_sub_mod (by omega)]; exact Nat.mod_eq_of_lt (by omega)
        refine .inr ⟨by omega, ?_⟩
        rw [show t + (m - v) = s by omega]; exact h3
/-! ### the sets of last steps and sums, level by level -/
/-- The same arc the other way. -/
def rv (s : Nat) : Nat := s + 1 - 2 * (s % 2)
/-- From the pair st (its step: st / m, its sum: st % m) step t leads to the pair x. -/
def Tr (m : Nat) (l : List S60) (st t x : Nat) : Prop :=
  (stepV m l (t : Int)).1 = (stepV m l ((st / m : Nat) : Int)).2.1 ∧ t ≠ rv (st / m) ∧ x = t * m + (st % m + (stepV m l (t : Int)).2.2.toNat) % m
def Lv (m : Nat) (l : List S60) (first : Nat) : Nat → Nat → Prop
  | 0, x => x = first * m + (stepV m l (first : Int)).2.2.toNat
  | k + 1, x => ∃ st, st < 2 * l.length * m ∧ Lv m l first k st ∧ ∃ t, t < 2 * l.length ∧ Tr m l st t x
def Fd1 (m : Nat) (l : List S60) (first st : Nat) : Prop := (stepV m l ((st / m : Nat) : Int)).2.1 = (stepV m l (first : Int)).1 ∧ st % m = 0 ∧ rv (st / m) ≠ first
def Found (m : Nat) (l : List S60) (first k : Nat) : Prop := ∃ st, st < 2 * l.length * m ∧ Lv m l first k st ∧ Fd1 m l first st
/-- The least length from k on, below most (level k holds the walks of k + 1 steps). -/
noncomputable def Gf (m : Nat) (l : List S60) (first : Nat) : Nat → Nat → Nat
  | 0, k => k
  | d + 1, k => if Found m l first (k - 1) then k else Gf m l first d (k + 1)
theorem Gf_le (m : Nat) (l : List S60) (first : Nat) (d : Nat) : ∀ k, k ≤ Gf m l first d k ∧ Gf m l first d k ≤ k + d := by
  induction d with
  | zero => intro k; simp [Gf]
  | succ d ih =>
    intro k
    simp only [Gf]
    split
    · omega
    · have := ih (k + 1); omega
theorem Lv_lt {n : Int} {m : Nat} {l : List S60} (h : BaseOK n m l) {first : Nat} (hf : first < 2 * l.length) : ∀ k x, Lv m l first k x → x < 2 * l.length * m := by
  have hm : 1 ≤ (m : Int) := h.2.2.1
  have key : ∀ t r : Nat, t < 2 * l.length → r < m → t * m + r < 2 * l.length * m := fun t r ht hr => by
    have : (t + 1) * m ≤ 2 * l.length * m := Nat.mul_le_mul_right m ht
    rw [Nat.add_mul, Nat.one_mul] at this
    omega
  intro k x hx
  cases k with
  | zero =>
    have b := stepV_bd h (s := (first : Int)) (by omega) (by omega)
    rw [hx]
    exact key _ _ hf (by omega)
  | succ k =>
    obtain ⟨st, _, _, t, ht, _, _, rfl⟩ := hx
    exact key _ _ ht (Nat.mod_lt _ (by omega))
theorem split_idx {m : Nat} (hm : 0 < m) (t r : Nat) (hr : r < m) : (t * m + r) / m = t ∧ (t * m + r) % m = r := by
  constructor
  · rw [Nat.add_comm, Nat.add_mul_div_right _ _ hm, Nat.div_eq_of_lt hr, Nat.zero_add]
  · rw [Nat.add_comm, Nat.add_mul_mod_self_right, Nat.mod_eq_of_lt hr]
theorem rv_cast (s : Nat) : ((rv s : Nat) : Int) = (s : Int) + 1 - 2 * ((s : Int) % 2) := by unfold rv; omega

/-- The row of step s holds, as bits, the sums r with P (s m + r). -/
def RowsP (N m : Nat) (X : List Int) (P : Nat → Prop) : Prop := X.length = N ∧ ∀ s, s < N → ∃ c : Nat, rd X (s : Int) = (c : Int) ∧ c < 2 ^ m ∧ ∀ r, c.testBit r = true ↔ r < m ∧ P (s * m + r)
theorem idx_lt {N m s r : Nat} (hs : s < N) (hr : r < m) : s * m + r < N * m := by
  have : (s + 1) * m ≤ N * m := Nat.mul_le_mul_right m hs
  rw [Nat.add_mul, Nat.one_mul] at this
  omega
theorem idx_inj {m s t r q : Nat} (hr : r < m) (hq : q < m) : s * m + r = t * m + q ↔ s = t ∧ r = q := by
  constructor
  · intro e
    have a := split_idx (m := m) (by omega) s r hr
    have b := split_idx (m := m) (by omega) t q hq
    rw [e] at a
    exact ⟨a.1.symm.trans b.1, a.2.symm.trans b.2⟩
  · rintro ⟨rfl, rfl⟩; rfl
theorem RowsP.congr {N m : Nat} {X : List Int} {P Q : Nat → Prop} (h : RowsP N m X P) (e : ∀ x, x < N * m → (P x ↔ Q x)) : RowsP N m X Q := by
  refine ⟨h.1, fun s hs => ?_⟩
  obtain ⟨c, h1, h2, h3⟩ := h.2 s hs
  refine ⟨c, h1, h2, fun r => (h3 r).trans ⟨fun a => ⟨a.1, (e _ (idx_lt hs a.1)).1 a.2⟩, fun a => ⟨a.1, (e _ (idx_lt hs a.1)).2 a.2⟩⟩⟩
theorem bit_lt {m c r : Nat} (hc : c < 2 ^ m) (h : c.testBit r = true) : r < m := by
  rcases Nat.lt_or_ge r m with a | a
  · exact a
  · rw [Nat.testBit_lt_two_pow (Nat.lt_of_lt_of_le hc (Nat.pow_le_pow_right (by decide) a))] at h; cases h
theorem RowsP.or {N m : Nat} {Y : List Int} {Q Q' : Nat → Prop} (h : RowsP N m Y Q) (hm : m ≤ 62) {t : Nat} (ht : t < N) {c : Nat} (hc : c < 2 ^ m) (e : ∀ s r, s < N → r < m → (Q' (s * m + r) ↔ Q (s * m + r) ∨ (s = t ∧ c.testBit r = true))) :
    RowsP N m (Y.set t (Go.bits .or .i64 (rd Y (t : Int)) (c : Int))) Q' := by
  refine ⟨by rw [List.length_set]; exact h.1, fun s hs => ?_⟩
  have hp := pow62 hm
  obtain ⟨c0, h1, h2, h3⟩ := h.2 s hs
  by_cases st : s = t
  · subst st
    refine ⟨c0 ||| c, ?_, Nat.or_lt_two_pow h2 hc, fun r => ?_⟩
    · rw [rd_set_self _ _ (by rw [h.1]; exact hs), h1, bit_or _ _ (by omega) (by omega)]
    · rw [Nat.testBit_or, Bool.or_eq_true, h3 r]
      constructor
      · rintro (a | a)
        · exact ⟨a.1, (e s r hs a.1).2 (.inl a.2)⟩
        · exact ⟨bit_lt hc a, (e s r hs (bit_lt hc a)).2 (.inr ⟨rfl, a⟩)⟩
      · rintro ⟨a, b⟩
        rcases (e s r hs a).1 b with b | b
        · exact .inl ⟨a, b⟩
        · exact .inr b.2
  · refine ⟨c0, ?_, h2, fun r => ?_⟩
    · rw [rd_set_ne _ _ _ (fun a => st a.symm), h1]
    · rw [h3 r]
      constructor
      · rintro ⟨a, b⟩; exact ⟨a, (e s r hs a).2 (.inl b)⟩
      · rintro ⟨a, b⟩
        rcases (e s r hs a).1 b with b | b
        · exact ⟨a, b⟩
        · exact absurd b.1 st
theorem RowsP.zero (N m : Nat) : RowsP N m (List.replicate N 0) fun _ => False := by
  refine ⟨List.length_replicate .., fun s hs => ⟨0, ?_, Nat.two_pow_pos m, fun r => ?_⟩⟩
  · rw [rd_nat]; simp [hs]
  · simp
theorem Tr_split {m : Nat} {l : List S60} {j r t x : Nat} (hr : r < m) : Tr m l (j * m + r) t x ↔ (stepV m l (t : Int)).1 = (stepV m l (j : Int)).2.1 ∧ t ≠ rv j ∧ x = t * m + (r + (stepV m l (t : Int)).2.2.toNat) % m := by
  unfold Tr
  rw [(split_idx (m := m) (by omega) j r hr).1, (split_idx (m := m) (by omega) j r hr).2]
/-- What the steps behind the pairs of P, those of the steps before j and those of step j itself by the steps before t, reach. -/
def PtR (m : Nat) (l : List S60) (N : Nat) (P : Nat → Prop) (j t x : Nat) : Prop := (∃ s, s < j ∧ ∃ r, r < m ∧ P (s * m + r) ∧ ∃ t', t' < N ∧ Tr m l (s * m + r) t' x) ∨ (∃ r, r < m ∧ P (j * m + r) ∧ ∃ t', t' < t ∧ Tr m l (j * m + r) t' x)
theorem PtR_succ {m : Nat} {l : List S60} {N : Nat} {P : Nat → Prop} {j t x : Nat} : PtR m l N P j (t + 1) x ↔ PtR m l N P j t x ∨ ∃ r, r < m ∧ P (j * m + r) ∧ Tr m l (j * m + r) t x := by
  unfold PtR
  constructor
  · rintro (a | ⟨r, a, b, t', c, d⟩)
    · exact .inl (.inl a)
    · rcases Nat.lt_succ_iff_lt_or_eq.1 c with c | rfl
      · exact .inl (.inr ⟨r, a, b, t', c, d⟩)
      · exact .inr ⟨r, a, b, d⟩
  · rintro ((a | ⟨r, a, b, t', c, d⟩) | ⟨r, a, b, d⟩)
    · exact .inl a
    · exact .inr ⟨r, a, b, t', by omega, d⟩
    · exact .inr ⟨r, a, b, t, by omega, d⟩
theorem PtR_next {m : Nat} {l : List S60} {N : Nat} {P : Nat → Prop} {j x : Nat} : PtR m l N P (j + 1) 0 x ↔ PtR m l N P j N x := by
  unfold PtR
  constructor
  · rintro (⟨s, a, b⟩ | ⟨r, _, _, t', a, _⟩)
    · rcases Nat.lt_succ_iff_lt_or_eq.1 a with a | rfl
      · exact .inl ⟨s, a, b⟩
      · exact .inr b
    · omega
  · rintro (⟨s, a, b⟩ | a)
    · exact .inl ⟨s, by omega, b⟩
    · exact .inl ⟨j, by omega, a⟩
theorem PtR_none {m : Nat} {l : List S60} {N : Nat} {P : Nat → Prop} {j x : Nat} (h : ∀ r, r < m → ¬ P (j * m + r)) : PtR m l N P j 0 x ↔ PtR m l N P j N x := by
  unfold PtR
  constructor
  · rintro (a | ⟨r, _, _, t', a, _⟩)
    · exact .inl a
    · omega
  · rintro (a | ⟨r, a, b, _⟩)
    · exact .inl a
    · exact absurd b (h r a)
theorem PtR_zero {m : Nat} {l : List S60} {N : Nat} {P : Nat → Prop} {x : Nat} : ¬ PtR m l N P 0 0 x := by
  rintro (⟨s, a, _⟩ | ⟨r, _, _, t', a, _⟩) <;> omega
theorem PtR_all {m : Nat} (hm : 0 < m) {l : List S60} {first k x : Nat} : PtR m l (2 * l.length) (Lv m l first k) (2 * l.length) 0 x ↔ Lv m l first (k + 1) x := by
  unfold PtR
  rw [Lv]
  constructor
  · rintro (⟨s, a, r, b, c, t, d, e⟩ | ⟨r, _, _, t', a, _⟩)
    · exact ⟨s * m + r, idx_lt a b, c, t, d, e⟩
    · omega
  · rintro ⟨st, a, b, t, c, d⟩
    have e : st = st / m * m + st % m := by rw [Nat.mul_comm]; exact (Nat.div_add_mod st m).symm
    have f := Nat.mod_lt st hm
    rw [e] at b d
    exact .inl ⟨st / m, (Nat.div_lt_iff_lt_mul hm).2 a, st % m, f, b, t, c, d⟩
theorem Found_iff {m : Nat} (hm : 0 < m) {l : List S60} {first k : Nat} : Found m l first k ↔ ∃ s, s < 2 * l.length ∧ (stepV m l (s : Int)).2.1 = (stepV m l (first : Int)).1 ∧ Lv m l first k (s * m + 0) ∧ rv s ≠ first := by
  unfold Found Fd1
  constructor
  · rintro ⟨st, a, b, c, d, e⟩
    have f : st = st / m * m + 0 := by rw [← d, Nat.mul_comm]; exact (Nat.div_add_mod st m).symm
    exact ⟨st / m, (Nat.div_lt_iff_lt_mul hm).2 a, c, f ▸ b, e⟩
  · rintro ⟨s, a, b, c, d⟩
    have f := split_idx hm s 0 hm
    exact ⟨s * m + 0, idx_lt a hm, c, by rw [f.1]; exact b, f.2, by rw [f.1]; exact d⟩


end Go.Proofs.Ytdieobmhmkdjmaa.XFnExactWalkGirth
