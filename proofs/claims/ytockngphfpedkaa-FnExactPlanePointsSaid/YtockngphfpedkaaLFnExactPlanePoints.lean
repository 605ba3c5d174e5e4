/- What the functions that FnExactPlanePoints reaches compute. -/
import Derived.Test.YtockngphfpedkaaXFnExactPlanePointsx0
import Derived.Test.YtockngphfpedkaaXFnExactPlanePointsx1
import Derived.Test.YtockngphfpedkaaXFnExactPlanePointsx2
import Derived.Test.YtockngphfpedkaaXFnExactPlanePointsx3
import Derived.Test.YtockngphfpedkaaGr
namespace Go.Proofs.Ytockngphfpedkaa.XFnExactPlanePoints
open Go.RowKit Go.Proofs.YtockngphfpedkaaW.PrintWords Go.Proofs.YtockngphfpedkaaW.PrintLast Go.Proofs.Ytockngphfpedkaa.B
open Classical
set_option linter.unusedVariables false
set_option linter.unusedSimpArgs false
set_option linter.unusedSectionVars false

theorem laws_eqInt64S.ev_l (l : List Int) (hl : l.length ≤ 281474976710656) (d : Nat) : ∀ (i : Nat), i + d = l.length → Ev (fun k => laws_eqInt64S.l0 k l l (i : Int)) true := by
  induction d with
  | zero =>
    intro i h3
    refine Ev.step (fun k => laws_eqInt64S.l0.eq_2 ..) ?_
    simp only [if_neg (show ¬ ((i : Int) < (l.length : Int)) by omega)]
    exact Ev.now _
  | succ d ih =>
    intro i h3
    refine Ev.step (fun k => laws_eqInt64S.l0.eq_2 ..) ?_
    simp only [if_pos (show (i : Int) < (l.length : Int) by omega), if_pos (show (0 : Int) ≤ (i : Int) by omega), if_true]
    rw [w64 (by omega) (by omega)]
    exact ih (i + 1) (by omega)
theorem laws_eqInt64S.ev (l : List Int) (hl : l.length ≤ 281474976710656) : Ev (fun k => laws_eqInt64S.f k l l) true := by
  unfold laws_eqInt64S.f
  simp only [if_true]
  exact laws_eqInt64S.ev_l l hl l.length 0 (by omega)

theorem laws_eqInt64SS.ev_l (l : List (List Int)) (hl : l.length ≤ 2000000) (hr : ∀ j : Nat, (rd_L1 l (j : Int)).length ≤ 2000000) (d : Nat) : ∀ (i : Nat), i + d = l.length → Ev (fun k => laws_eqInt64SS.l0 k l l (i : Int)) true := by
  induction d with
  | zero =>
    intro i h3
    refine Ev.step (fun k => laws_eqInt64SS.l0.eq_2 ..) ?_
    simp only [if_neg (show ¬ ((i : Int) < (l.length : Int)) by omega)]
    exact Ev.now _
  | succ d ih =>
    intro i h3
    have := hr i
    refine Ev.step (fun k => laws_eqInt64SS.l0.eq_2 ..) ?_
    simp only [if_pos (show (i : Int) < (l.length : Int) by omega), if_pos (show (0 : Int) ≤ (i : Int) by omega)]
    refine Ev.bind (laws_eqInt64S.ev _ (by omega)) ?_
    simp only [if_true]
    rw [w64 (by omega) (by omega)]
    exact ih (i + 1) (by omega)
theorem laws_eqInt64SS.ev (l : List (List Int)) (hl : l.length ≤ 2000000) (hr : ∀ j : Nat, (rd_L1 l (j : Int)).length ≤ 2000000) : Ev (fun k => laws_eqInt64SS.f k l l) true := by
  unfold laws_eqInt64SS.f
  simp only [if_true]
  exact laws_eqInt64SS.ev_l l hl hr l.length 0 (by omega)

/-- The marks a + i, from the place i on. -/
theorem laws_markInt64S.ev_l (n : Nat) (a : Int) (ha : 0 ≤ a) (han : a + n ≤ 4611686018427387904) (d : Nat) : ∀ (i : Nat) (l : List Int), l.length = n → i + d = n →
    ∃ m : List Int, Ev (fun k => laws_markInt64S.l0 k l (a + i) (i : Int)) (a + n, m) ∧ m.length = n ∧ (∀ j, j < i → m[j]? = l[j]?) ∧ ∀ j : Nat, i ≤ j → j < n → rd m j = a + j := by
  induction d with
  | zero =>
    intro i l h1 h3
    refine ⟨l, ?_, h1, fun _ _ => rfl, fun j h h' => by omega⟩
    refine Ev.step (fun k => laws_markInt64S.l0.eq_2 ..) ?_
    simp only [if_neg (show ¬ ((i : Int) < (l.length : Int)) by omega)]
    have : i = n := by omega
    rw [this]
    exact Ev.now _
  | succ d ih =>
    intro i l h1 h3
    obtain ⟨m, hm, h4, h5, h6⟩ := ih (i + 1) (l.set i (a + i)) (by simp [h1]) (by omega)
    refine ⟨m, ?_, h4, fun j hj => ?_, fun j hj hj' => ?_⟩
    · refine Ev.step (fun k => laws_markInt64S.l0.eq_2 ..) ?_
      simp only [if_pos (show (i : Int) < (l.length : Int) by omega), if_pos (show (0 : Int) ≤ (i : Int) by omega)]
      rw [w64 (by omega) (by omega), w64 (by omega) (by omega), Int.add_assoc, Int.toNat_natCast]
      exact hm
    · rw [h5 j (by omega), List.getElem?_set_ne (by omega)]
    · by_cases e : j = i
      · subst e
        have := h5 j (by omega)
        rw [List.getElem?_set_self (by omega)] at this
        rw [rd_nat]
        simp [this]
      · exact h6 j (by omega) hj'
theorem laws_markInt64S.ev (l : List Int) (a : Int) (ha : 0 ≤ a) (han : a + l.length ≤ 4611686018427387904) :
    ∃ m : List Int, Ev (fun k => laws_markInt64S.f k l a) (a + l.length, m) ∧ m.length = l.length ∧ ∀ j : Nat, j < l.length → rd m j = a + j := by
  obtain ⟨m, hm, h4, _, h6⟩ := laws_markInt64S.ev_l l.length a ha han l.length 0 l rfl (by omega)
  refine ⟨m, ?_, h4, fun j hj => h6 j (by omega) hj⟩
  unfold laws_markInt64S.f
  have := hm
  simp only [Int.natCast_zero, Int.add_zero] at this
  exact this

theorem laws_heldInt64S.ev_l (m : List Int) (a : Int) (ha : 0 ≤ a) (han : a + m.length ≤ 4611686018427387904) (hm : ∀ j : Nat, j < m.length → rd m j = a + j) (d : Nat) :
    ∀ (i : Nat), i + d = m.length → Ev (fun k => laws_heldInt64S.l0 k m (a + i) (i : Int)) (a + m.length) := by
  induction d with
  | zero =>
    intro i h3
    refine Ev.step (fun k => laws_heldInt64S.l0.eq_2 ..) ?_
    simp only [if_neg (show ¬ ((i : Int) < (m.length : Int)) by omega)]
    have : i = m.length := by omega
    rw [this]
    exact Ev.now _
  | succ d ih =>
    intro i h3
    refine Ev.step (fun k => laws_heldInt64S.l0.eq_2 ..) ?_
    simp only [if_pos (show (i : Int) < (m.length : Int) by omega), if_pos (show (0 : Int) ≤ (i : Int) by omega), if_pos (hm i (by omega))]
    rw [w64 (by omega) (by omega), w64 (by omega) (by omega), Int.add_assoc]
    exact ih (i + 1) (by omega)
theorem laws_heldInt64S.ev (m : List Int) (a : Int) (ha : 0 ≤ a) (han : a + m.length ≤ 4611686018427387904) (hm : ∀ j : Nat, j < m.length → rd m j = a + j) :
    Ev (fun k => laws_heldInt64S.f k m a) (a + m.length) := by
  unfold laws_heldInt64S.f
  have := laws_heldInt64S.ev_l m a ha han hm m.length 0 (by omega)
  simp only [Int.natCast_zero, Int.add_zero] at this
  exact this

theorem rd_L1_set_self (l : List (List Int)) (i : Nat) (h : i < l.length) (x : List Int) : rd_L1 (l.set i x) (i : Int) = x := by simp [rd_L1, h]
theorem rd_L1_set_ne (l : List (List Int)) (i j : Nat) (h : i ≠ j) (x : List Int) : rd_L1 (l.set i x) (j : Int) = rd_L1 l (j : Int) := by
  simp [rd_L1, h]
/-- How many numbers stand in the rows before j. -/
def lenTo (l : List (List Int)) : Nat → Nat
  | 0 => 0
  | j + 1 => lenTo l j + (rd_L1 l (j : Int)).length
theorem lenTo_le {l : List (List Int)} {c : Nat} (h : ∀ j : Nat, (rd_L1 l (j : Int)).length ≤ c) (j : Nat) : lenTo l j ≤ j * c := by
  induction j with
  | zero => simp [lenTo]
  | succ j ih => have := h j; rw [lenTo, Nat.succ_mul]; omega
theorem lenTo_congr {l m : List (List Int)} {j : Nat} (h : ∀ k : Nat, k < j → (rd_L1 l (k : Int)).length = (rd_L1 m (k : Int)).length) : lenTo l j = lenTo m j := by
  induction j with
  | zero => rfl
  | succ j ih => rw [lenTo, lenTo, ih fun k hk => h k (by omega), h j (by omega)]
theorem lenTo_mono (l : List (List Int)) (d : Nat) : ∀ j, lenTo l j ≤ lenTo l (j + d) := by
  induction d with
  | zero => intro j; exact Nat.le_refl _
  | succ d ih => intro j; have := ih j; rw [← Nat.add_assoc, lenTo]; omega
/-- Marked: the rows' numbers are a, a + 1, .. one after another. -/
def Marked (a : Int) (l m : List (List Int)) : Prop := m.length = l.length ∧ ∀ j : Nat, j < l.length → (rd_L1 m (j : Int)).length = (rd_L1 l (j : Int)).length ∧ ∀ k : Nat, k < (rd_L1 m (j : Int)).length → rd (rd_L1 m (j : Int)) (k : Int) = a + lenTo l j + k

theorem laws_heldInt64SS.ev_l (l m : List (List Int)) (hM : Marked 1 l m) (hl : l.length ≤ 100000) (hr : ∀ j : Nat, (rd_L1 l (j : Int)).length ≤ 1000) (d : Nat) : ∀ (i : Nat), i + d = l.length →
    Ev (fun k => laws_heldInt64SS.l0 k m (1 + lenTo l i) (i : Int)) (1 + lenTo l l.length) := by
  have hb := lenTo_le hr
  have hml := hM.1
  induction d with
  | zero =>
    intro i h3
    have : i = l.length := by omega
    subst this
    refine Ev.step (fun k => laws_heldInt64SS.l0.eq_2 ..) ?_
    simp only [if_neg (show ¬ ((l.length : Int) < (m.length : Int)) by omega)]
    exact Ev.now _
  | succ d ih =>
    intro i h3
    have hi := hr i
    have hbi := hb i
    have := Nat.mul_le_mul (show i ≤ 100000 by omega) (Nat.le_refl 1000)
    obtain ⟨e1, e2⟩ := hM.2 i (by omega)
    refine Ev.step (fun k => laws_heldInt64SS.l0.eq_2 ..) ?_
    simp only [if_pos (show (i : Int) < (m.length : Int) by omega), if_pos (show (0 : Int) ≤ (i : Int) by omega)]
    refine Ev.bind (laws_heldInt64S.ev (rd_L1 m (i : Int)) (1 + lenTo l i) (by omega) (by omega) e2) ?_
    simp only [if_neg (show ¬ ((1 : Int) + lenTo l i + ((rd_L1 m (i : Int)).length : Int) < 0) by omega)]
    rw [w64 (n := (i : Int) + 1) (by omega) (by omega), show (1 : Int) + lenTo l i + ((rd_L1 m (i : Int)).length : Int) = 1 + ((lenTo l (i + 1) : Nat) : Int) by rw [lenTo]; omega]
    exact ih (i + 1) (by omega)
theorem laws_heldInt64SS.ev (l m : List (List Int)) (hM : Marked 1 l m) (hl : l.length ≤ 100000) (hr : ∀ j : Nat, (rd_L1 l (j : Int)).length ≤ 1000) : Ev (fun k => laws_heldInt64SS.f k m 1) (1 + lenTo l l.length) := by
  unfold laws_heldInt64SS.f
  have := laws_heldInt64SS.ev_l l m hM hl hr l.length 0 (by omega)
  simpa [lenTo] using this

end Go.Proofs.Ytockngphfpedkaa.XFnExactPlanePoints
