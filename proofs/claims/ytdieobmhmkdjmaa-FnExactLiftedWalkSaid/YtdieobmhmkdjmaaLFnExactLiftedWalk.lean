/- What the functions that FnExactLiftedWalk reaches compute. -/
import Derived.Test.YtdieobmhmkdjmaaXFnExactLiftedWalkx0
import Derived.Test.YtdieobmhmkdjmaaXFnExactLiftedWalkx1
import Derived.Test.YtdieobmhmkdjmaaXFnExactLiftedWalkx2
import Derived.Test.YtdieobmhmkdjmaaXFnExactLiftedWalkx3
import Derived.Test.YtdieobmhmkdjmaaXFnExactLiftedWalkx4
import Derived.Test.YtdieobmhmkdjmaaXFnExactLiftedWalkx5
import Derived.Test.YtdieobmhmkdjmaaXFnExactLiftedWalkx6
import Derived.Test.YtdieobmhmkdjmaaXFnExactLiftedWalkx7
import Derived.Test.YtdieobmhmkdjmaaXFnExactLiftedWalkx8
import Derived.Test.YtdieobmhmkdjmaaXFnExactLiftedWalkx9
import Derived.Test.YtdieobmhmkdjmaaGr
namespace Go.Proofs.Ytdieobmhmkdjmaa.XFnExactLiftedWalk
open Go.RowKit Go.Proofs.YtdieobmhmkdjmaaW.PrintWords Go.Proofs.YtdieobmhmkdjmaaW.PrintLast Go.Proofs.Ytdieobmhmkdjmaa.B
open Classical
set_option linter.unusedVariables false
set_option linter.unusedSimpArgs false

theorem laws_szArcS.sp {l : List S75} {a : Int} (h : l.length ≤ 9223372036854775807) (ha : a ≤ 1048576) (ha0 : 0 ≤ a) :
    (laws_szArcS.f l a = some (-1) ∧ a < l.length) ∨ (laws_szArcS.f l a = some (a - l.length) ∧ (l.length : Int) ≤ a) := by
  unfold laws_szArcS.f
  rw [w64 (by omega) (by omega)]
  by_cases c : a - (l.length : Int) < 0
  · rw [if_pos c]; exact .inl ⟨rfl, by omega⟩
  · rw [if_neg c]; exact .inr ⟨rfl, by omega⟩

theorem laws_szBase.sp {n m : Int} {l : List S75} {a : Int} (h : l.length ≤ 9223372036854775807) (ha : a ≤ 1048576) (ha0 : 0 ≤ a) :
    (laws_szBase.f n m l a = some (-1) ∧ a < l.length) ∨ (laws_szBase.f n m l a = some (a - l.length) ∧ (l.length : Int) ≤ a) := by
  unfold laws_szBase.f
  rcases laws_szArcS.sp h ha ha0 with ⟨e, c⟩ | ⟨e, c⟩
  · rw [e]; exact .inl ⟨by simp, c⟩
  · rw [e]
    refine .inr ⟨?_, c⟩
    simp only [Option.bind_some]
    rw [if_neg (by omega)]

def toA (x : S75) : S60 := ⟨x.f0, x.f1, x.f2⟩
theorem rd_lArc {l : List S75} {i : Nat} (h : i < l.length) : rd_T75 l (i : Int) = l[i] := by simp [rd_T75, h]
theorem rd_iArc {l : List S60} {i : Nat} (h : i < l.length) : rd_T60 l (i : Int) = l[i] := by simp [rd_T60, h]
theorem laws_toArcS.ev_l (l : List S75) (hl : l.length ≤ 281474976710656) (d : Nat) : ∀ (i : Nat) (acc : List S60), acc.length = l.length → (∀ j, j < i → acc[j]? = (l.map toA)[j]?) → i + d = l.length →
    Ev (fun k => laws_toArcS.l0 k l acc (i : Int)) (l.map toA) := by
  induction d with
  | zero =>
    intro i acc h1 h2 h3
    refine Ev.step (fun k => laws_toArcS.l0.eq_2 ..) ?_
    simp only [if_neg (show ¬ ((i : Int) < (l.length : Int)) by omega)]
    refine ev_some (List.ext_getElem? fun j => ?_)
    by_cases hj : j < i
    · exact h2 j hj
    · rw [List.getElem?_eq_none (by omega), List.getElem?_eq_none (by rw [List.length_map]; omega)]
  | succ d ih =>
    intro i acc h1 h2 h3
    refine Ev.step (fun k => laws_toArcS.l0.eq_2 ..) ?_
    unfold laws_toArc.f
    simp only [if_pos (show (i : Int) < (l.length : Int) by omega), if_pos (show (0 : Int) ≤ (i : Int) by omega), if_pos (show (i : Int) < (acc.length : Int) by omega), Option.bind_some]
    rw [w64 (by omega) (by omega)]
    refine ih (i + 1) _ (by simp [h1]) (fun j hj => ?_) (by omega)
    rw [Int.toNat_natCast]
    by_cases e : i = j
    · subst e
      rw [List.getElem?_set_self (by omega), rd_lArc (by omega), List.getElem?_map, List.getElem?_eq_getElem (by omega)]
      rfl
    · rw [List.getElem?_set_ne e]
      exact h2 j (by omega)
theorem laws_toArcS.ev (l : List S75) (hl : l.length ≤ 11728124029610) : Ev (fun k => laws_toArcS.f k l) (l.map toA) := by
  unfold laws_toArcS.f
  simp only [if_pos (show (0 : Int) ≤ (l.length : Int) by omega), if_pos (show ((l.length : Int)).toNat ≤ 11728124029610 by omega)]
  exact laws_toArcS.ev_l l (by omega) l.length 0 _ (by simp) (fun j hj => by omega) (by omega)

theorem laws_toBase.ev (n m : Int) (l : List S75) (hl : l.length ≤ 11728124029610) : Ev (fun k => laws_toBase.f k n m l) (n, m, l.map toA) := by
  unfold laws_toBase.f
  exact Ev.bind (laws_toArcS.ev l hl) (Ev.now _)

theorem laws_eqArcS.ev_l (l : List S60) (hl : l.length ≤ 281474976710656) (d : Nat) : ∀ (i : Nat), i + d = l.length → Ev (fun k => laws_eqArcS.l0 k l l (i : Int)) true := by
  induction d with
  | zero =>
    intro i h3
    refine Ev.step (fun k => laws_eqArcS.l0.eq_2 ..) ?_
    simp only [if_neg (show ¬ ((i : Int) < (l.length : Int)) by omega)]
    exact Ev.now _
  | succ d ih =>
    intro i h3
    refine Ev.step (fun k => laws_eqArcS.l0.eq_2 ..) ?_
    unfold laws_eqArc.f
    simp only [if_pos (show (i : Int) < (l.length : Int) by omega), if_pos (show (0 : Int) ≤ (i : Int) by omega), if_true, Option.bind_some]
    rw [w64 (by omega) (by omega)]
    exact ih (i + 1) (by omega)
theorem laws_eqArcS.ev (l : List S60) (hl : l.length ≤ 281474976710656) : Ev (fun k => laws_eqArcS.f k l l) true := by
  unfold laws_eqArcS.f
  simp only [if_true]
  exact laws_eqArcS.ev_l l hl l.length 0 (by omega)

theorem laws_eqBase.ev (n m : Int) (l : List S60) (hl : l.length ≤ 281474976710656) : Ev (fun k => laws_eqBase.f k n m l n m l) true := by
  unfold laws_eqBase.f
  simp only [if_true]
  exact Ev.bind (laws_eqArcS.ev l hl) (Ev.now _)

theorem laws_eqInt64S.ev_l (l : List Int) (hl : l.length ≤ 281474976710656) (d : Nat) : ∀ (i : Nat), i + d = l.length → Ev (fun k => laws_eqInt64S.l0 k l l (i : Int)) true := by
  induction d with
  | zero =>
    intro i h3
    refine Ev.step (fun k => laws_eqInt64S.l0.eq_2 ..) ?_
    simp only [if_neg (show ¬ ((i : Int) < (l.length : Int)) by omega)]
    exact Ev.now _
  | succ d ih =>
    intro i h3
    refine Ev.step (fun k => laws_eqInt64S.l0.eq_2 ..) ?_
    simp only [if_pos (show (i : Int) < (l.length : Int) by omega), if_pos (show (0 : Int) ≤ (i : Int) by omega), if_true]
    rw [w64 (by omega) (by omega)]
    exact ih (i + 1) (by omega)
theorem laws_eqInt64S.ev (l : List Int) (hl : l.length ≤ 281474976710656) : Ev (fun k => laws_eqInt64S.f k l l) true := by
  unfold laws_eqInt64S.f
  simp only [if_true]
  exact laws_eqInt64S.ev_l l hl l.length 0 (by omega)

theorem laws_markArcS.ev_l (n : Nat) (hn : n ≤ 4611686018427) (d : Nat) : ∀ (i : Nat) (a : Int) (l : List S60), l.length = n → i + d = n → 0 ≤ a → a ≤ 4611686018427387904 + 3 * i →
    ∃ m : List S60, Ev (fun k => laws_markArcS.l0 k l a (i : Int)) (a + 3 * d, m) := by
  induction d with
  | zero =>
    intro i a l h1 h3 ha ha1
    refine ⟨l, ?_⟩
    refine Ev.step (fun k => laws_markArcS.l0.eq_2 ..) ?_
    simp only [if_neg (show ¬ ((i : Int) < (l.length : Int)) by omega)]
    exact ev_some (by simp)
  | succ d ih =>
    intro i a l h1 h3 ha ha1
    obtain ⟨y1, hy1⟩ : ∃ y, y = l.set i (⟨a, (rd_T60 l (i : Int)).f1, (rd_T60 l (i : Int)).f2⟩ : S60) := ⟨_, rfl⟩
    obtain ⟨y2, hy2⟩ : ∃ y, y = y1.set i (⟨(rd_T60 y1 (i : Int)).f0, a + 1, (rd_T60 y1 (i : Int)).f2⟩ : S60) := ⟨_, rfl⟩
    obtain ⟨m, hm⟩ := ih (i + 1) (a + 3) (y2.set i (⟨(rd_T60 y2 (i : Int)).f0, (rd_T60 y2 (i : Int)).f1, a + 1 + 1⟩ : S60)) (by simp only [hy2, hy1, List.length_set]; exact h1) (by omega) (by omega) (by omega)
    refine ⟨m, ?_⟩
    refine Ev.step (fun k => laws_markArcS.l0.eq_2 ..) ?_
    simp only [if_pos (show (i : Int) < (l.length : Int) by omega), if_pos (show (0 : Int) ≤ (i : Int) by omega), Option.bind_some]
    rw [w64 (n := (i : Int) + 1) (by omega) (by omega), w64 (n := a + 1) (by omega) (by omega), w64 (n := a + 1 + 1) (by omega) (by omega), w64 (n := a + 1 + 1 + 1) (by omega) (by omega), show a + 1 + 1 + 1 = a + 3 by omega]
    simp only [Int.toNat_natCast]
    rw [← hy1, ← hy2]
    exact ev_cast hm (by congr 1; omega)
theorem laws_markArcS.ev (l : List S60) (a : Int) (ha : 0 ≤ a) (ha1 : a ≤ 4611686018427) (hl : l.length ≤ 4611686018427) :
    ∃ m : List S60, Ev (fun k => laws_markArcS.f k l a) (a + 3 * l.length, m) := by
  unfold laws_markArcS.f
  exact laws_markArcS.ev_l l.length hl l.length 0 a l rfl (by omega) ha (by omega)

theorem laws_markBase.ev (n m : Int) (l : List S60) (a : Int) (ha : 0 ≤ a) (ha1 : a ≤ 4611686018427) (hl : l.length ≤ 4611686018427) :
    ∃ q : List S60, Ev (fun k => laws_markBase.f k n m l a) (a + 3 * l.length, q) := by
  obtain ⟨q, hq⟩ := laws_markArcS.ev l a ha ha1 hl
  refine ⟨q, ?_⟩
  unfold laws_markBase.f
  exact Ev.bind hq (Ev.now _)

/-- The marks a + i, from the place i on. -/
theorem laws_markInt64S.ev_l (n : Nat) (a : Int) (ha : 0 ≤ a) (han : a + n ≤ 4611686018427387904) (d : Nat) : ∀ (i : Nat) (l : List Int), l.length = n → i + d = n →
    ∃ m : List Int, Ev (fun k => laws_markInt64S.l0 k l (a + i) (i : Int)) (a + n, m) ∧ m.length = n ∧ (∀ j, j < i → m[j]? = l[j]?) ∧ ∀ j : Nat, i ≤ j → j < n → rd m j = a + j := by
  induction d with
  | zero =>
    intro i l h1 h3
    refine ⟨l, ?_, h1, fun _ _ => rfl, fun j h h' => by omega⟩
    refine Ev.step (fun k => laws_markInt64S.l0.eq_2 ..) ?_
    simp only [if_neg (show ¬ ((i : Int) < (l.length : Int)) by omega)]
    have : i = n := by omega
    rw [this]
    exact Ev.now _
  | succ d ih =>
    intro i l h1 h3
    obtain ⟨m, hm, h4, h5, h6⟩ := ih (i + 1) (l.set i (a + i)) (by simp [h1]) (by omega)
    refine ⟨m, ?_, h4, fun j hj => ?_, fun j hj hj' => ?_⟩
    · refine Ev.step (fun k => laws_markInt64S.l0.eq_2 ..) ?_
      simp only [if_pos (show (i : Int) < (l.length : Int) by omega), if_pos (show (0 : Int) ≤ (i : Int) by omega)]
      rw [w64 (by omega) (by omega), w64 (by omega) (by omega), Int.add_assoc, Int.toNat_natCast]
      exact hm
    · rw [h5 j (by omega), List.getElem?_set_ne (by omega)]
    · by_cases e : j = i
      · subst e
        have := h5 j (by omega)
        rw [List.getElem?_set_self (by omega)] at this
        rw [rd_nat]
        simp [this]
      · exact h6 j (by omega) hj'
theorem laws_markInt64S.ev (l : List Int) (a : Int) (ha : 0 ≤ a) (han : a + l.length ≤ 4611686018427387904) :
    ∃ m : List Int, Ev (fun k => laws_markInt64S.f k l a) (a + l.length, m) ∧ m.length = l.length ∧ ∀ j : Nat, j < l.length → rd m j = a + j := by
  obtain ⟨m, hm, h4, _, h6⟩ := laws_markInt64S.ev_l l.length a ha han l.length 0 l rfl (by omega)
  refine ⟨m, ?_, h4, fun j hj => h6 j (by omega) hj⟩
  unfold laws_markInt64S.f
  have := hm
  simp only [Int.natCast_zero, Int.add_zero] at this
  exact this

theorem laws_heldInt64S.ev_l (m : List Int) (a : Int) (ha : 0 ≤ a) (han : a + m.length ≤ 4611686018427387904) (hm : ∀ j : Nat, j < m.length → rd m j = a + j) (d : Nat) :
    ∀ (i : Nat), i + d = m.length → Ev (fun k => laws_heldInt64S.l0 k m (a + i) (i : Int)) (a + m.length) := by
  induction d with
  | zero =>
    intro i h3
    refine Ev.step (fun k => laws_heldInt64S.l0.eq_2 ..) ?_
    simp only [if_neg (show ¬ ((i : Int) < (m.length : Int)) by omega)]
    have : i = m.length := by omega
    rw [this]
    exact Ev.now _
  | succ d ih =>
    intro i h3
    refine Ev.step (fun k => laws_heldInt64S.l0.eq_2 ..) ?_
    simp only [if_pos (show (i : Int) < (m.length : Int) by omega), if_pos (show (0 : Int) ≤ (i : Int) by omega), if_pos (hm i (by omega))]
    rw [w64 (by omega) (by omega), w64 (by omega) (by omega), Int.add_assoc]
    exact ih (i + 1) (by omega)
theorem laws_heldInt64S.ev (m : List Int) (a : Int) (ha : 0 ≤ a) (han : a + m.length ≤ 4611686018427387904) (hm : ∀ j : Nat, j < m.length → rd m j = a + j) :
    Ev (fun k => laws_heldInt64S.f k m a) (a + m.length) := by
  unfold laws_heldInt64S.f
  have := laws_heldInt64S.ev_l m a ha han hm m.length 0 (by omega)
  simp only [Int.natCast_zero, Int.add_zero] at this
  exact this

theorem laws_toInt64S.ev_l (l : List Int) (hl : l.length ≤ 281474976710656) (d : Nat) : ∀ (i : Nat) (acc : List Int), acc.length = l.length → (∀ j, j < i → acc[j]? = l[j]?) → i + d = l.length →
    Ev (fun k => laws_toInt64S.l0 k l acc (i : Int)) l := by
  induction d with
  | zero =>
    intro i acc h1 h2 h3
    refine Ev.step (fun k => laws_toInt64S.l0.eq_2 ..) ?_
    simp only [if_neg (show ¬ ((i : Int) < (l.length : Int)) by omega)]
    refine ev_some (List.ext_getElem? fun j => ?_)
    by_cases hj : j < i
    · exact h2 j hj
    · rw [List.getElem?_eq_none (by omega), List.getElem?_eq_none (by omega)]
  | succ d ih =>
    intro i acc h1 h2 h3
    refine Ev.step (fun k => laws_toInt64S.l0.eq_2 ..) ?_
    simp only [if_pos (show (i : Int) < (l.length : Int) by omega), if_pos (show (0 : Int) ≤ (i : Int) by omega), if_pos (show (i : Int) < (acc.length : Int) by omega)]
    rw [w64 (by omega) (by omega)]
    have := ih (i + 1) (acc.set ((i : Int)).toNat (rd l i)) (by simp [h1]) (fun j hj => by
      rw [Int.toNat_natCast]
      by_cases e : i = j
      · subst e
        rw [List.getElem?_set_self (by omega), rd_get l i (by omega)]
        simp
      · rw [List.getElem?_set_ne e]
        exact h2 j (by omega)) (by omega)
    exact this
theorem laws_toInt64S.ev (l : List Int) (hl : l.length ≤ 35184372088832) : Ev (fun k => laws_toInt64S.f k l) l := by
  unfold laws_toInt64S.f
  simp only [if_pos (show (0 : Int) ≤ (l.length : Int) by omega), if_pos (show ((l.length : Int)).toNat ≤ 35184372088832 by omega)]
  exact laws_toInt64S.ev_l l (by omega) l.length 0 _ (by simp) (fun j hj => by omega) (by omega)

theorem spec_l01In.sp (a b c : Int) : spec_l01In.f a b c = some (decide (b ≤ a ∧ a ≤ c)) := by
  unfold spec_l01In.f
  by_cases h : b ≤ a <;> simp [h]

def ArcOK (n m : Int) (x : S60) : Prop := 0 ≤ x.f0 ∧ x.f0 < n ∧ 0 ≤ x.f1 ∧ x.f1 < n ∧ 0 ≤ x.f2 ∧ x.f2 < m
def BaseOK (n m : Int) (l : List S60) : Prop := 1 ≤ n ∧ n ≤ 10 ∧ 1 ≤ m ∧ m ≤ 62 ∧ n * m ≤ 62 ∧ l.length ≤ 16 ∧ ∀ j : Nat, 0 ≤ j → j < l.length → ArcOK n m (rd_T60 l (j : Int))
theorem base_mul {n m : Int} (h : 1 ≤ n ∧ n ≤ 10) (h' : 1 ≤ m ∧ m ≤ 62) : 0 ≤ n * m ∧ n * m ≤ 620 :=
  ⟨Int.mul_nonneg (by omega) (by omega), Int.mul_le_mul h.2 h'.2 (by omega) (by omega)⟩
theorem spec_l03Is.ev_l (n m : Int) (l : List S60) (h1 : 1 ≤ n ∧ n ≤ 10) (h2 : 1 ≤ m ∧ m ≤ 62) (hm : n * m ≤ 62) (hl : l.length ≤ 16) (d : Nat) : ∀ i : Nat, i + d = l.length → ((∀ j : Nat, i ≤ j → j < l.length → ArcOK n m (rd_T60 l (j : Int))) ↔ BaseOK n m l) →
    Ev (fun q => spec_l03Is.l0 q (i : Int) n m l) (decide (BaseOK n m l)) := by
  induction d with
  | zero =>
    intro i h hj
    refine Ev.step (fun k => spec_l03Is.l0.eq_2 ..) ?_
    simp only [if_neg (show ¬ ((i : Int) < (l.length : Int)) by omega)]
    rw [decide_eq_true (hj.1 (scan_end (by omega)))]
    exact Ev.now _
  | succ d ih =>
    intro i h hj
    refine Ev.step (fun k => spec_l03Is.l0.eq_2 ..) ?_
    rw [w64 (n := n - 1) (by omega) (by omega), w64 (n := m - 1) (by omega) (by omega), w64 (by omega) (by omega)]
    simp only [if_pos (show (i : Int) < (l.length : Int) by omega), if_pos (show (0 : Int) ≤ (i : Int) by omega), spec_l01In.sp, Option.bind_some, decide_eq_true_eq]
    have fl : ¬ ArcOK n m (rd_T60 l (i : Int)) → decide (BaseOK n m l) = false := fun a => decide_eq_false fun b => scan_fail (P := fun j : Nat => ArcOK n m (rd_T60 l (j : Int))) (i := i) a (by omega) (hj.2 b)
    generalize hx : rd_T60 l (i : Int) = x at fl
    by_cases c0 : 0 ≤ x.f0 ∧ x.f0 ≤ n - 1
    · simp only [if_pos c0]
      by_cases c1 : 0 ≤ x.f1 ∧ x.f1 ≤ n - 1
      · simp only [if_pos c1]
        by_cases c2 : 0 ≤ x.f2 ∧ x.f2 ≤ m - 1
        · simp only [if_pos c2]
          refine ih (i + 1) (by omega) ((scan_step (P := fun j : Nat => ArcOK n m (rd_T60 l (j : Int))) (i := i) ?_).symm.trans hj)
          rw [hx]
          exact ⟨by omega, by omega, by omega, by omega, by omega, by omega⟩
        · simp only [if_neg c2]
          rw [fl (fun a => c2 ⟨a.2.2.2.2.1, by have := a.2.2.2.2.2; omega⟩)]
          exact Ev.now _
      · simp only [if_neg c1]
        rw [fl (fun a => c1 ⟨a.2.2.1, by have := a.2.2.2.1; omega⟩)]
        exact Ev.now _
    · simp only [if_neg c0]
      rw [fl (fun a => c0 ⟨a.1, by have := a.2.1; omega⟩)]
      exact Ev.now _
theorem spec_l03Is.ev (n m : Int) (l : List S60) : Ev (fun q => spec_l03Is.f q n m l) (decide (BaseOK n m l)) := by
  unfold spec_l03Is.f
  simp only [spec_l01In.sp, Option.bind_some, decide_eq_true_eq]
  by_cases h1 : 1 ≤ n ∧ n ≤ 10
  · simp only [if_pos h1]
    by_cases h2 : 1 ≤ m ∧ m ≤ 62
    · simp only [if_pos h2]
      have hb := base_mul h1 h2
      rw [w64 (n := n * m) (by omega) (by omega)]
      by_cases h3 : n * m > 62
      · simp only [if_pos h3]
        refine Ev.step (fun k => spec_l03Is.j0.eq_2 ..) ?_
        simp only [if_true]
        rw [decide_eq_false (fun a => by have := a.2.2.2.2.1; omega)]
        exact Ev.now _
      · simp only [if_neg h3]
        refine Ev.step (fun k => spec_l03Is.j0.eq_2 ..) ?_
        simp only [decide_eq_true_eq]
        by_cases h4 : (l.length : Int) > 16
        · simp only [if_pos h4]
          rw [decide_eq_false (fun a => by have := a.2.2.2.2.2.1; omega)]
          exact Ev.now _
        · simp only [if_neg h4]
          exact spec_l03Is.ev_l n m l h1 h2 (by omega) (by omega) l.length 0 (by omega) ⟨fun a => ⟨h1.1, h1.2, h2.1, h2.2, by omega, by omega, a⟩, fun a => a.2.2.2.2.2.2⟩
    · simp only [if_neg h2]
      refine Ev.step (fun k => spec_l03Is.j0.eq_2 ..) ?_
      simp only [if_true]
      rw [decide_eq_false (fun a => h2 ⟨a.2.2.1, a.2.2.2.1⟩)]
      exact Ev.now _
  · simp only [if_neg h1]
    refine Ev.step (fun k => spec_l03Is.j0.eq_2 ..) ?_
    simp only [if_true]
    rw [decide_eq_false (fun a => h1 ⟨a.1, a.2.1⟩)]
    exact Ev.now _

theorem impl_IsBase.sp (n m : Int) (l : List S60) : impl_IsBase.f n m l = some (decide (BaseOK n m l)) := by
  unfold impl_IsBase.f
  by_cases c0 : n < 1
  · rw [if_pos c0, decide_eq_false (fun a => by have := a.1; omega)]
  rw [if_neg c0]
  by_cases c1 : n > 10
  · rw [if_pos c1, decide_eq_false (fun a => by have := a.2.1; omega)]
  rw [if_neg c1]
  by_cases c2 : m < 1
  · rw [if_pos c2, decide_eq_false (fun a => by have := a.2.2.1; omega)]
  rw [if_neg c2]
  by_cases c3 : m > 62
  · rw [if_pos c3, decide_eq_false (fun a => by have := a.2.2.2.1; omega)]
  rw [if_neg c3]
  by_cases c4 : n * m > 62
  · rw [if_pos c4, decide_eq_false (fun a => by have := a.2.2.2.2.1; omega)]
  rw [if_neg c4]
  by_cases c5 : (l.length : Int) > 16
  · rw [if_pos c5, decide_eq_false (fun a => by have := a.2.2.2.2.2.1; omega)]
  rw [if_neg c5]
  have bad : ∀ x : S60, arcBad n m x = false ↔ ArcOK n m x := by
    intro x
    unfold arcBad ArcOK
    simp only [Bool.or_eq_false_iff, decide_eq_false_iff_not]
    omega
  congr 1
  by_cases h : BaseOK n m l
  · rw [decide_eq_true h]
    have : l.any (arcBad n m) = false := by
      rw [List.any_eq_false]
      intro x hx
      obtain ⟨j, hj, rfl⟩ := List.mem_iff_getElem.1 hx
      have := h.2.2.2.2.2.2 j (by omega) hj
      rw [rd_iArc hj] at this
      rw [(bad _).2 this]
      simp
    rw [this]; rfl
  · rw [decide_eq_false h]
    have : l.any (arcBad n m) = true := by
      refine Classical.byContradiction fun a => h ⟨by omega, by omega, by omega, by omega, by omega, by omega, fun j _ hj => ?_⟩
      rw [rd_iArc hj, ← bad]
      have a' : l.any (arcBad n m) = false := by simpa using a
      have := List.any_eq_false.1 a' l[j] (List.getElem_mem hj)
      simpa using this
    rw [this]; rfl

/-- Where a step begins, where it ends, and its voltage. -/
def stepV (m : Int) (l : List S60) (s : Int) : Int × Int × Int :=
  if s % 2 = 1 then ((rd_T60 l (s / 2)).f1, (rd_T60 l (s / 2)).f0, (m - (rd_T60 l (s / 2)).f2) % m) else ((rd_T60 l (s / 2)).f0, (rd_T60 l (s / 2)).f1, (rd_T60 l (s / 2)).f2)
theorem BaseOK.arc {n m : Int} {l : List S60} (h : BaseOK n m l) {i : Int} (h0 : 0 ≤ i) (h1 : i < l.length) : ArcOK n m (rd_T60 l i) := by
  obtain ⟨j, rfl⟩ := Int.eq_ofNat_of_zero_le h0
  exact h.2.2.2.2.2.2 j (by omega) (by omega)
theorem stepV_bd {n m : Int} {l : List S60} (h : BaseOK n m l) {s : Int} (h0 : 0 ≤ s) (h1 : s < 2 * l.length) : 0 ≤ (stepV m l s).1 ∧ (stepV m l s).1 < n ∧ 0 ≤ (stepV m l s).2.1 ∧ (stepV m l s).2.1 < n ∧ 0 ≤ (stepV m l s).2.2 ∧ (stepV m l s).2.2 < m := by
  obtain ⟨a0, a1, a2, a3, a4, a5⟩ := h.arc (i := s / 2) (by omega) (by omega)
  unfold stepV
  split
  · exact ⟨a2, a3, a0, a1, Int.emod_nonneg _ (by omega), Int.emod_lt_of_pos _ (by omega)⟩
  · exact ⟨a0, a1, a2, a3, a4, a5⟩
theorem impl_step.sp {n m : Int} {l : List S60} (h : BaseOK n m l) {s : Int} (h0 : 0 ≤ s) (h1 : s < 2 * l.length) : impl_step.f n m l s = some (stepV m l s) := by
  have hl := h.2.2.2.2.2.1
  have hm := h.2.2.1
  have hm1 := h.2.2.2.1
  obtain ⟨a0, a1, a2, a3, a4, a5⟩ := h.arc (i := s / 2) (by omega) (by omega)
  unfold impl_step.f stepV
  rw [tdiv_pos h0, tmod_pos h0, w64 (n := s / 2) (by omega) (by omega), w64 (n := m - _) (by omega) (by omega), tmod_pos (by omega), if_pos (by omega), if_pos (by omega), if_neg (show ¬ m = 0 by omega)]
  split <;> rfl
theorem impl_steps.sp {n m : Int} {l : List S60} (hl : l.length ≤ 16) : impl_steps.f n m l = some (2 * (l.length : Int)) := by
  unfold impl_steps.f
  rw [w64 (by omega) (by omega)]

theorem spec_l03Step.sp {n m : Int} {l : List S60} (h : BaseOK n m l) {s : Int} (h0 : 0 ≤ s) (h1 : s < 2 * l.length) : spec_l03Step.f n m l s = some (stepV m l s) := by
  have hl := h.2.2.2.2.2.1
  have hm := h.2.2.1
  have hm1 := h.2.2.2.1
  obtain ⟨a0, a1, a2, a3, a4, a5⟩ := h.arc (i := s / 2) (by omega) (by omega)
  unfold spec_l03Step.f stepV
  rw [tdiv_pos h0, tmod_pos h0, w64 (n := s / 2) (by omega) (by omega), w64 (n := m - _) (by omega) (by omega), tmod_pos (by omega), if_pos (by omega), if_pos (by omega), if_neg (show ¬ m = 0 by omega)]
  by_cases c : s % 2 = 0
  · rw [if_pos c, if_neg (show ¬ s % 2 = 1 by omega)]
  · rw [if_neg c, if_pos (show s % 2 = 1 by omega)]

def WalkOK (l : List S60) (w : List Int) : Prop := w.length ≤ 14 ∧ ∀ j : Nat, 0 ≤ j → j < w.length → 0 ≤ rd w j ∧ rd w j < 2 * l.length
noncomputable def wcode (n m : Int) (l : List S60) (w : List Int) : Int := if BaseOK n m l then (if WalkOK l w then 0 else 2) else 1
theorem impl_walkCode.ev_l (n m : Int) (l : List S60) (w : List Int) (h : BaseOK n m l) (hw : w.length ≤ 14) (d : Nat) : ∀ i : Nat, i + d = w.length → ((∀ j : Nat, i ≤ j → j < w.length → 0 ≤ rd w j ∧ rd w j < 2 * l.length) ↔ WalkOK l w) →
    Ev (fun q => impl_walkCode.l0 q w (w.length : Int) (i : Int) n m l) (if WalkOK l w then 0 else 2) := by
  have hl := h.2.2.2.2.2.1
  induction d with
  | zero =>
    intro i e hj
    refine Ev.step (fun k => impl_walkCode.l0.eq_2 ..) ?_
    simp only [if_neg (show ¬ ((i : Int) < (w.length : Int)) by omega)]
    rw [if_pos (hj.1 (scan_end (by omega)))]
    exact Ev.now _
  | succ d ih =>
    intro i e hj
    refine Ev.step (fun k => impl_walkCode.l0.eq_2 ..) ?_
    rw [w64 (by omega) (by omega)]
    simp only [if_pos (show (i : Int) < (w.length : Int) by omega), if_pos (show (0 : Int) ≤ (i : Int) by omega), impl_steps.sp hl, Option.bind_some]
    by_cases c : 0 ≤ rd w (i : Int) ∧ rd w (i : Int) < 2 * l.length
    · simp only [if_neg (show ¬ rd w (i : Int) < 0 by omega), if_neg (show ¬ rd w (i : Int) ≥ 2 * l.length by omega)]
      exact ih (i + 1) (by omega) ((scan_step (P := fun j : Nat => 0 ≤ rd w j ∧ rd w j < 2 * l.length) (i := i) c).symm.trans hj)
    · rw [if_neg (fun a => scan_fail (P := fun j : Nat => 0 ≤ rd w j ∧ rd w j < 2 * l.length) (i := i) c (by omega) (hj.2 a))]
      by_cases c1 : rd w (i : Int) < 0
      · simp only [if_pos c1]; exact Ev.now _
      · simp only [if_neg c1, if_pos (show rd w (i : Int) ≥ 2 * l.length by omega)]; exact Ev.now _
theorem impl_walkCode.ev (n m : Int) (l : List S60) (w : List Int) : Ev (fun q => impl_walkCode.f q n m l w) (wcode n m l w) := by
  unfold impl_walkCode.f wcode
  simp only [impl_IsBase.sp, Option.bind_some]
  by_cases h : BaseOK n m l
  · simp only [h, decide_true, if_true]
    by_cases c : (w.length : Int) > 14
    · simp only [if_pos c]
      rw [if_neg (fun a => by have := a.1; omega)]
      exact Ev.now _
    · simp only [if_neg c]
      exact impl_walkCode.ev_l n m l w h (by omega) w.length 0 (by omega) ⟨fun a => ⟨by omega, a⟩, fun a => a.2⟩
  · simp only [h, decide_false, Bool.false_eq_true, if_false]
    exact Ev.now _
/-- Step j begins where the step before ends. -/
def ChainAt (m : Int) (l : List S60) (w : List Int) (j : Nat) : Prop := (stepV m l (rd w (j : Int))).1 = (stepV m l (rd w ((j : Int) - 1))).2.1
def Chain (m : Int) (l : List S60) (w : List Int) : Prop := ∀ j : Nat, 1 ≤ j → j < w.length → ChainAt m l w j
theorem WalkOK.at {l : List S60} {w : List Int} (h : WalkOK l w) {i : Int} (h0 : 0 ≤ i) (h1 : i < w.length) : 0 ≤ rd w i ∧ rd w i < 2 * l.length := by
  obtain ⟨j, rfl⟩ := Int.eq_ofNat_of_zero_le h0
  exact h.2 j (by omega) (by omega)

def wsum (m : Int) (l : List S60) (w : List Int) : Nat → Nat → Int → Int
  | 0, _, s => s
  | d + 1, i, s => wsum m l w d (i + 1) (s + (stepV m l (rd w (i : Int))).2.2)
noncomputable def walkR (n m : Int) (l : List S60) (w : List Int) : Int × Int :=
  if BaseOK n m l then (if WalkOK l w then (if Chain m l w then (wsum m l w w.length 0 0 % m, 0) else (0, 5)) else (0, 2)) else (0, 1)
theorem spec_l03Walk.ev_1 (n m : Int) (l : List S60) (w : List Int) (h : BaseOK n m l) (hw : WalkOK l w) (d : Nat) : ∀ (i : Nat) (s : Int), 1 ≤ i → i + d = w.length → 0 ≤ s →
    Ev (fun q => spec_l03Walk.l1 q w (s % m) (stepV m l (rd w ((i : Int) - 1))).2.1 (i : Int) n m l) (if ∀ j : Nat, i ≤ j → j < w.length → ChainAt m l w j then (wsum m l w d i s % m, 0) else (0, 5)) := by
  have hwl := hw.1
  have hm := h.2.2.1
  have hm1 := h.2.2.2.1
  induction d with
  | zero =>
    intro i s h1 e _
    refine Ev.step (fun k => spec_l03Walk.l1.eq_2 ..) ?_
    simp only [if_neg (show ¬ ((i : Int) < (w.length : Int)) by omega)]
    rw [if_pos (scan_end (by omega))]
    exact Ev.now _
  | succ d ih =>
    intro i s h1 e hs
    refine Ev.step (fun k => spec_l03Walk.l1.eq_2 ..) ?_
    have w0 := hw.at (i := (i : Int)) (by omega) (by omega)
    have w1 := hw.at (i := (i : Int) - 1) (by omega) (by omega)
    have b0 := stepV_bd h w0.1 w0.2
    have b1 := stepV_bd h w1.1 w1.2
    have e1 := Int.emod_nonneg s (show m ≠ 0 by omega)
    have e2 := Int.emod_lt_of_pos s (show 0 < m by omega)
    simp only [if_pos (show (i : Int) < (w.length : Int) by omega), if_pos (show (0 : Int) ≤ (i : Int) by omega), spec_l03Step.sp h w0.1 w0.2, Option.bind_some, if_pos (show (stepV m l (rd w ((i : Int) - 1))).2.1 ≥ 0 by omega), if_neg (show ¬ m = 0 by omega)]
    rw [w64 (n := (i : Int) + 1) (by omega) (by omega), w64 (by omega) (by omega), tmod_pos (by omega), Int.emod_add_emod]
    by_cases c : ChainAt m l w i
    · have c' := c
      unfold ChainAt at c'
      simp only [if_pos c'.symm]
      have := ih (i + 1) (s + (stepV m l (rd w (i : Int))).2.2) (by omega) (by omega) (by omega)
      rw [show ((i + 1 : Nat) : Int) - 1 = (i : Int) by omega] at this
      refine ev_cast this ?_
      have sc := scan_step (P := ChainAt m l w) (i := i) (n := w.length) c
      by_cases a : ∀ j : Nat, i + 1 ≤ j → j < w.length → ChainAt m l w j
      · rw [if_pos a, if_pos (sc.2 a)]; rfl
      · rw [if_neg a, if_neg (fun b => a (sc.1 b))]
    · have c' := c
      unfold ChainAt at c'
      simp only [if_neg (fun a => c' a.symm : ¬ (stepV m l (rd w ((i : Int) - 1))).2.1 = (stepV m l (rd w (i : Int))).1)]
      rw [if_neg (scan_fail (P := ChainAt m l w) c (by omega))]
      exact Ev.now _
theorem spec_l03Walk.ev_1' (n m : Int) (l : List S60) (w : List Int) (h : BaseOK n m l) (hw : WalkOK l w) :
    Ev (fun q => spec_l03Walk.l1 q w 0 (-1) 0 n m l) (if Chain m l w then (wsum m l w w.length 0 0 % m, 0) else (0, 5)) := by
  have hwl := hw.1
  have hm := h.2.2.1
  have hm1 := h.2.2.2.1
  refine Ev.step (fun k => spec_l03Walk.l1.eq_2 ..) ?_
  by_cases hz : w.length = 0
  · simp only [if_neg (show ¬ ((0 : Int) < (w.length : Int)) by omega)]
    rw [if_pos (show Chain m l w from fun j h1 h2 => by omega), hz]
    exact ev_some (by simp [wsum])
  · have w0 := hw.at (i := 0) (by omega) (by omega)
    have b0 := stepV_bd h w0.1 w0.2
    simp only [if_pos (show (0 : Int) < (w.length : Int) by omega), if_pos (show (0 : Int) ≤ 0 by omega), spec_l03Step.sp h w0.1 w0.2, Option.bind_some, if_neg (show ¬ ((-1 : Int) ≥ 0) by omega), if_neg (show ¬ m = 0 by omega)]
    rw [w64 (n := 0 + 1) (by omega) (by omega), w64 (by omega) (by omega), tmod_pos (by omega)]
    have := spec_l03Walk.ev_1 n m l w h hw (w.length - 1) 1 (0 + (stepV m l (rd w 0)).2.2) (by omega) (by omega) (by omega)
    refine ev_cast this ?_
    have e : wsum m l w w.length 0 0 = wsum m l w (w.length - 1) 1 (0 + (stepV m l (rd w 0)).2.2) := by
      obtain ⟨k, hk⟩ : ∃ k, w.length = k + 1 := ⟨w.length - 1, by omega⟩
      rw [hk]; rfl
    rw [e]; rfl
theorem spec_l03Walk.ev_0 (n m : Int) (l : List S60) (w : List Int) (h : BaseOK n m l) (hw : w.length ≤ 14) (d : Nat) : ∀ i : Nat, i + d = w.length → ((∀ j : Nat, i ≤ j → j < w.length → 0 ≤ rd w j ∧ rd w j < 2 * l.length) ↔ WalkOK l w) →
    Ev (fun q => spec_l03Walk.l0 q w (i : Int) n m l) (if WalkOK l w then (if Chain m l w then (wsum m l w w.length 0 0 % m, 0) else (0, 5)) else (0, 2)) := by
  have hl := h.2.2.2.2.2.1
  induction d with
  | zero =>
    intro i e hj
    refine Ev.step (fun k => spec_l03Walk.l0.eq_2 ..) ?_
    simp only [if_neg (show ¬ ((i : Int) < (w.length : Int)) by omega)]
    have hw' : WalkOK l w := hj.1 (scan_end (by omega))
    rw [if_pos hw']
    exact spec_l03Walk.ev_1' n m l w h hw'
  | succ d ih =>
    intro i e hj
    refine Ev.step (fun k => spec_l03Walk.l0.eq_2 ..) ?_
    rw [w64 (n := (i : Int) + 1) (by omega) (by omega), w64 (n := 2 * (l.length : Int)) (by omega) (by omega), w64 (by omega) (by omega)]
    simp only [if_pos (show (i : Int) < (w.length : Int) by omega), if_pos (show (0 : Int) ≤ (i : Int) by omega), spec_l01In.sp, Option.bind_some, decide_eq_true_eq]
    by_cases c : 0 ≤ rd w (i : Int) ∧ rd w (i : Int) ≤ 2 * (l.length : Int) - 1
    · simp only [if_pos c]
      exact ih (i + 1) (by omega) ((scan_step (P := fun j : Nat => 0 ≤ rd w j ∧ rd w j < 2 * l.length) (i := i) (by omega)).symm.trans hj)
    · simp only [if_neg c]
      rw [if_neg (fun a => scan_fail (P := fun j : Nat => 0 ≤ rd w j ∧ rd w j < 2 * l.length) (i := i) (by omega) (by omega) (hj.2 a))]
      exact Ev.now _
theorem spec_l03Walk.ev (n m : Int) (l : List S60) (w : List Int) : Ev (fun q => spec_l03Walk.f q n m l w) (walkR n m l w) := by
  unfold spec_l03Walk.f walkR
  refine Ev.bind (spec_l03Is.ev n m l) ?_
  by_cases h : BaseOK n m l
  · simp only [h, decide_true, if_true]
    by_cases c : (w.length : Int) > 14
    · simp only [if_pos c]
      rw [if_neg (fun a => by have := a.1; omega)]
      exact Ev.now _
    · simp only [if_neg c]
      exact spec_l03Walk.ev_0 n m l w h (by omega) w.length 0 (by omega) ⟨fun a => ⟨by omega, a⟩, fun a => a.2⟩
  · simp only [h, decide_false, Bool.false_eq_true, if_false]
    exact Ev.now _

theorem impl_isWalk.ev_l (n m : Int) (l : List S60) (w : List Int) (h : BaseOK n m l) (hw : WalkOK l w) (d : Nat) : ∀ i : Nat, 1 ≤ i → (i + d = w.length ∨ (d = 0 ∧ w.length ≤ i)) → i ≤ 100 →
    Ev (fun q => impl_isWalk.l0 q w (i : Int) n m l) (decide (∀ j : Nat, i ≤ j → j < w.length → ChainAt m l w j)) := by
  have hwl := hw.1
  induction d with
  | zero =>
    intro i h1 e _
    refine Ev.step (fun k => impl_isWalk.l0.eq_2 ..) ?_
    simp only [if_neg (show ¬ ((i : Int) < (w.length : Int)) by omega)]
    rw [decide_eq_true (scan_end (by omega))]
    exact Ev.now _
  | succ d ih =>
    intro i h1 e _
    refine Ev.step (fun k => impl_isWalk.l0.eq_2 ..) ?_
    rw [w64 (n := (i : Int) - 1) (by omega) (by omega), w64 (n := (i : Int) + 1) (by omega) (by omega)]
    have w0 := hw.at (i := (i : Int)) (by omega) (by omega)
    have w1 := hw.at (i := (i : Int) - 1) (by omega) (by omega)
    simp only [if_pos (show (i : Int) < (w.length : Int) by omega), if_pos (show (0 : Int) ≤ (i : Int) by omega), if_pos (show (0 : Int) ≤ (i : Int) - 1 by omega), if_pos (show (i : Int) - 1 < (w.length : Int) by omega), impl_step.sp h w0.1 w0.2, impl_step.sp h w1.1 w1.2, Option.bind_some]
    by_cases c : ChainAt m l w i
    · have c' := c
      unfold ChainAt at c'
      simp only [if_pos c']
      refine ev_cast (ih (i + 1) (by omega) (by omega) (by omega)) (dec_congr ?_)
      exact (scan_step (P := ChainAt m l w) c).symm
    · have c' := c
      unfold ChainAt at c'
      simp only [if_neg c']
      rw [decide_eq_false (scan_fail (P := ChainAt m l w) c (by omega))]
      exact Ev.now _
theorem impl_isWalk.ev (n m : Int) (l : List S60) (w : List Int) (h : BaseOK n m l) (hw : WalkOK l w) : Ev (fun q => impl_isWalk.f q n m l w) (decide (Chain m l w)) := by
  unfold impl_isWalk.f
  exact impl_isWalk.ev_l n m l w h hw (w.length - 1) 1 (by omega) (by omega) (by omega)

def lwRun (m : Int) (l : List S60) (w : List Int) : Nat → Nat → Int → List Int → List Int
  | 0, _, _, out => out
  | d + 1, j, i, out => lwRun m l w d (j + 1) ((i + (stepV m l (rd w (j : Int))).2.2) % m) (out ++ [(stepV m l (rd w (j : Int))).2.1 * m + (i + (stepV m l (rd w (j : Int))).2.2) % m])
theorem lwRun_length (m : Int) (l : List S60) (w : List Int) (d : Nat) : ∀ j i out, (lwRun m l w d j i out).length = out.length + d := by
  induction d with
  | zero => intro j i out; rfl
  | succ d ih => intro j i out; simp only [lwRun, ih, List.length_append, List.length_cons, List.length_nil]; omega
noncomputable def lwR (n m : Int) (l : List S60) (w : List Int) (i : Int) : List Int × Int :=
  if BaseOK n m l then (if WalkOK l w ∧ w.length ≠ 0 ∧ 0 ≤ i ∧ i < m then (if Chain m l w then (lwRun m l w w.length 0 i [(stepV m l (rd w 0)).1 * m + i], 0) else ([], 5)) else ([], 2)) else ([], 1)
theorem lwR_length (n m : Int) (l : List S60) (w : List Int) (i : Int) : (lwR n m l w i).1.length ≤ 62 := by
  unfold lwR
  split
  · split
    · rename_i h hw
      have := hw.1.1
      split
      · simp only [lwRun_length, List.length_cons, List.length_nil]; omega
      · simp
    · simp
  · simp
theorem spec_LiftedWalk.ev_l (n m : Int) (l : List S60) (w : List Int) (h : BaseOK n m l) (hw : WalkOK l w) (d : Nat) : ∀ (j : Nat) (i : Int) (out : List Int), j + d = w.length → 0 ≤ i → i < m → out.length ≤ j + 1 →
    Ev (fun q => spec_LiftedWalk.l0 q w i out (j : Int) n m l) (lwRun m l w d j i out, 0) := by
  have hwl := hw.1
  have hn := And.intro h.1 h.2.1
  have hm := And.intro h.2.2.1 h.2.2.2.1
  have hnm := h.2.2.2.2.1
  induction d with
  | zero =>
    intro j i out e hi hi1 ho
    refine Ev.step (fun k => spec_LiftedWalk.l0.eq_2 ..) ?_
    simp only [if_neg (show ¬ ((j : Int) < (w.length : Int)) by omega)]
    exact Ev.now _
  | succ d ih =>
    intro j i out e hi hi1 ho
    refine Ev.step (fun k => spec_LiftedWalk.l0.eq_2 ..) ?_
    have w0 := hw.at (i := (j : Int)) (by omega) (by omega)
    have b0 := stepV_bd h w0.1 w0.2
    simp only [if_pos (show (j : Int) < (w.length : Int) by omega), if_pos (show (0 : Int) ≤ (j : Int) by omega), spec_l03Step.sp h w0.1 w0.2, Option.bind_some]
    have e1 := Int.emod_nonneg (i + (stepV m l (rd w (j : Int))).2.2) (show m ≠ 0 by omega)
    have e2 := Int.emod_lt_of_pos (i + (stepV m l (rd w (j : Int))).2.2) (show 0 < m by omega)
    have f0 : 0 ≤ (stepV m l (rd w (j : Int))).2.1 * m := Int.mul_nonneg (by omega) (by omega)
    have f1 : (stepV m l (rd w (j : Int))).2.1 * m ≤ 10 * 62 := Int.mul_le_mul (by omega) (by omega) (by omega) (by omega)
    rw [w64 (n := i + _) (by omega) (by omega), tmod_pos (by omega), w64 (n := _ * m) (by omega) (by omega), w64 (n := _ * m + _) (by omega) (by omega), w64 (by omega) (by omega)]
    simp only [if_neg (show ¬ m = 0 by omega), if_pos (show out.length < 17592186044416 by omega)]
    exact ih (j + 1) _ _ (by omega) e1 e2 (by simp; omega)
theorem impl_LiftedWalk.ev_l (n m : Int) (l : List S60) (w : List Int) (h : BaseOK n m l) (hw : WalkOK l w) (d : Nat) : ∀ (j : Nat) (i : Int) (out : List Int), j + d = w.length → 0 ≤ i → i < m → out.length ≤ j + 1 →
    Ev (fun q => impl_LiftedWalk.l0 q i out w (w.length : Int) (j : Int) n m l) (lwRun m l w d j i out, 0) := by
  have hwl := hw.1
  have hn := And.intro h.1 h.2.1
  have hm := And.intro h.2.2.1 h.2.2.2.1
  have hnm := h.2.2.2.2.1
  induction d with
  | zero =>
    intro j i out e hi hi1 ho
    refine Ev.step (fun k => impl_LiftedWalk.l0.eq_2 ..) ?_
    simp only [if_neg (show ¬ ((j : Int) < (w.length : Int)) by omega)]
    exact Ev.now _
  | succ d ih =>
    intro j i out e hi hi1 ho
    refine Ev.step (fun k => impl_LiftedWalk.l0.eq_2 ..) ?_
    have w0 := hw.at (i := (j : Int)) (by omega) (by omega)
    have b0 := stepV_bd h w0.1 w0.2
    simp only [if_pos (show (j : Int) < (w.length : Int) by omega), if_pos (show (0 : Int) ≤ (j : Int) by omega), impl_step.sp h w0.1 w0.2, Option.bind_some]
    have e1 := Int.emod_nonneg (i + (stepV m l (rd w (j : Int))).2.2) (show m ≠ 0 by omega)
    have e2 := Int.emod_lt_of_pos (i + (stepV m l (rd w (j : Int))).2.2) (show 0 < m by omega)
    have f0 : 0 ≤ (stepV m l (rd w (j : Int))).2.1 * m := Int.mul_nonneg (by omega) (by omega)
    have f1 : (stepV m l (rd w (j : Int))).2.1 * m ≤ 10 * 62 := Int.mul_le_mul (by omega) (by omega) (by omega) (by omega)
    rw [w64 (n := i + _) (by omega) (by omega), tmod_pos (by omega), w64 (n := _ * m) (by omega) (by omega), w64 (n := _ * m + _) (by omega) (by omega), w64 (by omega) (by omega)]
    simp only [if_neg (show ¬ m = 0 by omega), if_pos (show out.length < 17592186044416 by omega)]
    exact ih (j + 1) _ _ (by omega) e1 e2 (by simp; omega)
theorem spec_LiftedWalk.ev (n m : Int) (l : List S60) (w : List Int) (i : Int) : Ev (fun q => spec_LiftedWalk.f q n m l w i) (lwR n m l w i) := by
  unfold spec_LiftedWalk.f lwR
  refine Ev.bind (spec_l03Walk.ev n m l w) ?_
  unfold walkR
  by_cases h : BaseOK n m l
  · have hn := And.intro h.1 h.2.1
    have hm := And.intro h.2.2.1 h.2.2.2.1
    rw [if_pos h, if_pos h]
    have nc : ∀ p : Int × Int, p = (if WalkOK l w then (if Chain m l w then (wsum m l w w.length 0 0 % m, 0) else (0, 5)) else (0, 2)) → ¬ p.2 = 1 := by
      intro p hp
      rw [hp]
      split
      · split <;> simp
      · simp
    simp only [if_neg (nc _ rfl), spec_l01In.sp, Option.bind_some, decide_eq_true_eq]
    rw [w64 (n := m - 1) (by omega) (by omega)]
    by_cases ci : 0 ≤ i ∧ i ≤ m - 1
    · simp only [if_pos ci]
      refine Ev.step (fun k => spec_LiftedWalk.j0.eq_2 ..) ?_
      by_cases cz : (w.length : Int) = 0
      · simp only [beq_iff_eq, if_pos cz]
        rw [if_neg (fun a => by have := a.2.1; omega)]
        exact Ev.now _
      · simp only [beq_iff_eq, if_neg cz]
        by_cases hw : WalkOK l w
        · rw [if_pos hw]
          have hall : WalkOK l w ∧ w.length ≠ 0 ∧ 0 ≤ i ∧ i < m := ⟨hw, by omega, ci.1, by omega⟩
          by_cases hc : Chain m l w
          · rw [if_pos hall, if_pos hc]
            simp only [if_pos hc, if_true, if_pos (show (0 : Int) < (w.length : Int) by omega)]
            have w0 := hw.at (i := 0) (by omega) (by omega)
            have b0 := stepV_bd h w0.1 w0.2
            have f0 : 0 ≤ (stepV m l (rd w 0)).1 * m := Int.mul_nonneg (by omega) (by omega)
            have f1 : (stepV m l (rd w 0)).1 * m ≤ 10 * 62 := Int.mul_le_mul (by omega) (by omega) (by omega) (by omega)
            rw [spec_l03Step.sp h w0.1 w0.2]
            simp only [Option.bind_some]
            rw [w64 (n := _ * m) (by omega) (by omega), w64 (by omega) (by omega)]
            exact spec_LiftedWalk.ev_l n m l w h hw w.length 0 i [(stepV m l (rd w 0)).1 * m + i] (by omega) ci.1 (by omega) (by simp)
          · rw [if_pos hall, if_neg hc]
            simp only [if_neg hc, if_neg (show ¬ ((5 : Int) = 0) by omega)]
            exact Ev.now _
        · rw [if_neg hw, if_neg (show ¬ (WalkOK l w ∧ w.length ≠ 0 ∧ 0 ≤ i ∧ i < m) from fun a => hw a.1)]
          simp only [if_neg (show ¬ ((2 : Int) = 0) by omega)]
          exact Ev.now _
    · simp only [if_neg ci]
      refine Ev.step (fun k => spec_LiftedWalk.j0.eq_2 ..) ?_
      simp only [if_true]
      rw [if_neg (fun a => ci ⟨a.2.2.1, by have := a.2.2.2; omega⟩)]
      exact Ev.now _
  · rw [if_neg h, if_neg h]
    simp only [if_true]
    exact Ev.now _
theorem impl_LiftedWalk.ev (n m : Int) (l : List S60) (w : List Int) (i : Int) : Ev (fun q => impl_LiftedWalk.f q n m l w i) (lwR n m l w i) := by
  unfold impl_LiftedWalk.f lwR
  refine Ev.bind (impl_walkCode.ev n m l w) ?_
  unfold wcode
  by_cases h : BaseOK n m l
  · have hn := And.intro h.1 h.2.1
    have hm := And.intro h.2.2.1 h.2.2.2.1
    rw [if_pos h, if_pos h]
    by_cases hw : WalkOK l w
    · rw [if_pos hw]
      simp only [if_true]
      by_cases cz : (w.length : Int) = 0
      · simp only [if_pos cz]
        refine Ev.step (fun k => impl_LiftedWalk.j0.eq_2 ..) ?_
        simp only [if_true]
        rw [if_neg (fun a => by have := a.2.1; omega)]
        exact Ev.now _
      simp only [if_neg cz]
      by_cases c1 : i < 0
      · simp only [if_pos c1]
        refine Ev.step (fun k => impl_LiftedWalk.j0.eq_2 ..) ?_
        simp only [if_true]
        rw [if_neg (fun a => by have := a.2.2.1; omega)]
        exact Ev.now _
      simp only [if_neg c1]
      refine Ev.step (fun k => impl_LiftedWalk.j0.eq_2 ..) ?_
      simp only [decide_eq_true_eq]
      by_cases c2 : i ≥ m
      · simp only [if_pos c2]
        rw [if_neg (fun a => by have := a.2.2.2; omega)]
        exact Ev.now _
      simp only [if_neg c2]
      rw [if_pos ⟨hw, by omega, by omega, by omega⟩]
      refine Ev.bind (impl_isWalk.ev n m l w h hw) ?_
      by_cases hc : Chain m l w
      · simp only [hc, decide_true, if_true, if_pos (show (0 : Int) < (w.length : Int) by omega)]
        have w0 := hw.at (i := 0) (by omega) (by omega)
        have b0 := stepV_bd h w0.1 w0.2
        have f0 : 0 ≤ (stepV m l (rd w 0)).1 * m := Int.mul_nonneg (by omega) (by omega)
        have f1 : (stepV m l (rd w 0)).1 * m ≤ 10 * 62 := Int.mul_le_mul (by omega) (by omega) (by omega) (by omega)
        rw [impl_step.sp h w0.1 w0.2]
        simp only [Option.bind_some]
        rw [w64 (n := _ * m) (by omega) (by omega), w64 (by omega) (by omega)]
        exact impl_LiftedWalk.ev_l n m l w h hw w.length 0 i [(stepV m l (rd w 0)).1 * m + i] (by omega) (by omega) (by omega) (by simp)
      · simp only [hc, decide_false, Bool.false_eq_true, if_false]
        exact Ev.now _
    · rw [if_neg hw, if_neg (fun a => hw a.1)]
      simp only [if_neg (show ¬ ((2 : Int) = 0) by omega)]
      exact Ev.now _
  · rw [if_neg h, if_neg h]
    simp only [if_neg (show ¬ ((1 : Int) = 0) by omega)]
    exact Ev.now _

end Go.Proofs.Ytdieobmhmkdjmaa.XFnExactLiftedWalk
