/- What the functions that FnExactCoverOfLift reaches compute. -/
import Derived.Test.YtdieobmhmkdjmaaXFnExactCoverOfLiftx0
import Derived.Test.YtdieobmhmkdjmaaXFnExactCoverOfLiftx1
import Derived.Test.YtdieobmhmkdjmaaXFnExactCoverOfLiftx2
import Derived.Test.YtdieobmhmkdjmaaXFnExactCoverOfLiftx3
import Derived.Test.YtdieobmhmkdjmaaXFnExactCoverOfLiftx4
import Derived.Test.YtdieobmhmkdjmaaGr
namespace Go.Proofs.Ytdieobmhmkdjmaa.XFnExactCoverOfLift
open Go.RowKit Go.Proofs.YtdieobmhmkdjmaaW.PrintWords Go.Proofs.YtdieobmhmkdjmaaW.PrintLast Go.Proofs.Ytdieobmhmkdjmaa.B
open Classical
set_option linter.unusedVariables false
set_option linter.unusedSimpArgs false

theorem laws_szArcS.sp {l : List S75} {a : Int} (h : l.length ≤ 9223372036854775807) (ha : a ≤ 1048576) (ha0 : 0 ≤ a) :
    (laws_szArcS.f l a = some (-1) ∧ a < l.length) ∨ (laws_szArcS.f l a = some (a - l.length) ∧ (l.length : Int) ≤ a) := by
  unfold laws_szArcS.f
  rw [w64 (by omega) (by omega)]
  by_cases c : a - (l.length : Int) < 0
  · rw [if_pos c]; exact .inl ⟨rfl, by omega⟩
  · rw [if_neg c]; exact .inr ⟨rfl, by omega⟩

theorem laws_szBase.sp {n m : Int} {l : List S75} {a : Int} (h : l.length ≤ 9223372036854775807) (ha : a ≤ 1048576) (ha0 : 0 ≤ a) :
    (laws_szBase.f n m l a = some (-1) ∧ a < l.length) ∨ (laws_szBase.f n m l a = some (a - l.length) ∧ (l.length : Int) ≤ a) := by
  unfold laws_szBase.f
  rcases laws_szArcS.sp h ha ha0 with ⟨e, c⟩ | ⟨e, c⟩
  · rw [e]; exact .inl ⟨by simp, c⟩
  · rw [e]
    refine .inr ⟨?_, c⟩
    simp only [Option.bind_some]
    rw [if_neg (by omega)]

def toA (x : S75) : S60 := ⟨x.f0, x.f1, x.f2⟩
theorem rd_lArc {l : List S75} {i : Nat} (h : i < l.length) : rd_T75 l (i : Int) = l[i] := by simp [rd_T75, h]
theorem rd_iArc {l : List S60} {i : Nat} (h : i < l.length) : rd_T60 l (i : Int) = l[i] := by simp [rd_T60, h]
theorem laws_toArcS.ev_l (l : List S75) (hl : l.length ≤ 281474976710656) (d : Nat) : ∀ (i : Nat) (acc : List S60), acc.length = l.length → (∀ j, j < i → acc[j]? = (l.map toA)[j]?) → i + d = l.length →
    Ev (fun k => laws_toArcS.l0 k l acc (i : Int)) (l.map toA) := by
  induction d with
  | zero =>
    intro i acc h1 h2 h3
    refine Ev.step (fun k => laws_toArcS.l0.eq_2 ..) ?_
    simp only [if_neg (show ¬ ((i : Int) < (l.length : Int)) by omega)]
    refine ev_some (List.ext_getElem? fun j => ?_)
    by_cases hj : j < i
    · exact h2 j hj
    · rw [List.getElem?_eq_none (by omega), List.getElem?_eq_none (by rw [List.length_map]; omega)]
  | succ d ih =>
    intro i acc h1 h2 h3
    refine Ev.step (fun k => laws_toArcS.l0.eq_2 ..) ?_
    unfold laws_toArc.f
    simp only [if_pos (show (i : Int) < (l.length : Int) by omega), if_pos (show (0 : Int) ≤ (i : Int) by omega), if_pos (show (i : Int) < (acc.length : Int) by omega), Option.bind_some]
    rw [w64 (by omega) (by omega)]
    refine ih (i + 1) _ (by simp [h1]) (fun j hj => ?_) (by omega)
    rw [Int.toNat_natCast]
    by_cases e : i = j
    · subst e
      rw [List.getElem?_set_self (by omega), rd_lArc (by omega), List.getElem?_map, List.getElem?_eq_getElem (by omega)]
      rfl
    · rw [List.getElem?_set_ne e]
      exact h2 j (by omega)
theorem laws_toArcS.ev (l : List S75) (hl : l.length ≤ 11728124029610) : Ev (fun k => laws_toArcS.f k l) (l.map toA) := by
  unfold laws_toArcS.f
  simp only [if_pos (show (0 : Int) ≤ (l.length : Int) by omega), if_pos (show ((l.length : Int)).toNat ≤ 11728124029610 by omega)]
  exact laws_toArcS.ev_l l (by omega) l.length 0 _ (by simp) (fun j hj => by omega) (by omega)

theorem laws_toBase.ev (n m : Int) (l : List S75) (hl : l.length ≤ 11728124029610) : Ev (fun k => laws_toBase.f k n m l) (n, m, l.map toA) := by
  unfold laws_toBase.f
  exact Ev.bind (laws_toArcS.ev l hl) (Ev.now _)

theorem laws_eqArcS.ev_l (l : List S60) (hl : l.length ≤ 281474976710656) (d : Nat) : ∀ (i : Nat), i + d = l.length → Ev (fun k => laws_eqArcS.l0 k l l (i : Int)) true := by
  induction d with
  | zero =>
    intro i h3
    refine Ev.step (fun k => laws_eqArcS.l0.eq_2 ..) ?_
    simp only [if_neg (show ¬ ((i : Int) < (l.length : Int)) by omega)]
    exact Ev.now _
  | succ d ih =>
    intro i h3
    refine Ev.step (fun k => laws_eqArcS.l0.eq_2 ..) ?_
    unfold laws_eqArc.f
    simp only [if_pos (show (i : Int) < (l.length : Int) by omega), if_pos (show (0 : Int) ≤ (i : Int) by omega), if_true, Option.bind_some]
    rw [w64 (by omega) (by omega)]
    exact ih (i + 1) (by omega)
theorem laws_eqArcS.ev (l : List S60) (hl : l.length ≤ 281474976710656) : Ev (fun k => laws_eqArcS.f k l l) true := by
  unfold laws_eqArcS.f
  simp only [if_true]
  exact laws_eqArcS.ev_l l hl l.length 0 (by omega)

theorem laws_eqBase.ev (n m : Int) (l : List S60) (hl : l.length ≤ 281474976710656) : Ev (fun k => laws_eqBase.f k n m l n m l) true := by
  unfold laws_eqBase.f
  simp only [if_true]
  exact Ev.bind (laws_eqArcS.ev l hl) (Ev.now _)

theorem spec_l01In.sp (a b c : Int) : spec_l01In.f a b c = some (decide (b ≤ a ∧ a ≤ c)) := by
  unfold spec_l01In.f
  by_cases h : b ≤ a <;> simp [h]

def ArcOK (n m : Int) (x : S60) : Prop := 0 ≤ x.f0 ∧ x.f0 < n ∧ 0 ≤ x.f1 ∧ x.f1 < n ∧ 0 ≤ x.f2 ∧ x.f2 < m
def BaseOK (n m : Int) (l : List S60) : Prop := 1 ≤ n ∧ n ≤ 10 ∧ 1 ≤ m ∧ m ≤ 62 ∧ n * m ≤ 62 ∧ l.length ≤ 16 ∧ ∀ j : Nat, 0 ≤ j → j < l.length → ArcOK n m (rd_T60 l (j : Int))
theorem base_mul {n m : Int} (h : 1 ≤ n ∧ n ≤ 10) (h' : 1 ≤ m ∧ m ≤ 62) : 0 ≤ n * m ∧ n * m ≤ 620 :=
  ⟨Int.mul_nonneg (by omega) (by omega), Int.mul_le_mul h.2 h'.2 (by omega) (by omega)⟩
theorem spec_l03Is.ev_l (n m : Int) (l : List S60) (h1 : 1 ≤ n ∧ n ≤ 10) (h2 : 1 ≤ m ∧ m ≤ 62) (hm : n * m ≤ 62) (hl : l.length ≤ 16) (d : Nat) : ∀ i : Nat, i + d = l.length → ((∀ j : Nat, i ≤ j → j < l.length → ArcOK n m (rd_T60 l (j : Int))) ↔ BaseOK n m l) →
    Ev (fun q => spec_l03Is.l0 q (i : Int) n m l) (decide (BaseOK n m l)) := by
  induction d with
  | zero =>
    intro i h hj
    refine Ev.step (fun k => spec_l03Is.l0.eq_2 ..) ?_
    simp only [if_neg (show ¬ ((i : Int) < (l.length : Int)) by omega)]
    rw [decide_eq_true (hj.1 (scan_end (by omega)))]
    exact Ev.now _
  | succ d ih =>
    intro i h hj
    refine Ev.step (fun k => spec_l03Is.l0.eq_2 ..) ?_
    rw [w64 (n := n - 1) (by omega) (by omega), w64 (n := m - 1) (by omega) (by omega), w64 (by omega) (by omega)]
    simp only [if_pos (show (i : Int) < (l.length : Int) by omega), if_pos (show (0 : Int) ≤ (i : Int) by omega), spec_l01In.sp, Option.bind_some, decide_eq_true_eq]
    have fl : ¬ ArcOK n m (rd_T60 l (i : Int)) → decide (BaseOK n m l) = false := fun a => decide_eq_false fun b => scan_fail (P := fun j : Nat => ArcOK n m (rd_T60 l (j : Int))) (i := i) a (by omega) (hj.2 b)
    generalize hx : rd_T60 l (i : Int) = x at fl
    by_cases c0 : 0 ≤ x.f0 ∧ x.f0 ≤ n - 1
    · simp only [if_pos c0]
      by_cases c1 : 0 ≤ x.f1 ∧ x.f1 ≤ n - 1
      · simp only [if_pos c1]
        by_cases c2 : 0 ≤ x.f2 ∧ x.f2 ≤ m - 1
        · simp only [if_pos c2]
          refine ih (i + 1) (by omega) ((scan_step (P := fun j : Nat => ArcOK n m (rd_T60 l (j : Int))) (i := i) ?_).symm.trans hj)
          rw [hx]
          exact ⟨by omega, by omega, by omega, by omega, by omega, by omega⟩
        · simp only [if_neg c2]
          rw [fl (fun a => c2 ⟨a.2.2.2.2.1, by have := a.2.2.2.2.2; omega⟩)]
          exact Ev.now _
      · simp only [if_neg c1]
        rw [fl (fun a => c1 ⟨a.2.2.1, by have := a.2.2.2.1; omega⟩)]
        exact Ev.now _
    · simp only [if_neg c0]
      rw [fl (fun a => c0 ⟨a.1, by have := a.2.1; omega⟩)]
      exact Ev.now _
theorem spec_l03Is.ev (n m : Int) (l : List S60) : Ev (fun q => spec_l03Is.f q n m l) (decide (BaseOK n m l)) := by
  unfold spec_l03Is.f
  simp only [spec_l01In.sp, Option.bind_some, decide_eq_true_eq]
  by_cases h1 : 1 ≤ n ∧ n ≤ 10
  · simp only [if_pos h1]
    by_cases h2 : 1 ≤ m ∧ m ≤ 62
    · simp only [if_pos h2]
      have hb := base_mul h1 h2
      rw [w64 (n := n * m) (by omega) (by omega)]
      by_cases h3 : n * m > 62
      · simp only [if_pos h3]
        refine Ev.step (fun k => spec_l03Is.j0.eq_2 ..) ?_
        simp only [if_true]
        rw [decide_eq_false (fun a => by have := a.2.2.2.2.1; omega)]
        exact Ev.now _
      · simp only [if_neg h3]
        refine Ev.step (fun k => spec_l03Is.j0.eq_2 ..) ?_
        simp only [decide_eq_true_eq]
        by_cases h4 : (l.length : Int) > 16
        · simp only [if_pos h4]
          rw [decide_eq_false (fun a => by have := a.2.2.2.2.2.1; omega)]
          exact Ev.now _
        · simp only [if_neg h4]
          exact spec_l03Is.ev_l n m l h1 h2 (by omega) (by omega) l.length 0 (by omega) ⟨fun a => ⟨h1.1, h1.2, h2.1, h2.2, by omega, by omega, a⟩, fun a => a.2.2.2.2.2.2⟩
    · simp only [if_neg h2]
      refine Ev.step (fun k => spec_l03Is.j0.eq_2 ..) ?_
      simp only [if_true]
      rw [decide_eq_false (fun a => h2 ⟨a.2.2.1, a.2.2.2.1⟩)]
      exact Ev.now _
  · simp only [if_neg h1]
    refine Ev.step (fun k => spec_l03Is.j0.eq_2 ..) ?_
    simp only [if_true]
    rw [decide_eq_false (fun a => h1 ⟨a.1, a.2.1⟩)]
    exact Ev.now _

theorem impl_IsBase.sp (n m : Int) (l : List S60) : impl_IsBase.f n m l = some (decide (BaseOK n m l)) := by
  unfold impl_IsBase.f
  by_cases c0 : n < 1
  · rw [if_pos c0, decide_eq_false (fun a => by have := a.1; omega)]
  rw [if_neg c0]
  by_cases c1 : n > 10
  · rw [if_pos c1, decide_eq_false (fun a => by have := a.2.1; omega)]
  rw [if_neg c1]
  by_cases c2 : m < 1
  · rw [if_pos c2, decide_eq_false (fun a => by have := a.2.2.1; omega)]
  rw [if_neg c2]
  by_cases c3 : m > 62
  · rw [if_pos c3, decide_eq_false (fun a => by have := a.2.2.2.1; omega)]
  rw [if_neg c3]
  by_cases c4 : n * m > 62
  · rw [if_pos c4, decide_eq_false (fun a => by have := a.2.2.2.2.1; omega)]
  rw [if_neg c4]
  by_cases c5 : (l.length : Int) > 16
  · rw [if_pos c5, decide_eq_false (fun a => by have := a.2.2.2.2.2.1; omega)]
  rw [if_neg c5]
  have bad : ∀ x : S60, arcBad n m x = false ↔ ArcOK n m x := by
    intro x
    unfold arcBad ArcOK
    simp only [Bool.or_eq_false_iff, decide_eq_false_iff_not]
    omega
  congr 1
  by_cases h : BaseOK n m l
  · rw [decide_eq_true h]
    have : l.any (arcBad n m) = false := by
      rw [List.any_eq_false]
      intro x hx
      obtain ⟨j, hj, rfl⟩ := List.mem_iff_getElem.1 hx
      have := h.2.2.2.2.2.2 j (by omega) hj
      rw [rd_iArc hj] at this
      rw [(bad _).2 this]
      simp
    rw [this]; rfl
  · rw [decide_eq_false h]
    have : l.any (arcBad n m) = true := by
      refine Classical.byContradiction fun a => h ⟨by omega, by omega, by omega, by omega, by omega, by omega, fun j _ hj => ?_⟩
      rw [rd_iArc hj, ← bad]
      have a' : l.any (arcBad n m) = false := by simpa using a
      have := List.any_eq_false.1 a' l[j] (List.getElem_mem hj)
      simpa using this
    rw [this]; rfl

def coverRun (m : Int) : Nat → Int → List Int → List Int
  | 0, _, out => out
  | d + 1, v, out => coverRun m d (v + 1) (out ++ [v / m])
theorem coverRun_length (m : Int) (d : Nat) : ∀ v out, (coverRun m d v out).length = out.length + d := by
  induction d with
  | zero => intro v out; rfl
  | succ d ih => intro v out; simp only [coverRun, ih, List.length_append, List.length_cons, List.length_nil]; omega
noncomputable def coverR (n m : Int) (l : List S60) : List Int × Int := if BaseOK n m l then (coverRun m (n * m).toNat 0 [], 0) else ([], 1)
theorem coverR_length (n m : Int) (l : List S60) : (coverR n m l).1.length ≤ 62 := by
  unfold coverR
  split
  · rename_i h
    have := h.2.2.2.2.1
    simp only [coverRun_length, List.length_nil]; omega
  · simp
theorem spec_CoverOfLift.ev_l (n m : Int) (l : List S60) (h : BaseOK n m l) (d : Nat) : ∀ (v : Int) (out : List Int), 0 ≤ v → v + d = n * m → (out.length : Int) = v →
    Ev (fun q => spec_CoverOfLift.l0 q out v n m l) (coverRun m d v out, 0) := by
  have hb := base_mul ⟨h.1, h.2.1⟩ ⟨h.2.2.1, h.2.2.2.1⟩
  have hm := h.2.2.1
  induction d with
  | zero =>
    intro v out h0 h1 h2
    refine Ev.step (fun k => spec_CoverOfLift.l0.eq_2 ..) ?_
    rw [w64 (n := n * m) (by omega) (by omega)]
    simp only [if_neg (show ¬ (v < n * m) by omega)]
    exact Ev.now _
  | succ d ih =>
    intro v out h0 h1 h2
    refine Ev.step (fun k => spec_CoverOfLift.l0.eq_2 ..) ?_
    have e1 := Int.ediv_nonneg h0 (show 0 ≤ m by omega)
    have e2 := Int.ediv_le_self m h0
    rw [w64 (n := n * m) (by omega) (by omega), tdiv_pos h0, w64 (n := v / m) (by omega) (by omega), w64 (n := v + 1) (by omega) (by omega)]
    simp only [if_pos (show v < n * m by omega), if_neg (show ¬ (m = 0) by omega), if_pos (show out.length < 17592186044416 by omega)]
    exact ih (v + 1) _ (by omega) (by omega) (by simp; omega)
theorem spec_CoverOfLift.ev (n m : Int) (l : List S60) : Ev (fun q => spec_CoverOfLift.f q n m l) (coverR n m l) := by
  unfold spec_CoverOfLift.f coverR
  refine Ev.bind (spec_l03Is.ev n m l) ?_
  by_cases h : BaseOK n m l
  · simp only [h, decide_true, if_true]
    have hb := base_mul ⟨h.1, h.2.1⟩ ⟨h.2.2.1, h.2.2.2.1⟩
    exact spec_CoverOfLift.ev_l n m l h (n * m).toNat 0 [] (by omega) (by omega) rfl
  · simp only [h, decide_false, Bool.false_eq_true, if_false]
    exact Ev.now _
theorem impl_CoverOfLift.ev_l (n m : Int) (l : List S60) (h : BaseOK n m l) (d : Nat) : ∀ (v : Int) (out : List Int), 0 ≤ v → v + d = n * m → (out.length : Int) = v →
    Ev (fun q => impl_CoverOfLift.l0 q out (n * m) v n m l) (coverRun m d v out, 0) := by
  have hb := base_mul ⟨h.1, h.2.1⟩ ⟨h.2.2.1, h.2.2.2.1⟩
  have hm := h.2.2.1
  induction d with
  | zero =>
    intro v out h0 h1 h2
    refine Ev.step (fun k => impl_CoverOfLift.l0.eq_2 ..) ?_
    simp only [if_neg (show ¬ (v < n * m) by omega)]
    exact Ev.now _
  | succ d ih =>
    intro v out h0 h1 h2
    refine Ev.step (fun k => impl_CoverOfLift.l0.eq_2 ..) ?_
    have e1 := Int.ediv_nonneg h0 (show 0 ≤ m by omega)
    have e2 := Int.ediv_le_self m h0
    rw [tdiv_pos h0, w64 (n := v / m) (by omega) (by omega), w64 (n := v + 1) (by omega) (by omega)]
    simp only [if_pos (show v < n * m by omega), if_neg (show ¬ (m = 0) by omega), if_pos (show out.length < 17592186044416 by omega)]
    exact ih (v + 1) _ (by omega) (by omega) (by simp; omega)
theorem impl_CoverOfLift.ev (n m : Int) (l : List S60) : Ev (fun q => impl_CoverOfLift.f q n m l) (coverR n m l) := by
  unfold impl_CoverOfLift.f coverR
  simp only [impl_IsBase.sp, Option.bind_some]
  by_cases h : BaseOK n m l
  · simp only [h, decide_true, if_true]
    have hb := base_mul ⟨h.1, h.2.1⟩ ⟨h.2.2.1, h.2.2.2.1⟩
    rw [w64 (n := n * m) (by omega) (by omega)]
    exact impl_CoverOfLift.ev_l n m l h (n * m).toNat 0 [] (by omega) (by omega) rfl
  · simp only [h, decide_false, Bool.false_eq_true, if_false]
    exact Ev.now _

theorem laws_eqInt64S.ev_l (l : List Int) (hl : l.length ≤ 281474976710656) (d : Nat) : ∀ (i : Nat), i + d = l.length → Ev (fun k => laws_eqInt64S.l0 k l l (i : Int)) true := by
  induction d with
  | zero =>
    intro i h3
    refine Ev.step (fun k => laws_eqInt64S.l0.eq_2 ..) ?_
    simp only [if_neg (show ¬ ((i : Int) < (l.length : Int)) by omega)]
    exact Ev.now _
  | succ d ih =>
    intro i h3
    refine Ev.step (fun k => laws_eqInt64S.l0.eq_2 ..) ?_
    simp only [if_pos (show (i : Int) < (l.length : Int) by omega), if_pos (show (0 : Int) ≤ (i : Int) by omega), if_true]
    rw [w64 (by omega) (by omega)]
    exact ih (i + 1) (by omega)
theorem laws_eqInt64S.ev (l : List Int) (hl : l.length ≤ 281474976710656) : Ev (fun k => laws_eqInt64S.f k l l) true := by
  unfold laws_eqInt64S.f
  simp only [if_true]
  exact laws_eqInt64S.ev_l l hl l.length 0 (by omega)

theorem laws_markArcS.ev_l (n : Nat) (hn : n ≤ 4611686018427) (d : Nat) : ∀ (i : Nat) (a : Int) (l : List S60), l.length = n → i + d = n → 0 ≤ a → a ≤ 4611686018427387904 + 3 * i →
    ∃ m : List S60, Ev (fun k => laws_markArcS.l0 k l a (i : Int)) (a + 3 * d, m) := by
  induction d with
  | zero =>
    intro i a l h1 h3 ha ha1
    refine ⟨l, ?_⟩
    refine Ev.step (fun k => laws_markArcS.l0.eq_2 ..) ?_
    simp only [if_neg (show ¬ ((i : Int) < (l.length : Int)) by omega)]
    exact ev_some (by simp)
  | succ d ih =>
    intro i a l h1 h3 ha ha1
    obtain ⟨y1, hy1⟩ : ∃ y, y = l.set i (⟨a, (rd_T60 l (i : Int)).f1, (rd_T60 l (i : Int)).f2⟩ : S60) := ⟨_, rfl⟩
    obtain ⟨y2, hy2⟩ : ∃ y, y = y1.set i (⟨(rd_T60 y1 (i : Int)).f0, a + 1, (rd_T60 y1 (i : Int)).f2⟩ : S60) := ⟨_, rfl⟩
    obtain ⟨m, hm⟩ := ih (i + 1) (a + 3) (y2.set i (⟨(rd_T60 y2 (i : Int)).f0, (rd_T60 y2 (i : Int)).f1, a + 1 + 1⟩ : S60)) (by simp only [hy2, hy1, List.length_set]; exact h1) (by omega) (by omega) (by omega)
    refine ⟨m, ?_⟩
    refine Ev.step (fun k => laws_markArcS.l0.eq_2 ..) ?_
    simp only [if_pos (show (i : Int) < (l.length : Int) by omega), if_pos (show (0 : Int) ≤ (i : Int) by omega), Option.bind_some]
    rw [w64 (n := (i : Int) + 1) (by omega) (by omega), w64 (n := a + 1) (by omega) (by omega), w64 (n := a + 1 + 1) (by omega) (by omega), w64 (n := a + 1 + 1 + 1) (by omega) (by omega), show a + 1 + 1 + 1 = a + 3 by omega]
    simp only [Int.toNat_natCast]
    rw [← hy1, ← hy2]
    exact ev_cast hm (by congr 1; omega)
theorem laws_markArcS.ev (l : List S60) (a : Int) (ha : 0 ≤ a) (ha1 : a ≤ 4611686018427) (hl : l.length ≤ 4611686018427) :
    ∃ m : List S60, Ev (fun k => laws_markArcS.f k l a) (a + 3 * l.length, m) := by
  unfold laws_markArcS.f
  exact laws_markArcS.ev_l l.length hl l.length 0 a l rfl (by omega) ha (by omega)

theorem laws_markBase.ev (n m : Int) (l : List S60) (a : Int) (ha : 0 ≤ a) (ha1 : a ≤ 4611686018427) (hl : l.length ≤ 4611686018427) :
    ∃ q : List S60, Ev (fun k => laws_markBase.f k n m l a) (a + 3 * l.length, q) := by
  obtain ⟨q, hq⟩ := laws_markArcS.ev l a ha ha1 hl
  refine ⟨q, ?_⟩
  unfold laws_markBase.f
  exact Ev.bind hq (Ev.now _)

/-- The marks a + i, from the place i on. -/
theorem laws_markInt64S.ev_l (n : Nat) (a : Int) (ha : 0 ≤ a) (han : a + n ≤ 4611686018427387904) (d : Nat) : ∀ (i : Nat) (l : List Int), l.length = n → i + d = n →
    ∃ m : List Int, Ev (fun k => laws_markInt64S.l0 k l (a + i) (i : Int)) (a + n, m) ∧ m.length = n ∧ (∀ j, j < i → m[j]? = l[j]?) ∧ ∀ j : Nat, i ≤ j → j < n → rd m j = a + j := by
  induction d with
  | zero =>
    intro i l h1 h3
    refine ⟨l, ?_, h1, fun _ _ => rfl, fun j h h' => by omega⟩
    refine Ev.step (fun k => laws_markInt64S.l0.eq_2 ..) ?_
    simp only [if_neg (show ¬ ((i : Int) < (l.length : Int)) by omega)]
    have : i = n := by omega
    rw [this]
    exact Ev.now _
  | succ d ih =>
    intro i l h1 h3
    obtain ⟨m, hm, h4, h5, h6⟩ := ih (i + 1) (l.set i (a + i)) (by simp [h1]) (by omega)
    refine ⟨m, ?_, h4, fun j hj => ?_, fun j hj hj' => ?_⟩
    · refine Ev.step (fun k => laws_markInt64S.l0.eq_2 ..) ?_
      simp only [if_pos (show (i : Int) < (l.length : Int) by omega), if_pos (show (0 : Int) ≤ (i : Int) by omega)]
      rw [w64 (by omega) (by omega), w64 (by omega) (by omega), Int.add_assoc, Int.toNat_natCast]
      exact hm
    · rw [h5 j (by omega), List.getElem?_set_ne (by omega)]
    · by_cases e : j = i
      · subst e
        have := h5 j (by omega)
        rw [List.getElem?_set_self (by omega)] at this
        rw [rd_nat]
        simp [this]
      · exact h6 j (by omega) hj'
theorem laws_markInt64S.ev (l : List Int) (a : Int) (ha : 0 ≤ a) (han : a + l.length ≤ 4611686018427387904) :
    ∃ m : List Int, Ev (fun k => laws_markInt64S.f k l a) (a + l.length, m) ∧ m.length = l.length ∧ ∀ j : Nat, j < l.length → rd m j = a + j := by
  obtain ⟨m, hm, h4, _, h6⟩ := laws_markInt64S.ev_l l.length a ha han l.length 0 l rfl (by omega)
  refine ⟨m, ?_, h4, fun j hj => h6 j (by omega) hj⟩
  unfold laws_markInt64S.f
  have := hm
  simp only [Int.natCast_zero, Int.add_zero] at this
  exact this

theorem laws_heldInt64S.ev_l (m : List Int) (a : Int) (ha : 0 ≤ a) (han : a + m.length ≤ 4611686018427387904) (hm : ∀ j : Nat, j < m.length → rd m j = a + j) (d : Nat) :
    ∀ (i : Nat), i + d = m.length → Ev (fun k => laws_heldInt64S.l0 k m (a + i) (i : Int)) (a + m.length) := by
  induction d with
  | zero =>
    intro i h3
    refine Ev.step (fun k => laws_heldInt64S.l0.eq_2 ..) ?_
    simp only [if_neg (show ¬ ((i : Int) < (m.length : Int)) by omega)]
    have : i = m.length := by omega
    rw [this]
    exact Ev.now _
  | succ d ih =>
    intro i h3
    refine Ev.step (fun k => laws_heldInt64S.l0.eq_2 ..) ?_
    simp only [if_pos (show (i : Int) < (m.length : Int) by omega), if_pos (show (0 : Int) ≤ (i : Int) by omega), if_pos (hm i (by omega))]
    rw [w64 (by omega) (by omega), w64 (by omega) (by omega), Int.add_assoc]
    exact ih (i + 1) (by omega)
theorem laws_heldInt64S.ev (m : List Int) (a : Int) (ha : 0 ≤ a) (han : a + m.length ≤ 4611686018427387904) (hm : ∀ j : Nat, j < m.length → rd m j = a + j) :
    Ev (fun k => laws_heldInt64S.f k m a) (a + m.length) := by
  unfold laws_heldInt64S.f
  have := laws_heldInt64S.ev_l m a ha han hm m.length 0 (by omega)
  simp only [Int.natCast_zero, Int.add_zero] at this
  exact this

end Go.Proofs.Ytdieobmhmkdjmaa.XFnExactCoverOfLift
