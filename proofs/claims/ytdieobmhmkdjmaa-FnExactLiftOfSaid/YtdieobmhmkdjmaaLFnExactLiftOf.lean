/- What the functions that FnExactLiftOf reaches compute. -/
import Derived.Test.YtdieobmhmkdjmaaXFnExactLiftOfx0
import Derived.Test.YtdieobmhmkdjmaaXFnExactLiftOfx1
import Derived.Test.YtdieobmhmkdjmaaXFnExactLiftOfx2
import Derived.Test.YtdieobmhmkdjmaaXFnExactLiftOfx3
import Derived.Test.YtdieobmhmkdjmaaXFnExactLiftOfx4
import Derived.Test.YtdieobmhmkdjmaaXFnExactLiftOfx5
import Derived.Test.YtdieobmhmkdjmaaXFnExactLiftOfx6
import Derived.Test.YtdieobmhmkdjmaaXFnExactLiftOfx7
import Derived.Test.YtdieobmhmkdjmaaGr
namespace Go.Proofs.Ytdieobmhmkdjmaa.XFnExactLiftOf
open Go.RowKit Go.Proofs.YtdieobmhmkdjmaaW.PrintWords Go.Proofs.YtdieobmhmkdjmaaW.PrintLast Go.Proofs.Ytdieobmhmkdjmaa.B
open Classical
set_option linter.unusedVariables false
set_option linter.unusedSimpArgs false

theorem laws_szArcS.sp {l : List S75} {a : Int} (h : l.length ≤ 9223372036854775807) (ha : a ≤ 1048576) (ha0 : 0 ≤ a) :
    (laws_szArcS.f l a = some (-1) ∧ a < l.length) ∨ (laws_szArcS.f l a = some (a - l.length) ∧ (l.length : Int) ≤ a) := by
  unfold laws_szArcS.f
  rw [w64 (by omega) (by omega)]
  by_cases c : a - (l.length : Int) < 0
  · rw [if_pos c]; exact .inl ⟨rfl, by omega⟩
  · rw [if_neg c]; exact .inr ⟨rfl, by omega⟩

theorem laws_szBase.sp {n m : Int} {l : List S75} {a : Int} (h : l.length ≤ 9223372036854775807) (ha : a ≤ 1048576) (ha0 : 0 ≤ a) :
    (laws_szBase.f n m l a = some (-1) ∧ a < l.length) ∨ (laws_szBase.f n m l a = some (a - l.length) ∧ (l.length : Int) ≤ a) := by
  unfold laws_szBase.f
  rcases laws_szArcS.sp h ha ha0 with ⟨e, c⟩ | ⟨e, c⟩
  · rw [e]; exact .inl ⟨by simp, c⟩
  · rw [e]
    refine .inr ⟨?_, c⟩
    simp only [Option.bind_some]
    rw [if_neg (by omega)]

def toA (x : S75) : S60 := ⟨x.f0, x.f1, x.f2⟩
theorem rd_lArc {l : List S75} {i : Nat} (h : i < l.length) : rd_T75 l (i : Int) = l[i] := by simp [rd_T75, h]
theorem rd_iArc {l : List S60} {i : Nat} (h : i < l.length) : rd_T60 l (i : Int) = l[i] := by simp [rd_T60, h]
theorem laws_toArcS.ev_l (l : List S75) (hl : l.length ≤ 281474976710656) (d : Nat) : ∀ (i : Nat) (acc : List S60), acc.length = l.length → (∀ j, j < i → acc[j]? = (l.map toA)[j]?) → i + d = l.length →
    Ev (fun k => laws_toArcS.l0 k l acc (i : Int)) (l.map toA) := by
  induction d with
  | zero =>
    intro i acc h1 h2 h3
    refine Ev.step (fun k => laws_toArcS.l0.eq_2 ..) ?_
    simp only [if_neg (show ¬ ((i : Int) < (l.length : Int)) by omega)]
    refine ev_some (List.ext_getElem? fun j => ?_)
    by_cases hj : j < i
    · exact h2 j hj
    · rw [List.getElem?_eq_none (by omega), List.getElem?_eq_none (by rw [List.length_map]; omega)]
  | succ d ih =>
    intro i acc h1 h2 h3
    refine Ev.step (fun k => laws_toArcS.l0.eq_2 ..) ?_
    unfold laws_toArc.f
    simp only [if_pos (show (i : Int) < (l.length : Int) by omega), if_pos (show (0 : Int) ≤ (i : Int) by omega), if_pos (show (i : Int) < (acc.length : Int) by omega), Option.bind_some]
    rw [w64 (by omega) (by omega)]
    refine ih (i + 1) _ (by simp [h1]) (fun j hj => ?_) (by omega)
    rw [Int.toNat_natCast]
    by_cases e : i = j
    · subst e
      rw [List.getElem?_set_self (by omega), rd_lArc (by omega), List.getElem?_map, List.getElem?_eq_getElem (by omega)]
      rfl
    · rw [List.getElem?_set_ne e]
      exact h2 j (by omega)
theorem laws_toArcS.ev (l : List S75) (hl : l.length ≤ 11728124029610) : Ev (fun k => laws_toArcS.f k l) (l.map toA) := by
  unfold laws_toArcS.f
  simp only [if_pos (show (0 : Int) ≤ (l.length : Int) by omega), if_pos (show ((l.length : Int)).toNat ≤ 11728124029610 by omega)]
  exact laws_toArcS.ev_l l (by omega) l.length 0 _ (by simp) (fun j hj => by omega) (by omega)

theorem laws_toBase.ev (n m : Int) (l : List S75) (hl : l.length ≤ 11728124029610) : Ev (fun k => laws_toBase.f k n m l) (n, m, l.map toA) := by
  unfold laws_toBase.f
  exact Ev.bind (laws_toArcS.ev l hl) (Ev.now _)

theorem laws_eqArcS.ev_l (l : List S60) (hl : l.length ≤ 281474976710656) (d : Nat) : ∀ (i : Nat), i + d = l.length → Ev (fun k => laws_eqArcS.l0 k l l (i : Int)) true := by
  induction d with
  | zero =>
    intro i h3
    refine Ev.step (fun k => laws_eqArcS.l0.eq_2 ..) ?_
    simp only [if_neg (show ¬ ((i : Int) < (l.length : Int)) by omega)]
    exact Ev.now _
  | succ d ih =>
    intro i h3
    refine Ev.step (fun k => laws_eqArcS.l0.eq_2 ..) ?_
    unfold laws_eqArc.f
    simp only [if_pos (show (i : Int) < (l.length : Int) by omega), if_pos (show (0 : Int) ≤ (i : Int) by omega), if_true, Option.bind_some]
    rw [w64 (by omega) (by omega)]
    exact ih (i + 1) (by omega)
theorem laws_eqArcS.ev (l : List S60) (hl : l.length ≤ 281474976710656) : Ev (fun k => laws_eqArcS.f k l l) true := by
  unfold laws_eqArcS.f
  simp only [if_true]
  exact laws_eqArcS.ev_l l hl l.length 0 (by omega)

theorem laws_eqBase.ev (n m : Int) (l : List S60) (hl : l.length ≤ 281474976710656) : Ev (fun k => laws_eqBase.f k n m l n m l) true := by
  unfold laws_eqBase.f
  simp only [if_true]
  exact Ev.bind (laws_eqArcS.ev l hl) (Ev.now _)

theorem laws_markArcS.ev_l (n : Nat) (hn : n ≤ 4611686018427) (d : Nat) : ∀ (i : Nat) (a : Int) (l : List S60), l.length = n → i + d = n → 0 ≤ a → a ≤ 4611686018427387904 + 3 * i →
    ∃ m : List S60, Ev (fun k => laws_markArcS.l0 k l a (i : Int)) (a + 3 * d, m) := by
  induction d with
  | zero =>
    intro i a l h1 h3 ha ha1
    refine ⟨l, ?_⟩
    refine Ev.step (fun k => laws_markArcS.l0.eq_2 ..) ?_
    simp only [if_neg (show ¬ ((i : Int) < (l.length : Int)) by omega)]
    exact ev_some (by simp)
  | succ d ih =>
    intro i a l h1 h3 ha ha1
    obtain ⟨y1, hy1⟩ : ∃ y, y = l.set i (⟨a, (rd_T60 l (i : Int)).f1, (rd_T60 l (i : Int)).f2⟩ : S60) := ⟨_, rfl⟩
    obtain ⟨y2, hy2⟩ : ∃ y, y = y1.set i (⟨(rd_T60 y1 (i : Int)).f0, a + 1, (rd_T60 y1 (i : Int)).f2⟩ : S60) := ⟨_, rfl⟩
    obtain ⟨m, hm⟩ := ih (i + 1) (a + 3) (y2.set i (⟨(rd_T60 y2 (i : Int)).f0, (rd_T60 y2 (i : Int)).f1, a + 1 + 1⟩ : S60)) (by simp only [hy2, hy1, List.length_set]; exact h1) (by omega) (by omega) (by omega)
    refine ⟨m, ?_⟩
    refine Ev.step (fun k => laws_markArcS.l0.eq_2 ..) ?_
    simp only [if_pos (show (i : Int) < (l.length : Int) by omega), if_pos (show (0 : Int) ≤ (i : Int) by omega), Option.bind_some]
    rw [w64 (n := (i : Int) + 1) (by omega) (by omega), w64 (n := a + 1) (by omega) (by omega), w64 (n := a + 1 + 1) (by omega) (by omega), w64 (n := a + 1 + 1 + 1) (by omega) (by omega), show a + 1 + 1 + 1 = a + 3 by omega]
    simp only [Int.toNat_natCast]
    rw [← hy1, ← hy2]
    exact ev_cast hm (by congr 1; omega)
theorem laws_markArcS.ev (l : List S60) (a : Int) (ha : 0 ≤ a) (ha1 : a ≤ 4611686018427) (hl : l.length ≤ 4611686018427) :
    ∃ m : List S60, Ev (fun k => laws_markArcS.f k l a) (a + 3 * l.length, m) := by
  unfold laws_markArcS.f
  exact laws_markArcS.ev_l l.length hl l.length 0 a l rfl (by omega) ha (by omega)

theorem laws_markBase.ev (n m : Int) (l : List S60) (a : Int) (ha : 0 ≤ a) (ha1 : a ≤ 4611686018427) (hl : l.length ≤ 4611686018427) :
    ∃ q : List S60, Ev (fun k => laws_markBase.f k n m l a) (a + 3 * l.length, q) := by
  obtain ⟨q, hq⟩ := laws_markArcS.ev l a ha ha1 hl
  refine ⟨q, ?_⟩
  unfold laws_markBase.f
  exact Ev.bind hq (Ev.now _)

theorem spec_l01In.sp (a b c : Int) : spec_l01In.f a b c = some (decide (b ≤ a ∧ a ≤ c)) := by
  unfold spec_l01In.f
  by_cases h : b ≤ a <;> simp [h]

def ArcOK (n m : Int) (x : S60) : Prop := 0 ≤ x.f0 ∧ x.f0 < n ∧ 0 ≤ x.f1 ∧ x.f1 < n ∧ 0 ≤ x.f2 ∧ x.f2 < m
def BaseOK (n m : Int) (l : List S60) : Prop := 1 ≤ n ∧ n ≤ 10 ∧ 1 ≤ m ∧ m ≤ 62 ∧ n * m ≤ 62 ∧ l.length ≤ 16 ∧ ∀ j : Nat, 0 ≤ j → j < l.length → ArcOK n m (rd_T60 l (j : Int))
theorem base_mul {n m : Int} (h : 1 ≤ n ∧ n ≤ 10) (h' : 1 ≤ m ∧ m ≤ 62) : 0 ≤ n * m ∧ n * m ≤ 620 :=
  ⟨Int.mul_nonneg (by omega) (by omega), Int.mul_le_mul h.2 h'.2 (by omega) (by omega)⟩
theorem spec_l03Is.ev_l (n m : Int) (l : List S60) (h1 : 1 ≤ n ∧ n ≤ 10) (h2 : 1 ≤ m ∧ m ≤ 62) (hm : n * m ≤ 62) (hl : l.length ≤ 16) (d : Nat) : ∀ i : Nat, i + d = l.length → ((∀ j : Nat, i ≤ j → j < l.length → ArcOK n m (rd_T60 l (j : Int))) ↔ BaseOK n m l) →
    Ev (fun q => spec_l03Is.l0 q (i : Int) n m l) (decide (BaseOK n m l)) := by
  induction d with
  | zero =>
    intro i h hj
    refine Ev.step (fun k => spec_l03Is.l0.eq_2 ..) ?_
    simp only [if_neg (show ¬ ((i : Int) < (l.length : Int)) by omega)]
    rw [decide_eq_true (hj.1 (scan_end (by omega)))]
    exact Ev.now _
  | succ d ih =>
    intro i h hj
    refine Ev.step (fun k => spec_l03Is.l0.eq_2 ..) ?_
    rw [w64 (n := n - 1) (by omega) (by omega), w64 (n := m - 1) (by omega) (by omega), w64 (by omega) (by omega)]
    simp only [if_pos (show (i : Int) < (l.length : Int) by omega), if_pos (show (0 : Int) ≤ (i : Int) by omega), spec_l01In.sp, Option.bind_some, decide_eq_true_eq]
    have fl : ¬ ArcOK n m (rd_T60 l (i : Int)) → decide (BaseOK n m l) = false := fun a => decide_eq_false fun b => scan_fail (P := fun j : Nat => ArcOK n m (rd_T60 l (j : Int))) (i := i) a (by omega) (hj.2 b)
    generalize hx : rd_T60 l (i : Int) = x at fl
    by_cases c0 : 0 ≤ x.f0 ∧ x.f0 ≤ n - 1
    · simp only [if_pos c0]
      by_cases c1 : 0 ≤ x.f1 ∧ x.f1 ≤ n - 1
      · simp only [if_pos c1]
        by_cases c2 : 0 ≤ x.f2 ∧ x.f2 ≤ m - 1
        · simp only [if_pos c2]
          refine ih (i + 1) (by omega) ((scan_step (P := fun j : Nat => ArcOK n m (rd_T60 l (j : Int))) (i := i) ?_).symm.trans hj)
          rw [hx]
          exact ⟨by omega, by omega, by omega, by omega, by omega, by omega⟩
        · simp only [if_neg c2]
          rw [fl (fun a => c2 ⟨a.2.2.2.2.1, by have := a.2.2.2.2.2; omega⟩)]
          exact Ev.now _
      · simp only [if_neg c1]
        rw [fl (fun a => c1 ⟨a.2.2.1, by have := a.2.2.2.1; omega⟩)]
        exact Ev.now _
    · simp only [if_neg c0]
      rw [fl (fun a => c0 ⟨a.1, by have := a.2.1; omega⟩)]
      exact Ev.now _
theorem spec_l03Is.ev (n m : Int) (l : List S60) : Ev (fun q => spec_l03Is.f q n m l) (decide (BaseOK n m l)) := by
  unfold spec_l03Is.f
  simp only [spec_l01In.sp, Option.bind_some, decide_eq_true_eq]
  by_cases h1 : 1 ≤ n ∧ n ≤ 10
  · simp only [if_pos h1]
    by_cases h2 : 1 ≤ m ∧ m ≤ 62
    · simp only [if_pos h2]
      have hb := base_mul h1 h2
      rw [w64 (n := n * m) (by omega) (by omega)]
      by_cases h3 : n * m > 62
      · simp only [if_pos h3]
        refine Ev.step (fun k => spec_l03Is.j0.eq_2 ..) ?_
        simp only [if_true]
        rw [decide_eq_false (fun a => by have := a.2.2.2.2.1; omega)]
        exact Ev.now _
      · simp only [if_neg h3]
        refine Ev.step (fun k => spec_l03Is.j0.eq_2 ..) ?_
        simp only [decide_eq_true_eq]
        by_cases h4 : (l.length : Int) > 16
        · simp only [if_pos h4]
          rw [decide_eq_false (fun a => by have := a.2.2.2.2.2.1; omega)]
          exact Ev.now _
        · simp only [if_neg h4]
          exact spec_l03Is.ev_l n m l h1 h2 (by omega) (by omega) l.length 0 (by omega) ⟨fun a => ⟨h1.1, h1.2, h2.1, h2.2, by omega, by omega, a⟩, fun a => a.2.2.2.2.2.2⟩
    · simp only [if_neg h2]
      refine Ev.step (fun k => spec_l03Is.j0.eq_2 ..) ?_
      simp only [if_true]
      rw [decide_eq_false (fun a => h2 ⟨a.2.2.1, a.2.2.2.1⟩)]
      exact Ev.now _
  · simp only [if_neg h1]
    refine Ev.step (fun k => spec_l03Is.j0.eq_2 ..) ?_
    simp only [if_true]
    rw [decide_eq_false (fun a => h1 ⟨a.1, a.2.1⟩)]
    exact Ev.now _

theorem spec_l01Empty.sp (n : Int) (h0 : 0 ≤ n) (h1 : n ≤ 35184372088832) : spec_l01Empty.f n = some (n, List.replicate n.toNat 0) := by
  unfold spec_l01Empty.f
  rw [if_pos h0, if_pos (by omega)]

theorem spec_l01Has.sp (n : Int) (rows : List Int) (a b : Int) (ha : 0 ≤ a) (ha1 : a < rows.length) (hb : 0 ≤ b) (hb1 : b ≤ 62) : spec_l01Has.f n rows a b = some (dig (rd rows a) b.toNat) := by
  unfold spec_l01Has.f
  rw [u64 hb (by omega), if_pos ha, if_pos ha1, if_pos hb, bit_dig hb (by omega)]

theorem spec_l01Put.sp (n : Int) (rows : List Int) (a b : Int) (ha : 0 ≤ a) (ha1 : a < rows.length) (hb : 0 ≤ b) (hb1 : b < rows.length) (hl : rows.length ≤ 62) :
    spec_l01Put.f n rows a b = some (putE rows a b) := by
  unfold spec_l01Put.f
  rw [u64 hb (by omega), u64 ha (by omega), if_pos ha, if_pos ha1, if_pos hb, shl_one hb (by omega), shl_one ha (by omega)]
  simp only [Option.bind_some]
  rw [if_pos hb, if_pos hb1, if_pos ha]
  rfl

theorem impl_IsBase.sp (n m : Int) (l : List S60) : impl_IsBase.f n m l = some (decide (BaseOK n m l)) := by
  unfold impl_IsBase.f
  by_cases c0 : n < 1
  · rw [if_pos c0, decide_eq_false (fun a => by have := a.1; omega)]
  rw [if_neg c0]
  by_cases c1 : n > 10
  · rw [if_pos c1, decide_eq_false (fun a => by have := a.2.1; omega)]
  rw [if_neg c1]
  by_cases c2 : m < 1
  · rw [if_pos c2, decide_eq_false (fun a => by have := a.2.2.1; omega)]
  rw [if_neg c2]
  by_cases c3 : m > 62
  · rw [if_pos c3, decide_eq_false (fun a => by have := a.2.2.2.1; omega)]
  rw [if_neg c3]
  by_cases c4 : n * m > 62
  · rw [if_pos c4, decide_eq_false (fun a => by have := a.2.2.2.2.1; omega)]
  rw [if_neg c4]
  by_cases c5 : (l.length : Int) > 16
  · rw [if_pos c5, decide_eq_false (fun a => by have := a.2.2.2.2.2.1; omega)]
  rw [if_neg c5]
  have bad : ∀ x : S60, arcBad n m x = false ↔ ArcOK n m x := by
    intro x
    unfold arcBad ArcOK
    simp only [Bool.or_eq_false_iff, decide_eq_false_iff_not]
    omega
  congr 1
  by_cases h : BaseOK n m l
  · rw [decide_eq_true h]
    have : l.any (arcBad n m) = false := by
      rw [List.any_eq_false]
      intro x hx
      obtain ⟨j, hj, rfl⟩ := List.mem_iff_getElem.1 hx
      have := h.2.2.2.2.2.2 j (by omega) hj
      rw [rd_iArc hj] at this
      rw [(bad _).2 this]
      simp
    rw [this]; rfl
  · rw [decide_eq_false h]
    have : l.any (arcBad n m) = true := by
      refine Classical.byContradiction fun a => h ⟨by omega, by omega, by omega, by omega, by omega, by omega, fun j _ hj => ?_⟩
      rw [rd_iArc hj, ← bad]
      have a' : l.any (arcBad n m) = false := by simpa using a
      have := List.any_eq_false.1 a' l[j] (List.getElem_mem hj)
      simpa using this
    rw [this]; rfl

theorem impl_empty.sp (n : Int) (h0 : 0 ≤ n) (h1 : n ≤ 35184372088832) : impl_empty.f n = some (n, List.replicate n.toNat 0) := by
  unfold impl_empty.f
  rw [if_pos h0, if_pos (by omega)]

theorem impl_Graph_put.sp (n : Int) (rows : List Int) (a b : Int) (hab : a ≠ b) (ha : 0 ≤ a) (ha1 : a < rows.length) (hb : 0 ≤ b) (hb1 : b < rows.length) (hl : rows.length ≤ 62) :
    impl_Graph_put.f n rows a b = some (putE rows a b) := by
  unfold impl_Graph_put.f
  rw [if_neg hab, if_pos ha, if_pos ha1, if_pos hb, shl_one hb (by omega), shl_one ha (by omega)]
  simp only [Option.bind_some]
  rw [if_pos hb1]
  rfl
theorem impl_Graph_put.same (n : Int) (rows : List Int) (a : Int) : impl_Graph_put.f n rows a a = some rows := by
  unfold impl_Graph_put.f
  rw [if_pos rfl]

/-- The pairs that an arc's digits i.. join. -/
def arcPairs (m : Int) (x : S60) (i : Int) (d : Nat) : List (Int × Int) := (irange i d).map fun i => (x.f0 * m + i, x.f1 * m + (i + x.f2) % m)
/-- An edge put in, if its ends are two. -/
def putN (rows : List Int) (p : Int × Int) : List Int := if p.1 = p.2 then rows else putE rows p.1 p.2
theorem putN_length (rows : List Int) (p : Int × Int) : (putN rows p).length = rows.length := by unfold putN; split; rfl; exact putE_length _ _ _
def putNs (rows : List Int) (ps : List (Int × Int)) : List Int := ps.foldl putN rows
theorem putNs_length (ps : List (Int × Int)) : ∀ rows : List Int, (putNs rows ps).length = rows.length := by
  induction ps with
  | nil => intro rows; rfl
  | cons p ps ih => intro rows; exact (ih _).trans (putN_length _ _)
theorem putNs_append (rows : List Int) (ps qs : List (Int × Int)) : putNs rows (ps ++ qs) = putNs (putNs rows ps) qs := List.foldl_append
def liftPairs (m : Int) (l : List S60) : List (Int × Int) := l.flatMap fun x => arcPairs m x 0 m.toNat
/-- Where a place of the lift lies. -/
theorem lift_in {n m a i : Int} (hn : 1 ≤ n ∧ n ≤ 10) (hm : 1 ≤ m ∧ m ≤ 62) (hnm : n * m ≤ 62) (ha : 0 ≤ a) (ha1 : a < n) (hi : 0 ≤ i) (hi1 : i < m) : 0 ≤ a * m ∧ a * m ≤ 620 ∧ 0 ≤ a * m + i ∧ a * m + i < n * m := by
  have h0 : 0 ≤ a * m := Int.mul_nonneg ha (by omega)
  have h1 : (a + 1) * m ≤ n * m := Int.mul_le_mul_of_nonneg_right (by omega) (by omega)
  have h2 : (a + 1) * m = a * m + m := by rw [Int.add_mul, Int.one_mul]
  omega
theorem impl_Graph_put.n (n : Int) (rows : List Int) (a b : Int) (ha : 0 ≤ a) (ha1 : a < rows.length) (hb : 0 ≤ b) (hb1 : b < rows.length) (hl : rows.length ≤ 62) :
    impl_Graph_put.f n rows a b = some (putN rows (a, b)) := by
  unfold putN
  by_cases h : a = b
  · simp only [if_pos h]; subst h; exact impl_Graph_put.same n rows a
  · simp only [if_neg h]; exact impl_Graph_put.sp n rows a b h ha ha1 hb hb1 hl
theorem impl_lift.ev_1 (n m : Int) (l : List S60) (h : BaseOK n m l) (j : Nat) (hj : j < l.length) (x : S60) (hx : ArcOK n m x) (F : List Int → Int × List Int)
    (hF : ∀ rows : List Int, (rows.length : Int) = n * m → Ev (fun q => impl_lift.l0 q m l (l.length : Int) ((j + 1 : Nat) : Int) (n * m) rows) (F rows)) (d : Nat) : ∀ (i : Int) (rows : List Int), (rows.length : Int) = n * m → 0 ≤ i → i + d = m →
    Ev (fun q => impl_lift.l1 q m l (l.length : Int) (j : Int) m i (n * m) rows x.f0 x.f1 x.f2) (F (putNs rows (arcPairs m x i d))) := by
  have hn := And.intro h.1 h.2.1
  have hm := And.intro h.2.2.1 h.2.2.2.1
  have hnm := h.2.2.2.2.1
  have hl := h.2.2.2.2.2.1
  obtain ⟨x0, x1, x2, x3, x4, x5⟩ := hx
  induction d with
  | zero =>
    intro i rows h1 h2 h3
    refine Ev.step (fun k => impl_lift.l1.eq_2 ..) ?_
    rw [w64 (n := (j : Int) + 1) (by omega) (by omega)]
    simp only [if_neg (show ¬ (i < m) by omega)]
    exact hF rows h1
  | succ d ih =>
    intro i rows h1 h2 h3
    refine Ev.step (fun k => impl_lift.l1.eq_2 ..) ?_
    have e1 := Int.emod_nonneg (i + x.f2) (show m ≠ 0 by omega)
    have e2 := Int.emod_lt_of_pos (i + x.f2) (show 0 < m by omega)
    have f1 := lift_in hn hm hnm x0 x1 h2 (show i < m by omega)
    have f2 := lift_in hn hm hnm x2 x3 e1 e2
    rw [w64 (n := i + x.f2) (by omega) (by omega), tmod_pos (a := i + x.f2) (by omega), w64 (n := x.f0 * m) (by omega) (by omega), w64 (n := x.f1 * m) (by omega) (by omega), w64 (n := x.f0 * m + i) (by omega) (by omega), w64 (n := x.f1 * m + _) (by omega) (by omega), w64 (n := i + 1) (by omega) (by omega)]
    simp only [if_pos (show i < m by omega), if_neg (show ¬ (m = 0) by omega)]
    rw [impl_Graph_put.n _ _ _ _ (by omega) (by omega) (by omega) (by omega) (by omega)]
    simp only [Option.bind_some]
    exact ih (i + 1) _ (by rw [putN_length]; omega) (by omega) (by omega)
theorem impl_lift.ev_0 (n m : Int) (l : List S60) (h : BaseOK n m l) (d : Nat) : ∀ (j : Nat) (rows : List Int), (rows.length : Int) = n * m → j + d = l.length →
    Ev (fun q => impl_lift.l0 q m l (l.length : Int) (j : Int) (n * m) rows) (n * m, putNs rows (liftPairs m (l.drop j))) := by
  have hm := h.2.2.1
  induction d with
  | zero =>
    intro j rows h1 h2
    refine Ev.step (fun k => impl_lift.l0.eq_2 ..) ?_
    simp only [if_neg (show ¬ ((j : Int) < (l.length : Int)) by omega)]
    rw [List.drop_eq_nil_of_le (by omega)]
    exact Ev.now _
  | succ d ih =>
    intro j rows h1 h2
    refine Ev.step (fun k => impl_lift.l0.eq_2 ..) ?_
    simp only [if_pos (show (j : Int) < (l.length : Int) by omega), if_pos (show (0 : Int) ≤ (j : Int) by omega)]
    have hx := h.2.2.2.2.2.2 j (by omega) (by omega)
    have := impl_lift.ev_1 n m l h j (by omega) _ hx (fun rows => (n * m, putNs rows (liftPairs m (l.drop (j + 1))))) (fun rows hr => ih (j + 1) rows hr (by omega)) m.toNat 0 rows h1 (by omega) (by omega)
    refine ev_cast this ?_
    rw [List.drop_eq_getElem_cons (show j < l.length by omega), ← rd_iArc (show j < l.length by omega)]
    unfold liftPairs
    rw [List.flatMap_cons, putNs_append]
theorem impl_lift.ev (n m : Int) (l : List S60) (h : BaseOK n m l) : Ev (fun q => impl_lift.f q n m l) (n * m, putNs (List.replicate (n * m).toNat 0) (liftPairs m l)) := by
  unfold impl_lift.f
  have hb := base_mul ⟨h.1, h.2.1⟩ ⟨h.2.2.1, h.2.2.2.1⟩
  rw [w64 (n := n * m) (by omega) (by omega), impl_empty.sp _ (by omega) (by omega)]
  have := impl_lift.ev_0 n m l h l.length 0 (List.replicate (n * m).toNat 0) (by rw [List.length_replicate]; omega) (by omega)
  rw [List.drop_zero] at this
  exact this
/-! The reference's lift, and whether each pair was new. -/
/-- Is the edge new, and between two vertices? -/
def newP (rows : List Int) (p : Int × Int) : Bool := !(decide (p.1 = p.2) || dig (rd rows p.1) p.2.toNat)
def allNew : List Int → List (Int × Int) → Bool
  | _, [] => true
  | rows, p :: ps => newP rows p && allNew (putN rows p) ps
theorem allNew_append (ps qs : List (Int × Int)) : ∀ rows, allNew rows (ps ++ qs) = (allNew rows ps && allNew (putNs rows ps) qs) := by
  induction ps with
  | nil => intro rows; simp [allNew, putNs]
  | cons p ps ih =>
    intro rows
    simp only [List.cons_append, allNew, ih, Bool.and_assoc]
    rfl
theorem spec_l03Lift.ev_1 (n m : Int) (l : List S60) (h : BaseOK n m l) (j : Nat) (hj : j < l.length) (x : S60) (hx : ArcOK n m x) (F : Bool → List Int → Int × List Int × Bool)
    (hF : ∀ (g : Bool) (rows : List Int), (rows.length : Int) = n * m → Ev (fun q => spec_l03Lift.l0 q g ((j + 1 : Nat) : Int) n m l (n * m) rows) (F g rows)) (d : Nat) : ∀ (i : Int) (g : Bool) (rows : List Int), (rows.length : Int) = n * m → 0 ≤ i → i + d = m →
    Ev (fun q => spec_l03Lift.l1 q g (j : Int) i n m l (n * m) rows x.f0 x.f1 x.f2) (F (g && allNew rows (arcPairs m x i d)) (putNs rows (arcPairs m x i d))) := by
  have hn := And.intro h.1 h.2.1
  have hm := And.intro h.2.2.1 h.2.2.2.1
  have hnm := h.2.2.2.2.1
  have hl := h.2.2.2.2.2.1
  obtain ⟨x0, x1, x2, x3, x4, x5⟩ := hx
  induction d with
  | zero =>
    intro i g rows h1 h2 h3
    refine Ev.step (fun k => spec_l03Lift.l1.eq_2 ..) ?_
    rw [w64 (n := (j : Int) + 1) (by omega) (by omega)]
    simp only [if_neg (show ¬ (i < m) by omega)]
    have : (g && allNew rows (arcPairs m x i 0)) = g := by simp [arcPairs, irange, allNew]
    rw [this]
    exact hF g rows h1
  | succ d ih =>
    intro i g rows h1 h2 h3
    refine Ev.step (fun k => spec_l03Lift.l1.eq_2 ..) ?_
    have e1 := Int.emod_nonneg (i + x.f2) (show m ≠ 0 by omega)
    have e2 := Int.emod_lt_of_pos (i + x.f2) (show 0 < m by omega)
    have f1 := lift_in hn hm hnm x0 x1 h2 (show i < m by omega)
    have f2 := lift_in hn hm hnm x2 x3 e1 e2
    rw [w64 (n := i + x.f2) (by omega) (by omega), tmod_pos (a := i + x.f2) (by omega), w64 (n := x.f0 * m) (by omega) (by omega), w64 (n := x.f1 * m) (by omega) (by omega), w64 (n := x.f0 * m + i) (by omega) (by omega), w64 (n := x.f1 * m + _) (by omega) (by omega)]
    simp only [if_pos (show i < m by omega), if_neg (show ¬ (m = 0) by omega)]
    simp only [arcPairs, irange, List.map_cons, allNew, putNs, List.foldl_cons]
    have hh := spec_l01Has.sp (n * m) rows (x.f0 * m + i) (x.f1 * m + (i + x.f2) % m) (by omega) (by omega) (by omega) (by omega)
    have step : ∀ (b : Bool), (b = true → x.f0 * m + i = x.f1 * m + (i + x.f2) % m ∨ dig (rd rows (x.f0 * m + i)) (x.f1 * m + (i + x.f2) % m).toNat = true) → (b = false → ¬ (x.f0 * m + i = x.f1 * m + (i + x.f2) % m) ∧ dig (rd rows (x.f0 * m + i)) (x.f1 * m + (i + x.f2) % m).toNat = false) →
        Ev (fun q => spec_l03Lift.j2 q g (j : Int) i (x.f0 * m + i) (x.f1 * m + (i + x.f2) % m) b n m l (n * m) rows x.f0 x.f1 x.f2)
          (F (g && (newP rows (x.f0 * m + i, x.f1 * m + (i + x.f2) % m) && allNew (putN rows (x.f0 * m + i, x.f1 * m + (i + x.f2) % m)) ((irange (i + 1) d).map fun i => (x.f0 * m + i, x.f1 * m + (i + x.f2) % m))))
            (((irange (i + 1) d).map fun i => (x.f0 * m + i, x.f1 * m + (i + x.f2) % m)).foldl putN (putN rows (x.f0 * m + i, x.f1 * m + (i + x.f2) % m)))) := by
      intro b hb1 hb2
      refine Ev.step (fun k => spec_l03Lift.j2.eq_2 ..) ?_
      rw [w64 (n := i + 1) (by omega) (by omega)]
      by_cases hb : b = true
      · simp only [if_pos hb]
        have hw : newP rows (x.f0 * m + i, x.f1 * m + (i + x.f2) % m) = false := by
          unfold newP
          rcases hb1 hb with c | c
          · simp [c]
          · simp [c]
        rw [hw]
        have key := fun rows' (hr : ((rows' : List Int).length : Int) = n * m) => ih (i + 1) false rows' hr (by omega) (by omega)
        simp only [Bool.false_and] at key
        simp only [Bool.false_and, Bool.and_false]
        by_cases c : x.f0 * m + i = x.f1 * m + (i + x.f2) % m
        · simp only [if_pos c]
          have hp : putN rows (x.f0 * m + i, x.f1 * m + (i + x.f2) % m) = rows := by unfold putN; rw [if_pos c]
          rw [hp]
          exact key rows h1
        · simp only [if_neg c]
          have hp : putN rows (x.f0 * m + i, x.f1 * m + (i + x.f2) % m) = putE rows (x.f0 * m + i) (x.f1 * m + (i + x.f2) % m) := by unfold putN; rw [if_neg c]
          rw [hp, spec_l01Put.sp _ _ _ _ (by omega) (by omega) (by omega) (by omega) (by omega)]
          simp only [Option.bind_some]
          exact key _ (by rw [putE_length]; exact h1)
      · simp only [if_neg hb]
        obtain ⟨c, c2⟩ := hb2 (by simpa using hb)
        have hw : newP rows (x.f0 * m + i, x.f1 * m + (i + x.f2) % m) = true := by
          unfold newP
          simp [c, c2]
        rw [hw]
        simp only [if_neg c, Bool.true_and]
        have hp : putN rows (x.f0 * m + i, x.f1 * m + (i + x.f2) % m) = putE rows (x.f0 * m + i) (x.f1 * m + (i + x.f2) % m) := by unfold putN; rw [if_neg c]
        rw [hp, spec_l01Put.sp _ _ _ _ (by omega) (by omega) (by omega) (by omega) (by omega)]
        simp only [Option.bind_some]
        exact ih (i + 1) g _ (by rw [putE_length]; exact h1) (by omega) (by omega)
    by_cases c : x.f0 * m + i = x.f1 * m + (i + x.f2) % m
    · simp only [if_pos c]
      exact step true (fun _ => .inl c) (fun a => by cases a)
    · simp only [if_neg c, hh, Option.bind_some]
      exact step _ (fun a => .inr a) (fun a => ⟨c, a⟩)
theorem spec_l03Lift.ev_0 (n m : Int) (l : List S60) (h : BaseOK n m l) (d : Nat) : ∀ (j : Nat) (g : Bool) (rows : List Int), (rows.length : Int) = n * m → j + d = l.length →
    Ev (fun q => spec_l03Lift.l0 q g (j : Int) n m l (n * m) rows) (n * m, putNs rows (liftPairs m (l.drop j)), g && allNew rows (liftPairs m (l.drop j))) := by
  have hm := h.2.2.1
  induction d with
  | zero =>
    intro j g rows h1 h2
    refine Ev.step (fun k => spec_l03Lift.l0.eq_2 ..) ?_
    simp only [if_neg (show ¬ ((j : Int) < (l.length : Int)) by omega)]
    rw [List.drop_eq_nil_of_le (by omega)]
    exact ev_some (by simp [liftPairs, allNew, putNs])
  | succ d ih =>
    intro j g rows h1 h2
    refine Ev.step (fun k => spec_l03Lift.l0.eq_2 ..) ?_
    simp only [if_pos (show (j : Int) < (l.length : Int) by omega), if_pos (show (0 : Int) ≤ (j : Int) by omega)]
    have hx := h.2.2.2.2.2.2 j (by omega) (by omega)
    have := spec_l03Lift.ev_1 n m l h j (by omega) _ hx (fun g rows => (n * m, putNs rows (liftPairs m (l.drop (j + 1))), g && allNew rows (liftPairs m (l.drop (j + 1))))) (fun g rows hr => ih (j + 1) g rows hr (by omega)) m.toNat 0 g rows h1 (by omega) (by omega)
    refine ev_cast this ?_
    rw [List.drop_eq_getElem_cons (show j < l.length by omega), ← rd_iArc (show j < l.length by omega)]
    unfold liftPairs
    rw [List.flatMap_cons, putNs_append, allNew_append, Bool.and_assoc]
theorem spec_l03Lift.ev (n m : Int) (l : List S60) (h : BaseOK n m l) : Ev (fun q => spec_l03Lift.f q n m l) (n * m, putNs (List.replicate (n * m).toNat 0) (liftPairs m l), allNew (List.replicate (n * m).toNat 0) (liftPairs m l)) := by
  unfold spec_l03Lift.f
  have hb := base_mul ⟨h.1, h.2.1⟩ ⟨h.2.2.1, h.2.2.2.1⟩
  rw [w64 (n := n * m) (by omega) (by omega), spec_l01Empty.sp _ (by omega) (by omega)]
  have := spec_l03Lift.ev_0 n m l h l.length 0 true (List.replicate (n * m).toNat 0) (by rw [List.length_replicate]; omega) (by omega)
  rw [List.drop_zero, Bool.true_and] at this
  exact this

noncomputable def liftR (n m : Int) (l : List S60) : Int × List Int × Int := if BaseOK n m l then (n * m, putNs (List.replicate (n * m).toNat 0) (liftPairs m l), 0) else (0, [], 1)
theorem liftR_length (n m : Int) (l : List S60) : (liftR n m l).2.1.length ≤ 62 := by
  unfold liftR
  split
  · rename_i h
    have := h.2.2.2.2.1
    simp only [putNs_length, List.length_replicate]; omega
  · simp
theorem spec_LiftOf.ev (n m : Int) (l : List S60) : Ev (fun q => spec_LiftOf.f q n m l) (liftR n m l) := by
  unfold spec_LiftOf.f liftR
  refine Ev.bind (spec_l03Is.ev n m l) ?_
  by_cases h : BaseOK n m l
  · simp only [h, decide_true, if_true]
    exact Ev.bind (spec_l03Lift.ev n m l h) (Ev.now _)
  · simp only [h, decide_false, Bool.false_eq_true, if_false]
    exact Ev.now _
theorem impl_LiftOf.ev (n m : Int) (l : List S60) : Ev (fun q => impl_LiftOf.f q n m l) (liftR n m l) := by
  unfold impl_LiftOf.f liftR
  simp only [impl_IsBase.sp, Option.bind_some]
  by_cases h : BaseOK n m l
  · simp only [h, decide_true, if_true]
    exact Ev.bind (impl_lift.ev n m l h) (Ev.now _)
  · simp only [h, decide_false, Bool.false_eq_true, if_false]
    exact Ev.now _

theorem laws_eqInt64S.ev_l (l : List Int) (hl : l.length ≤ 281474976710656) (d : Nat) : ∀ (i : Nat), i + d = l.length → Ev (fun k => laws_eqInt64S.l0 k l l (i : Int)) true := by
  induction d with
  | zero =>
    intro i h3
    refine Ev.step (fun k => laws_eqInt64S.l0.eq_2 ..) ?_
    simp only [if_neg (show ¬ ((i : Int) < (l.length : Int)) by omega)]
    exact Ev.now _
  | succ d ih =>
    intro i h3
    refine Ev.step (fun k => laws_eqInt64S.l0.eq_2 ..) ?_
    simp only [if_pos (show (i : Int) < (l.length : Int) by omega), if_pos (show (0 : Int) ≤ (i : Int) by omega), if_true]
    rw [w64 (by omega) (by omega)]
    exact ih (i + 1) (by omega)
theorem laws_eqInt64S.ev (l : List Int) (hl : l.length ≤ 281474976710656) : Ev (fun k => laws_eqInt64S.f k l l) true := by
  unfold laws_eqInt64S.f
  simp only [if_true]
  exact laws_eqInt64S.ev_l l hl l.length 0 (by omega)

theorem laws_eqGraph.ev (n : Int) (l : List Int) (hl : l.length ≤ 281474976710656) : Ev (fun k => laws_eqGraph.f k n l n l) true := by
  unfold laws_eqGraph.f
  simp only [if_true]
  exact Ev.bind (laws_eqInt64S.ev l hl) (Ev.now _)

/-- The marks a + i, from the place i on. -/
theorem laws_markInt64S.ev_l (n : Nat) (a : Int) (ha : 0 ≤ a) (han : a + n ≤ 4611686018427387904) (d : Nat) : ∀ (i : Nat) (l : List Int), l.length = n → i + d = n →
    ∃ m : List Int, Ev (fun k => laws_markInt64S.l0 k l (a + i) (i : Int)) (a + n, m) ∧ m.length = n ∧ (∀ j, j < i → m[j]? = l[j]?) ∧ ∀ j : Nat, i ≤ j → j < n → rd m j = a + j := by
  induction d with
  | zero =>
    intro i l h1 h3
    refine ⟨l, ?_, h1, fun _ _ => rfl, fun j h h' => by omega⟩
    refine Ev.step (fun k => laws_markInt64S.l0.eq_2 ..) ?_
    simp only [if_neg (show ¬ ((i : Int) < (l.length : Int)) by omega)]
    have : i = n := by omega
    rw [this]
    exact Ev.now _
  | succ d ih =>
    intro i l h1 h3
    obtain ⟨m, hm, h4, h5, h6⟩ := ih (i + 1) (l.set i (a + i)) (by simp [h1]) (by omega)
    refine ⟨m, ?_, h4, fun j hj => ?_, fun j hj hj' => ?_⟩
    · refine Ev.step (fun k => laws_markInt64S.l0.eq_2 ..) ?_
      simp only [if_pos (show (i : Int) < (l.length : Int) by omega), if_pos (show (0 : Int) ≤ (i : Int) by omega)]
      rw [w64 (by omega) (by omega), w64 (by omega) (by omega), Int.add_assoc, Int.toNat_natCast]
      exact hm
    · rw [h5 j (by omega), List.getElem?_set_ne (by omega)]
    · by_cases e : j = i
      · subst e
        have := h5 j (by omega)
        rw [List.getElem?_set_self (by omega)] at this
        rw [rd_nat]
        simp [this]
      · exact h6 j (by omega) hj'
theorem laws_markInt64S.ev (l : List Int) (a : Int) (ha : 0 ≤ a) (han : a + l.length ≤ 4611686018427387904) :
    ∃ m : List Int, Ev (fun k => laws_markInt64S.f k l a) (a + l.length, m) ∧ m.length = l.length ∧ ∀ j : Nat, j < l.length → rd m j = a + j := by
  obtain ⟨m, hm, h4, _, h6⟩ := laws_markInt64S.ev_l l.length a ha han l.length 0 l rfl (by omega)
  refine ⟨m, ?_, h4, fun j hj => h6 j (by omega) hj⟩
  unfold laws_markInt64S.f
  have := hm
  simp only [Int.natCast_zero, Int.add_zero] at this
  exact this

theorem laws_markGraph.ev (n : Int) (l : List Int) (a : Int) (ha : 0 ≤ a) (han : a + l.length ≤ 4611686018427387904) :
    ∃ m : List Int, Ev (fun k => laws_markGraph.f k n l a) (a + l.length, m) ∧ m.length = l.length ∧ ∀ j : Nat, j < l.length → rd m j = a + j := by
  obtain ⟨m, hm, h4, h6⟩ := laws_markInt64S.ev l a ha han
  refine ⟨m, ?_, h4, h6⟩
  unfold laws_markGraph.f
  exact Ev.bind hm (Ev.now _)

theorem laws_heldInt64S.ev_l (m : List Int) (a : Int) (ha : 0 ≤ a) (han : a + m.length ≤ 4611686018427387904) (hm : ∀ j : Nat, j < m.length → rd m j = a + j) (d : Nat) :
    ∀ (i : Nat), i + d = m.length → Ev (fun k => laws_heldInt64S.l0 k m (a + i) (i : Int)) (a + m.length) := by
  induction d with
  | zero =>
    intro i h3
    refine Ev.step (fun k => laws_heldInt64S.l0.eq_2 ..) ?_
    simp only [if_neg (show ¬ ((i : Int) < (m.length : Int)) by omega)]
    have : i = m.length := by omega
    rw [this]
    exact Ev.now _
  | succ d ih =>
    intro i h3
    refine Ev.step (fun k => laws_heldInt64S.l0.eq_2 ..) ?_
    simp only [if_pos (show (i : Int) < (m.length : Int) by omega), if_pos (show (0 : Int) ≤ (i : Int) by omega), if_pos (hm i (by omega))]
    rw [w64 (by omega) (by omega), w64 (by omega) (by omega), Int.add_assoc]
    exact ih (i + 1) (by omega)
theorem laws_heldInt64S.ev (m : List Int) (a : Int) (ha : 0 ≤ a) (han : a + m.length ≤ 4611686018427387904) (hm : ∀ j : Nat, j < m.length → rd m j = a + j) :
    Ev (fun k => laws_heldInt64S.f k m a) (a + m.length) := by
  unfold laws_heldInt64S.f
  have := laws_heldInt64S.ev_l m a ha han hm m.length 0 (by omega)
  simp only [Int.natCast_zero, Int.add_zero] at this
  exact this

theorem laws_heldGraph.ev (n : Int) (m : List Int) (a : Int) (ha : 0 ≤ a) (han : a + m.length ≤ 4611686018427387904) (hm : ∀ j : Nat, j < m.length → rd m j = a + j) :
    Ev (fun k => laws_heldGraph.f k n m a) (a + m.length) := by
  unfold laws_heldGraph.f
  refine Ev.bind (laws_heldInt64S.ev m a ha han hm) ?_
  simp only [if_neg (show ¬ (a + (m.length : Int) < 0) by omega)]
  exact Ev.now _

end Go.Proofs.Ytdieobmhmkdjmaa.XFnExactLiftOf
