/- What the functions that FnExactIsFaithful reaches compute. -/
import Derived.Test.YtdieobmhmkdjmaaDoorXFnExactIsFaithfulx0
import Derived.Test.YtdieobmhmkdjmaaDoorXFnExactIsFaithfulx1
import Derived.Test.YtdieobmhmkdjmaaDoorXFnExactIsFaithfulx2
import Derived.Test.YtdieobmhmkdjmaaDoorXFnExactIsFaithfulx3
import Derived.Test.YtdieobmhmkdjmaaDoorXFnExactIsFaithfulx4
import Derived.Test.YtdieobmhmkdjmaaDoorXFnExactIsFaithfulx5
import Derived.Test.YtdieobmhmkdjmaaDoorXFnExactIsFaithfulx6
import Derived.Test.YtdieobmhmkdjmaaDoorXFnExactIsFaithfulx7
import Derived.Test.YtdieobmhmkdjmaaDoorGr
namespace Go.Proofs.YtdieobmhmkdjmaaDoor.XFnExactIsFaithful
open Go.RowKit Go.Proofs.YtdieobmhmkdjmaaDoorW.PrintWords Go.Proofs.YtdieobmhmkdjmaaDoorW.PrintLast Go.Proofs.YtdieobmhmkdjmaaDoor.B
open Classical
set_option linter.unusedVariables false
set_option linter.unusedSimpArgs false
set_option linter.unusedSectionVars false

theorem laws_szArcS.sp {l : List S56} {a : Int} (h : l.length ≤ 9223372036854775807) (ha : a ≤ 1048576) (ha0 : 0 ≤ a) :
    (laws_szArcS.f l a = some (-1) ∧ a < l.length) ∨ (laws_szArcS.f l a = some (a - l.length) ∧ (l.length : Int) ≤ a) := by
  unfold laws_szArcS.f
  rw [w64 (by omega) (by omega)]
  by_cases c : a - (l.length : Int) < 0
  · rw [if_pos c]; exact .inl ⟨rfl, by omega⟩
  · rw [if_neg c]; exact .inr ⟨rfl, by omega⟩

theorem laws_szBase.sp {n m : Int} {l : List S56} {a : Int} (h : l.length ≤ 9223372036854775807) (ha : a ≤ 1048576) (ha0 : 0 ≤ a) :
    (laws_szBase.f n m l a = some (-1) ∧ a < l.length) ∨ (laws_szBase.f n m l a = some (a - l.length) ∧ (l.length : Int) ≤ a) := by
  unfold laws_szBase.f
  rcases laws_szArcS.sp h ha ha0 with ⟨e, c⟩ | ⟨e, c⟩
  · rw [e]; exact .inl ⟨by simp, c⟩
  · rw [e]
    refine .inr ⟨?_, c⟩
    simp only [Option.bind_some]
    rw [if_neg (by omega)]

theorem spec_l01In.sp (a b c : Int) : spec_l01In.f a b c = some (decide (b ≤ a ∧ a ≤ c)) := by
  unfold spec_l01In.f
  by_cases h : b ≤ a <;> simp [h]

def toA (x : S56) : S51 := ⟨x.f0, x.f1, x.f2⟩
theorem rd_lArc {l : List S56} {i : Nat} (h : i < l.length) : rd_T56 l (i : Int) = l[i] := by simp [rd_T56, h]
theorem rd_iArc {l : List S51} {i : Nat} (h : i < l.length) : rd_T51 l (i : Int) = l[i] := by simp [rd_T51, h]
theorem laws_toArcS.ev_l (l : List S56) (hl : l.length ≤ 281474976710656) (d : Nat) : ∀ (i : Nat) (acc : List S51), acc.length = l.length → (∀ j, j < i → acc[j]? = (l.map toA)[j]?) → i + d = l.length →
    Ev (fun k => laws_toArcS.l0 k l acc (i : Int)) (l.map toA) := by
  induction d with
  | zero =>
    intro i acc h1 h2 h3
    refine Ev.step (fun k => laws_toArcS.l0.eq_2 ..) ?_
    simp only [if_neg (show ¬ ((i : Int) < (l.length : Int)) by omega)]
    refine ev_some (List.ext_getElem? fun j => ?_)
    by_cases hj : j < i
    · exact h2 j hj
    · rw [List.getElem?_eq_none (by omega), List.getElem?_eq_none (by rw [List.length_map]; omega)]
  | succ d ih =>
    intro i acc h1 h2 h3
    refine Ev.step (fun k => laws_toArcS.l0.eq_2 ..) ?_
    unfold laws_toArc.f
    simp only [if_pos (show (i : Int) < (l.length : Int) by omega), if_pos (show (0 : Int) ≤ (i : Int) by omega), if_pos (show (i : Int) < (acc.length : Int) by omega), Option.bind_some]
    rw [w64 (by omega) (by omega)]
    refine ih (i + 1) _ (by simp [h1]) (fun j hj => ?_) (by omega)
    rw [Int.toNat_natCast]
    by_cases e : i = j
    · subst e
      rw [List.getElem?_set_self (by omega), rd_lArc (by omega), List.getElem?_map, List.getElem?_eq_getElem (by omega)]
      rfl
    · rw [List.getElem?_set_ne e]
      exact h2 j (by omega)
theorem laws_toArcS.ev (l : List S56) (hl : l.length ≤ 11728124029610) : Ev (fun k => laws_toArcS.f k l) (l.map toA) := by
  unfold laws_toArcS.f
  simp only [if_pos (show (0 : Int) ≤ (l.length : Int) by omega), if_pos (show ((l.length : Int)).toNat ≤ 11728124029610 by omega)]
  exact laws_toArcS.ev_l l (by omega) l.length 0 _ (by simp) (fun j hj => by omega) (by omega)

def ArcOK (n m : Int) (x : S51) : Prop := 0 ≤ x.f0 ∧ x.f0 < n ∧ 0 ≤ x.f1 ∧ x.f1 < n ∧ 0 ≤ x.f2 ∧ x.f2 < m
def BaseOK (n m : Int) (l : List S51) : Prop := 1 ≤ n ∧ n ≤ 10 ∧ 1 ≤ m ∧ m ≤ 62 ∧ n * m ≤ 62 ∧ l.length ≤ 16 ∧ ∀ j : Nat, 0 ≤ j → j < l.length → ArcOK n m (rd_T51 l (j : Int))
theorem base_mul {n m : Int} (h : 1 ≤ n ∧ n ≤ 10) (h' : 1 ≤ m ∧ m ≤ 62) : 0 ≤ n * m ∧ n * m ≤ 620 :=
  ⟨Int.mul_nonneg (by omega) (by omega), Int.mul_le_mul h.2 h'.2 (by omega) (by omega)⟩
theorem spec_l03Is.ev_l (n m : Int) (l : List S51) (h1 : 1 ≤ n ∧ n ≤ 10) (h2 : 1 ≤ m ∧ m ≤ 62) (hm : n * m ≤ 62) (hl : l.length ≤ 16) (d : Nat) : ∀ i : Nat, i + d = l.length → ((∀ j : Nat, i ≤ j → j < l.length → ArcOK n m (rd_T51 l (j : Int))) ↔ BaseOK n m l) →
    Ev (fun q => spec_l03Is.l0 q (i : Int) n m l) (decide (BaseOK n m l)) := by
  induction d with
  | zero =>
    intro i h hj
    refine Ev.step (fun k => spec_l03Is.l0.eq_2 ..) ?_
    simp only [if_neg (show ¬ ((i : Int) < (l.length : Int)) by omega)]
    rw [decide_eq_true (hj.1 (scan_end (by omega)))]
    exact Ev.now _
  | succ d ih =>
    intro i h hj
    refine Ev.step (fun k => spec_l03Is.l0.eq_2 ..) ?_
    rw [w64 (n := n - 1) (by omega) (by omega), w64 (n := m - 1) (by omega) (by omega), w64 (by omega) (by omega)]
    simp only [if_pos (show (i : Int) < (l.length : Int) by omega), if_pos (show (0 : Int) ≤ (i : Int) by omega), spec_l01In.sp, Option.bind_some, decide_eq_true_eq]
    have fl : ¬ ArcOK n m (rd_T51 l (i : Int)) → decide (BaseOK n m l) = false := fun a => decide_eq_false fun b => scan_fail (P := fun j : Nat => ArcOK n m (rd_T51 l (j : Int))) (i := i) a (by omega) (hj.2 b)
    generalize hx : rd_T51 l (i : Int) = x at fl
    by_cases c0 : 0 ≤ x.f0 ∧ x.f0 ≤ n - 1
    · simp only [if_pos c0]
      by_cases c1 : 0 ≤ x.f1 ∧ x.f1 ≤ n - 1
      · simp only [if_pos c1]
        by_cases c2 : 0 ≤ x.f2 ∧ x.f2 ≤ m - 1
        · simp only [if_pos c2]
          refine ih (i + 1) (by omega) ((scan_step (P := fun j : Nat => ArcOK n m (rd_T51 l (j : Int))) (i := i) ?_).symm.trans hj)
          rw [hx]
          exact ⟨by omega, by omega, by omega, by omega, by omega, by omega⟩
        · simp only [if_neg c2]
          rw [fl (fun a => c2 ⟨a.2.2.2.2.1, by have := a.2.2.2.2.2; omega⟩)]
          exact Ev.now _
      · simp only [if_neg c1]
        rw [fl (fun a => c1 ⟨a.2.2.1, by have := a.2.2.2.1; omega⟩)]
        exact Ev.now _
    · simp only [if_neg c0]
      rw [fl (fun a => c0 ⟨a.1, by have := a.2.1; omega⟩)]
      exact Ev.now _
theorem spec_l03Is.ev (n m : Int) (l : List S51) : Ev (fun q => spec_l03Is.f q n m l) (decide (BaseOK n m l)) := by
  unfold spec_l03Is.f
  simp only [spec_l01In.sp, Option.bind_some, decide_eq_true_eq]
  by_cases h1 : 1 ≤ n ∧ n ≤ 10
  · simp only [if_pos h1]
    by_cases h2 : 1 ≤ m ∧ m ≤ 62
    · simp only [if_pos h2]
      have hb := base_mul h1 h2
      rw [w64 (n := n * m) (by omega) (by omega)]
      by_cases h3 : n * m > 62
      · simp only [if_pos h3]
        refine Ev.step (fun k => spec_l03Is.j0.eq_2 ..) ?_
        simp only [if_true]
        rw [decide_eq_false (fun a => by have := a.2.2.2.2.1; omega)]
        exact Ev.now _
      · simp only [if_neg h3]
        refine Ev.step (fun k => spec_l03Is.j0.eq_2 ..) ?_
        simp only [decide_eq_true_eq]
        by_cases h4 : (l.length : Int) > 16
        · simp only [if_pos h4]
          rw [decide_eq_false (fun a => by have := a.2.2.2.2.2.1; omega)]
          exact Ev.now _
        · simp only [if_neg h4]
          exact spec_l03Is.ev_l n m l h1 h2 (by omega) (by omega) l.length 0 (by omega) ⟨fun a => ⟨h1.1, h1.2, h2.1, h2.2, by omega, by omega, a⟩, fun a => a.2.2.2.2.2.2⟩
    · simp only [if_neg h2]
      refine Ev.step (fun k => spec_l03Is.j0.eq_2 ..) ?_
      simp only [if_true]
      rw [decide_eq_false (fun a => h2 ⟨a.2.2.1, a.2.2.2.1⟩)]
      exact Ev.now _
  · simp only [if_neg h1]
    refine Ev.step (fun k => spec_l03Is.j0.eq_2 ..) ?_
    simp only [if_true]
    rw [decide_eq_false (fun a => h1 ⟨a.1, a.2.1⟩)]
    exact Ev.now _

theorem spec_l01Empty.sp (n : Int) (h0 : 0 ≤ n) (h1 : n ≤ 35184372088832) : spec_l01Empty.f n = some (n, List.replicate n.toNat 0) := by
  unfold spec_l01Empty.f
  rw [if_pos h0, if_pos (by omega)]

theorem spec_l01Has.sp (n : Int) (rows : List Int) (a b : Int) (ha : 0 ≤ a) (ha1 : a < rows.length) (hb : 0 ≤ b) (hb1 : b ≤ 62) : spec_l01Has.f n rows a b = some (dig (rd rows a) b.toNat) := by
  unfold spec_l01Has.f
  rw [u64 hb (by omega), if_pos ha, if_pos ha1, if_pos hb, bit_dig hb (by omega)]

theorem spec_l01Put.sp (n : Int) (rows : List Int) (a b : Int) (ha : 0 ≤ a) (ha1 : a < rows.length) (hb : 0 ≤ b) (hb1 : b < rows.length) (hl : rows.length ≤ 62) :
    spec_l01Put.f n rows a b = some (putE rows a b) := by
  unfold spec_l01Put.f
  rw [u64 hb (by omega), u64 ha (by omega), if_pos ha, if_pos ha1, if_pos hb, shl_one hb (by omega), shl_one ha (by omega)]
  simp only [Option.bind_some]
  rw [if_pos hb, if_pos hb1, if_pos ha]
  rfl

theorem laws_toBase.ev (n m : Int) (l : List S56) (hl : l.length ≤ 11728124029610) : Ev (fun k => laws_toBase.f k n m l) (n, m, l.map toA) := by
  unfold laws_toBase.f
  exact Ev.bind (laws_toArcS.ev l hl) (Ev.now _)

theorem impl_IsBase.sp (n m : Int) (l : List S51) : impl_IsBase.f n m l = some (decide (BaseOK n m l)) := by
  unfold impl_IsBase.f
  by_cases c0 : n < 1
  · rw [if_pos c0, decide_eq_false (fun a => by have := a.1; omega)]
  rw [if_neg c0]
  by_cases c1 : n > 10
  · rw [if_pos c1, decide_eq_false (fun a => by have := a.2.1; omega)]
  rw [if_neg c1]
  by_cases c2 : m < 1
  · rw [if_pos c2, decide_eq_false (fun a => by have := a.2.2.1; omega)]
  rw [if_neg c2]
  by_cases c3 : m > 62
  · rw [if_pos c3, decide_eq_false (fun a => by have := a.2.2.2.1; omega)]
  rw [if_neg c3]
  by_cases c4 : n * m > 62
  · rw [if_pos c4, decide_eq_false (fun a => by have := a.2.2.2.2.1; omega)]
  rw [if_neg c4]
  by_cases c5 : (l.length : Int) > 16
  · rw [if_pos c5, decide_eq_false (fun a => by have := a.2.2.2.2.2.1; omega)]
  rw [if_neg c5]
  have bad : ∀ x : S51, arcBad n m x = false ↔ ArcOK n m x := by
    intro x
    unfold arcBad ArcOK
    simp only [Bool.or_eq_false_iff, decide_eq_false_iff_not]
    omega
  congr 1
  by_cases h : BaseOK n m l
  · rw [decide_eq_true h]
    have : l.any (arcBad n m) = false := by
      rw [List.any_eq_false]
      intro x hx
      obtain ⟨j, hj, rfl⟩ := List.mem_iff_getElem.1 hx
      have := h.2.2.2.2.2.2 j (by omega) hj
      rw [rd_iArc hj] at this
      rw [(bad _).2 this]
      simp
    rw [this]; rfl
  · rw [decide_eq_false h]
    have : l.any (arcBad n m) = true := by
      refine Classical.byContradiction fun a => h ⟨by omega, by omega, by omega, by omega, by omega, by omega, fun j _ hj => ?_⟩
      rw [rd_iArc hj, ← bad]
      have a' : l.any (arcBad n m) = false := by simpa using a
      have := List.any_eq_false.1 a' l[j] (List.getElem_mem hj)
      simpa using this
    rw [this]; rfl

theorem impl_empty.sp (n : Int) (h0 : 0 ≤ n) (h1 : n ≤ 35184372088832) : impl_empty.f n = some (n, List.replicate n.toNat 0) := by
  unfold impl_empty.f
  rw [if_pos h0, if_pos (by omega)]

theorem impl_Graph_put.sp (n : Int) (rows : List Int) (a b : Int) (hab : a ≠ b) (ha : 0 ≤ a) (ha1 : a < rows.length) (hb : 0 ≤ b) (hb1 : b < rows.length) (hl : rows.length ≤ 62) :
    impl_Graph_put.f n rows a b = some (putE rows a b) := by
  unfold impl_Graph_put.f
  rw [if_neg hab, if_pos ha, if_pos ha1, if_pos hb, shl_one hb (by omega), shl_one ha (by omega)]
  simp only [Option.bind_some]
  rw [if_pos hb1]
  rfl
theorem impl_Graph_put.same (n : Int) (rows : List Int) (a : Int) : impl_Graph_put.f n rows a a = some rows := by
  unfold impl_Graph_put.f
  rw [if_pos rfl]

/-- The pairs that an arc's digits i.. join. -/
def arcPairs (m : Int) (x : S51) (i : Int) (d : Nat) : List (Int × Int) := (irange i d).map fun i => (x.f0 * m + i, x.f1 * m + (i + x.f2) % m)
/-- An edge put in, if its ends are two. -/
def putN (rows : List Int) (p : Int × Int) : List Int := if p.1 = p.2 then rows else putE rows p.1 p.2
theorem putN_length (rows : List Int) (p : Int × Int) : (putN rows p).length = rows.length := by unfold putN; split; rfl; exact putE_length _ _ _
def putNs (rows : List Int) (ps : List (Int × Int)) : List Int := ps.foldl putN rows
theorem putNs_length (ps : List (Int × Int)) : ∀ rows : List Int, (putNs rows ps).length = rows.length := by
  induction ps with
  | nil => intro rows; rfl
  | cons p ps ih => intro rows; exact (ih _).trans (putN_length _ _)
theorem putNs_append (rows : List Int) (ps qs : List (Int × Int)) : putNs rows (ps ++ qs) = putNs (putNs rows ps) qs := List.foldl_append
def liftPairs (m : Int) (l : List S51) : List (Int × Int) := l.flatMap fun x => arcPairs m x 0 m.toNat
/-- Where a place of the lift lies. -/
theorem lift_in {n m a i : Int} (hn : 1 ≤ n ∧ n ≤ 10) (hm : 1 ≤ m ∧ m ≤ 62) (hnm : n * m ≤ 62) (ha : 0 ≤ a) (ha1 : a < n) (hi : 0 ≤ i) (hi1 : i < m) : 0 ≤ a * m ∧ a * m ≤ 620 ∧ 0 ≤ a * m + i ∧ a * m + i < n * m := by
  have h0 : 0 ≤ a * m := Int.mul_nonneg ha (by omega)
  have h1 : (a + 1) * m ≤ n * m := Int.mul_le_mul_of_nonneg_right (by omega) (by omega)
  have h2 : (a + 1) * m = a * m + m := by rw [Int.add_mul, Int.one_mul]
  omega
theorem impl_Graph_put.n (n : Int) (rows : List Int) (a b : Int) (ha : 0 ≤ a) (ha1 : a < rows.length) (hb : 0 ≤ b) (hb1 : b < rows.length) (hl : rows.length ≤ 62) :
    impl_Graph_put.f n rows a b = some (putN rows (a, b)) := by
  unfold putN
  by_cases h : a = b
  · simp only [if_pos h]; subst h; exact impl_Graph_put.same n rows a
  · simp only [if_neg h]; exact impl_Graph_put.sp n rows a b h ha ha1 hb hb1 hl
theorem impl_lift.ev_1 (n m : Int) (l : List S51) (h : BaseOK n m l) (j : Nat) (hj : j < l.length) (x : S51) (hx : ArcOK n m x) (F : List Int → Int × List Int)
    (hF : ∀ rows : List Int, (rows.length : Int) = n * m → Ev (fun q => impl_lift.l0 q m l (l.length : Int) ((j + 1 : Nat) : Int) (n * m) rows) (F rows)) (d : Nat) : ∀ (i : Int) (rows : List Int), (rows.length : Int) = n * m → 0 ≤ i → i + d = m →
    Ev (fun q => impl_lift.l1 q m l (l.length : Int) (j : Int) m i (n * m) rows x.f0 x.f1 x.f2) (F (putNs rows (arcPairs m x i d))) := by
  have hn := And.intro h.1 h.2.1
  have hm := And.intro h.2.2.1 h.2.2.2.1
  have hnm := h.2.2.2.2.1
  have hl := h.2.2.2.2.2.1
  obtain ⟨x0, x1, x2, x3, x4, x5⟩ := hx
  induction d with
  | zero =>
    intro i rows h1 h2 h3
    refine Ev.step (fun k => impl_lift.l1.eq_2 ..) ?_
    rw [w64 (n := (j : Int) + 1) (by omega) (by omega)]
    simp only [if_neg (show ¬ (i < m) by omega)]
    exact hF rows h1
  | succ d ih =>
    intro i rows h1 h2 h3
    refine Ev.step (fun k => impl_lift.l1.eq_2 ..) ?_
    have e1 := Int.emod_nonneg (i + x.f2) (show m ≠ 0 by omega)
    have e2 := Int.emod_lt_of_pos (i + x.f2) (show 0 < m by omega)
    have f1 := lift_in hn hm hnm x0 x1 h2 (show i < m by omega)
    have f2 := lift_in hn hm hnm x2 x3 e1 e2
    rw [w64 (n := i + x.f2) (by omega) (by omega), tmod_pos (a := i + x.f2) (by omega), w64 (n := x.f0 * m) (by omega) (by omega), w64 (n := x.f1 * m) (by omega) (by omega), w64 (n := x.f0 * m + i) (by omega) (by omega), w64 (n := x.f1 * m + _) (by omega) (by omega), w64 (n := i + 1) (by omega) (by omega)]
    simp only [if_pos (show i < m by omega), if_neg (show ¬ (m = 0) by omega)]
    rw [impl_Graph_put.n _ _ _ _ (by omega) (by omega) (by omega) (by omega) (by omega)]
    simp only [Option.bind_some]
    exact ih (i + 1) _ (by rw [putN_length]; omega) (by omega) (by omega)
theorem impl_lift.ev_0 (n m : Int) (l : List S51) (h : BaseOK n m l) (d : Nat) : ∀ (j : Nat) (rows : List Int), (rows.length : Int) = n * m → j + d = l.length →
    Ev (fun q => impl_lift.l0 q m l (l.length : Int) (j : Int) (n * m) rows) (n * m, putNs rows (liftPairs m (l.drop j))) := by
  have hm := h.2.2.1
  induction d with
  | zero =>
    intro j rows h1 h2
    refine Ev.step (fun k => impl_lift.l0.eq_2 ..) ?_
    simp only [if_neg (show ¬ ((j : Int) < (l.length : Int)) by omega)]
    rw [List.drop_eq_nil_of_le (by omega)]
    exact Ev.now _
  | succ d ih =>
    intro j rows h1 h2
    refine Ev.step (fun k => impl_lift.l0.eq_2 ..) ?_
    simp only [if_pos (show (j : Int) < (l.length : Int) by omega), if_pos (show (0 : Int) ≤ (j : Int) by omega)]
    have hx := h.2.2.2.2.2.2 j (by omega) (by omega)
    have := impl_lift.ev_1 n m l h j (by omega) _ hx (fun rows => (n * m, putNs rows (liftPairs m (l.drop (j + 1))))) (fun rows hr => ih (j + 1) rows hr (by omega)) m.toNat 0 rows h1 (by omega) (by omega)
    refine ev_cast this ?_
    rw [List.drop_eq_getElem_cons (show j < l.length by omega), ← rd_iArc (show j < l.length by omega)]
    unfold liftPairs
    rw [List.flatMap_cons, putNs_append]
theorem impl_lift.ev (n m : Int) (l : List S51) (h : BaseOK n m l) : Ev (fun q => impl_lift.f q n m l) (n * m, putNs (List.replicate (n * m).toNat 0) (liftPairs m l)) := by
  unfold impl_lift.f
  have hb := base_mul ⟨h.1, h.2.1⟩ ⟨h.2.2.1, h.2.2.2.1⟩
  rw [w64 (n := n * m) (by omega) (by omega), impl_empty.sp _ (by omega) (by omega)]
  have := impl_lift.ev_0 n m l h l.length 0 (List.replicate (n * m).toNat 0) (by rw [List.length_replicate]; omega) (by omega)
  rw [List.drop_zero] at this
  exact this
/-! The reference's lift, and whether each pair was new. -/
/-- Is the edge new, and between two vertices? -/
def newP (rows : List Int) (p : Int × Int) : Bool := !(decide (p.1 = p.2) || dig (rd rows p.1) p.2.toNat)
def allNew : List Int → List (Int × Int) → Bool
  | _, [] => true
  | rows, p :: ps => newP rows p && allNew (putN rows p) ps
theorem allNew_append (ps qs : List (Int × Int)) : ∀ rows, allNew rows (ps ++ qs) = (allNew rows ps && allNew (putNs rows ps) qs) := by
  induction ps with
  | nil => intro rows; simp [allNew, putNs]
  | cons p ps ih =>
    intro rows
    simp only [List.cons_append, allNew, ih, Bool.and_assoc]
    rfl
theorem spec_l03Lift.ev_1 (n m : Int) (l : List S51) (h : BaseOK n m l) (j : Nat) (hj : j < l.length) (x : S51) (hx : ArcOK n m x) (F : Bool → List Int → Int × List Int × Bool)
    (hF : ∀ (g : Bool) (rows : List Int), (rows.length : Int) = n * m → Ev (fun q => spec_l03Lift.l0 q g ((j + 1 : Nat) : Int) n m l (n * m) rows) (F g rows)) (d : Nat) : ∀ (i : Int) (g : Bool) (rows : List Int), (rows.length : Int) = n * m → 0 ≤ i → i + d = m →
    Ev (fun q => spec_l03Lift.l1 q g (j : Int) i n m l (n * m) rows x.f0 x.f1 x.f2) (F (g && allNew rows (arcPairs m x i d)) (putNs rows (arcPairs m x i d))) := by
  have hn := And.intro h.1 h.2.1
  have hm := And.intro h.2.2.1 h.2.2.2.1
  have hnm := h.2.2.2.2.1
  have hl := h.2.2.2.2.2.1
  obtain ⟨x0, x1, x2, x3, x4, x5⟩ := hx
  induction d with
  | zero =>
    intro i g rows h1 h2 h3
    refine Ev.step (fun k => spec_l03Lift.l1.eq_2 ..) ?_
    rw [w64 (n := (j : Int) + 1) (by omega) (by omega)]
    simp only [if_neg (show ¬ (i < m) by omega)]
    have : (g && allNew rows (arcPairs m x i 0)) = g := by simp [arcPairs, irange, allNew]
    rw [this]
    exact hF g rows h1
  | succ d ih =>
    intro i g rows h1 h2 h3
    refine Ev.step (fun k => spec_l03Lift.l1.eq_2 ..) ?_
    have e1 := Int.emod_nonneg (i + x.f2) (show m ≠ 0 by omega)
    have e2 := Int.emod_lt_of_pos (i + x.f2) (show 0 < m by omega)
    have f1 := lift_in hn hm hnm x0 x1 h2 (show i < m by omega)
    have f2 := lift_in hn hm hnm x2 x3 e1 e2
    rw [w64 (n := i + x.f2) (by omega) (by omega), tmod_pos (a := i + x.f2) (by omega), w64 (n := x.f0 * m) (by omega) (by omega), w64 (n := x.f1 * m) (by omega) (by omega), w64 (n := x.f0 * m + i) (by omega) (by omega), w64 (n := x.f1 * m + _) (by omega) (by omega)]
    simp only [if_pos (show i < m by omega), if_neg (show ¬ (m = 0) by omega)]
    simp only [arcPairs, irange, List.map_cons, allNew, putNs, List.foldl_cons]
    have hh := spec_l01Has.sp (n * m) rows (x.f0 * m + i) (x.f1 * m + (i + x.f2) % m) (by omega) (by omega) (by omega) (by omega)
    have step : ∀ (b : Bool), (b = true → x.f0 * m + i = x.f1 * m + (i + x.f2) % m ∨ dig (rd rows (x.f0 * m + i)) (x.f1 * m + (i + x.f2) % m).toNat = true) → (b = false → ¬ (x.f0 * m + i = x.f1 * m + (i + x.f2) % m) ∧ dig (rd rows (x.f0 * m + i)) (x.f1 * m + (i + x.f2) % m).toNat = false) →
        Ev (fun q => spec_l03Lift.j2 q g (j : Int) i (x.f0 * m + i) (x.f1 * m + (i + x.f2) % m) b n m l (n * m) rows x.f0 x.f1 x.f2)
          (F (g && (newP rows (x.f0 * m + i, x.f1 * m + (i + x.f2) % m) && allNew (putN rows (x.f0 * m + i, x.f1 * m + (i + x.f2) % m)) ((irange (i + 1) d).map fun i => (x.f0 * m + i, x.f1 * m + (i + x.f2) % m))))
            (((irange (i + 1) d).map fun i => (x.f0 * m + i, x.f1 * m + (i + x.f2) % m)).foldl putN (putN rows (x.f0 * m + i, x.f1 * m + (i + x.f2) % m)))) := by
      intro b hb1 hb2
      refine Ev.step (fun k => spec_l03Lift.j2.eq_2 ..) ?_
      rw [w64 (n := i + 1) (by omega) (by omega)]
      by_cases hb : b = true
      · simp only [if_pos hb]
        have hw : newP rows (x.f0 * m + i, x.f1 * m + (i + x.f2) % m) = false := by
          unfold newP
          rcases hb1 hb with c | c
          · simp [c]
          · simp [c]
        rw [hw]
        have key := fun rows' (hr : ((rows' : List Int).length : Int) = n * m) => ih (i + 1) false rows' hr (by omega) (by omega)
        simp only [Bool.false_and] at key
        simp only [Bool.false_and, Bool.and_false]
        by_cases c : x.f0 * m + i = x.f1 * m + (i + x.f2) % m
        · simp only [if_pos c]
          have hp : putN rows (x.f0 * m + i, x.f1 * m + (i + x.f2) % m) = rows := by unfold putN; rw [if_pos c]
          rw [hp]
          exact key rows h1
        · simp only [if_neg c]
          have hp : putN rows (x.f0 * m + i, x.f1 * m + (i + x.f2) % m) = putE rows (x.f0 * m + i) (x.f1 * m + (i + x.f2) % m) := by unfold putN; rw [if_neg c]
          rw [hp, spec_l01Put.sp _ _ _ _ (by omega) (by omega) (by omega) (by omega) (by omega)]
          simp only [Option.bind_some]
          exact key _ (by rw [putE_length]; exact h1)
      · simp only [if_neg hb]
        obtain ⟨c, c2⟩ := hb2 (by simpa using hb)
        have hw : newP rows (x.f0 * m + i, x.f1 * m + (i + x.f2) % m) = true := by
          unfold newP
          simp [c, c2]
        rw [hw]
        simp only [if_neg c, Bool.true_and]
        have hp : putN rows (x.f0 * m + i, x.f1 * m + (i + x.f2) % m) = putE rows (x.f0 * m + i) (x.f1 * m + (i + x.f2) % m) := by unfold putN; rw [if_neg c]
        rw [hp, spec_l01Put.sp _ _ _ _ (by omega) (by omega) (by omega) (by omega) (by omega)]
        simp only [Option.bind_some]
        exact ih (i + 1) g _ (by rw [putE_length]; exact h1) (by omega) (by omega)
    by_cases c : x.f0 * m + i = x.f1 * m + (i + x.f2) % m
    · simp only [if_pos c]
      exact step true (fun _ => .inl c) (fun a => by cases a)
    · simp only [if_neg c, hh, Option.bind_some]
      exact step _ (fun a => .inr a) (fun a => ⟨c, a⟩)
theorem spec_l03Lift.ev_0 (n m : Int) (l : List S51) (h : BaseOK n m l) (d : Nat) : ∀ (j : Nat) (g : Bool) (rows : List Int), (rows.length : Int) = n * m → j + d = l.length →
    Ev (fun q => spec_l03Lift.l0 q g (j : Int) n m l (n * m) rows) (n * m, putNs rows (liftPairs m (l.drop j)), g && allNew rows (liftPairs m (l.drop j))) := by
  have hm := h.2.2.1
  induction d with
  | zero =>
    intro j g rows h1 h2
    refine Ev.step (fun k => spec_l03Lift.l0.eq_2 ..) ?_
    simp only [if_neg (show ¬ ((j : Int) < (l.length : Int)) by omega)]
    rw [List.drop_eq_nil_of_le (by omega)]
    exact ev_some (by simp [liftPairs, allNew, putNs])
  | succ d ih =>
    intro j g rows h1 h2
    refine Ev.step (fun k => spec_l03Lift.l0.eq_2 ..) ?_
    simp only [if_pos (show (j : Int) < (l.length : Int) by omega), if_pos (show (0 : Int) ≤ (j : Int) by omega)]
    have hx := h.2.2.2.2.2.2 j (by omega) (by omega)
    have := spec_l03Lift.ev_1 n m l h j (by omega) _ hx (fun g rows => (n * m, putNs rows (liftPairs m (l.drop (j + 1))), g && allNew rows (liftPairs m (l.drop (j + 1))))) (fun g rows hr => ih (j + 1) g rows hr (by omega)) m.toNat 0 g rows h1 (by omega) (by omega)
    refine ev_cast this ?_
    rw [List.drop_eq_getElem_cons (show j < l.length by omega), ← rd_iArc (show j < l.length by omega)]
    unfold liftPairs
    rw [List.flatMap_cons, putNs_append, allNew_append, Bool.and_assoc]
theorem spec_l03Lift.ev (n m : Int) (l : List S51) (h : BaseOK n m l) : Ev (fun q => spec_l03Lift.f q n m l) (n * m, putNs (List.replicate (n * m).toNat 0) (liftPairs m l), allNew (List.replicate (n * m).toNat 0) (liftPairs m l)) := by
  unfold spec_l03Lift.f
  have hb := base_mul ⟨h.1, h.2.1⟩ ⟨h.2.2.1, h.2.2.2.1⟩
  rw [w64 (n := n * m) (by omega) (by omega), spec_l01Empty.sp _ (by omega) (by omega)]
  have := spec_l03Lift.ev_0 n m l h l.length 0 true (List.replicate (n * m).toNat 0) (by rw [List.length_replicate]; omega) (by omega)
  rw [List.drop_zero, Bool.true_and] at this
  exact this

/-! ### the set bits of a number, in order -/
theorem bits_TrailingZeros64.sp {x : Nat} (h : x < 2 ^ 63) : bits_TrailingZeros64.f (IntKind.u64.wrap (x : Int)) = some ((Lib.ctz 64 x : Nat) : Int) := by
  unfold bits_TrailingZeros64.f
  rw [u64 (by omega) (by omega), if_pos (by omega), if_pos (by omega), Int.toNat_natCast]
def bitsFrom : Nat → Nat → Int → List Int
  | 0, _, _ => []
  | d + 1, i, r => if dig r i = true then (i : Int) :: bitsFrom d (i + 1) r else bitsFrom d (i + 1) r
theorem bitsFrom_length (r : Int) (d : Nat) : ∀ i, (bitsFrom d i r).length ≤ d := by
  induction d with
  | zero => intro i; simp [bitsFrom]
  | succ d ih =>
    intro i
    have := ih (i + 1)
    simp only [bitsFrom]
    split
    · simp only [List.length_cons]; omega
    · omega
theorem mem_bitsFrom {r : Int} {d : Nat} : ∀ {i : Nat} {x : Int}, x ∈ bitsFrom d i r ↔ ∃ j : Nat, x = (j : Int) ∧ i ≤ j ∧ j < i + d ∧ dig r j = true := by
  induction d with
  | zero =>
    intro i x
    simp only [bitsFrom, List.not_mem_nil, false_iff]
    rintro ⟨j, _, a, b, _⟩; omega
  | succ d ih =>
    intro i x
    simp only [bitsFrom]
    split
    · rename_i c
      rw [List.mem_cons, ih]
      constructor
      · rintro (rfl | ⟨j, a, b, e, g⟩)
        · exact ⟨i, rfl, by omega, by omega, c⟩
        · exact ⟨j, a, by omega, by omega, g⟩
      · rintro ⟨j, a, b, e, g⟩
        by_cases h : j = i
        · exact .inl (by rw [a, h])
        · exact .inr ⟨j, a, by omega, by omega, g⟩
    · rename_i c
      rw [ih]
      constructor
      · rintro ⟨j, a, b, e, g⟩; exact ⟨j, a, by omega, by omega, g⟩
      · rintro ⟨j, a, b, e, g⟩
        refine ⟨j, a, ?_, by omega, g⟩
        rcases Nat.lt_or_ge i j with h | h
        · omega
        · exact absurd (show dig r i = true by rw [show i = j by omega]; exact g) c
theorem bitsFrom_congr {r s : Int} {d : Nat} : ∀ {i : Nat}, (∀ j, i ≤ j → j < i + d → dig r j = dig s j) → bitsFrom d i r = bitsFrom d i s := by
  induction d with
  | zero => intro i _; rfl
  | succ d ih =>
    intro i h
    simp only [bitsFrom]
    rw [h i (by omega) (by omega), ih (i := i + 1) fun j a b => h j (by omega) (by omega)]
/-- The lowest bit struck. -/
theorem low_bit {x i : Nat} (h1 : x.testBit i = true) (h0 : ∀ j, j < i → x.testBit j = false) (hx : x < 2 ^ 63) : Lib.ctz 64 x = i ∧ ∀ j, (x &&& (x - 1)).testBit j = (x.testBit j && decide (j ≠ i)) := by
  have x0 : x ≠ 0 := fun a => by rw [a] at h1; simp at h1
  obtain ⟨m, hm, hk⟩ := Lib.ctzFrom_spec 64 x (by omega) (by omega)
  have e : Lib.ctz 64 x = Lib.ctzFrom 64 x := by unfold Lib.ctz; rw [if_neg x0]
  generalize Lib.ctzFrom 64 x = k at hm hk e
  have hp := Nat.two_pow_pos k
  have ex : x = 2 ^ (k + 1) * m + 2 ^ k := by rw [hm, Nat.pow_succ, Nat.mul_add, Nat.mul_one, Nat.mul_assoc]
  have hlt : 2 ^ k < 2 ^ (k + 1) := Nat.pow_lt_pow_right (by decide) (by omega)
  have ex1 : x - 1 = 2 ^ (k + 1) * m + (2 ^ k - 1) := by rw [ex]; omega
  have b : ∀ j, x.testBit j = if j < k + 1 then decide (k = j) else m.testBit (j - (k + 1)) := fun j => by
    rw [ex, Nat.testBit_two_pow_mul_add _ hlt, Nat.testBit_two_pow]
  have b1 : ∀ j, (x - 1).testBit j = if j < k + 1 then decide (j < k) else m.testBit (j - (k + 1)) := fun j => by
    rw [ex1, Nat.testBit_two_pow_mul_add _ (by omega), Nat.testBit_two_pow_sub_one]
  have ik : k = i := by
    rcases Nat.lt_trichotomy k i with h | h | h
    · have := h0 k h
      rw [b k, if_pos (by omega)] at this
      simp at this
    · exact h
    · have := h1
      rw [b i, if_pos (by omega)] at this
      simp at this
      omega
  subst ik
  refine ⟨e, fun j => ?_⟩
  rw [Nat.testBit_and, b j, b1 j]
  by_cases c : j < k + 1
  · rw [if_pos c, if_pos c]
    by_cases d : k = j
    · subst d; simp
    · simp [d]
  · rw [if_neg c, if_neg c]
    have : j ≠ k := by omega
    simp [this]

theorem impl_list.ev_l (n : Nat) (hn : n ≤ 62) (d : Nat) : ∀ (i x : Nat) (acc : List Int), i + d = n → x < 2 ^ n → acc.length ≤ i → (∀ j, j < i → x.testBit j = false) →
    Ev (fun q => impl_list.l0 q (x : Int) acc) (acc ++ bitsFrom d i (x : Int)) := by
  have hp := pow62 hn
  induction d with
  | zero =>
    intro i x acc e hx ha h
    have x0 : x = 0 := by
      refine Nat.eq_of_testBit_eq fun j => ?_
      rw [Nat.zero_testBit]
      rcases Nat.lt_or_ge j n with c | c
      · exact h j (by omega)
      · exact Nat.testBit_lt_two_pow (Nat.lt_of_lt_of_le hx (Nat.pow_le_pow_right (by decide) c))
    refine Ev.step (fun k => impl_list.l0.eq_2 ..) ?_
    rw [x0]
    simp only [if_pos (show ((0 : Nat) : Int) = 0 from rfl), bitsFrom, List.append_nil]
    exact Ev.now _
  | succ d ih =>
    intro i x acc e hx ha h
    by_cases c : x.testBit i = true
    · obtain ⟨h1, h2⟩ := low_bit c h (by omega)
      have x0 : x ≠ 0 := fun a => by rw [a] at c; simp at c
      refine Ev.step (fun k => impl_list.l0.eq_2 ..) ?_
      rw [bits_TrailingZeros64.sp (by omega), h1, w64 (by omega) (by omega), show (x : Int) - 1 = ((x - 1 : Nat) : Int) by omega, bit_and _ _ (by omega) (by omega)]
      simp only [if_neg (show ¬ ((x : Int) = 0) by omega), Option.bind_some, if_pos (show acc.length < 17592186044416 by omega)]
      have := ih (i + 1) (x &&& (x - 1)) (acc ++ [(i : Int)]) (by omega) (Nat.lt_of_le_of_lt Nat.and_le_left hx) (by rw [List.length_append]; simp only [List.length_cons, List.length_nil]; omega) (fun j hj => by
        rw [h2 j]
        rcases Nat.lt_succ_iff_lt_or_eq.1 hj with a | rfl
        · rw [h j a]; rfl
        · simp)
      refine ev_cast this ?_
      have cd : dig (x : Int) i = true := by rw [dig_nat]; exact c
      simp only [bitsFrom, if_pos cd, List.append_assoc, List.singleton_append]
      rw [bitsFrom_congr fun j a b => ?_]
      rw [dig_nat, dig_nat, h2 j]
      simp [show j ≠ i by omega]
    · have cd : ¬ dig (x : Int) i = true := by rw [dig_nat]; exact c
      simp only [bitsFrom, if_neg cd]
      refine ih (i + 1) x acc (by omega) hx (by omega) fun j hj => ?_
      rcases Nat.lt_succ_iff_lt_or_eq.1 hj with a | rfl
      · exact h j a
      · simpa using c
theorem impl_list.ev {n : Nat} (hn : n ≤ 62) {x : Nat} (hx : x < 2 ^ n) : Ev (fun q => impl_list.f q (x : Int)) (bitsFrom n 0 (x : Int)) := by
  unfold impl_list.f
  exact impl_list.ev_l n hn n 0 x [] (by omega) hx (by simp) (fun j hj => by omega)

/-! ### ways in a graph -/
inductive Way (rows : List Int) (n : Nat) (u : Nat) : Nat → Prop
  | refl : Way rows n u u
  | step {v w : Nat} : Way rows n u v → v < n → w < n → Adj rows v w → Way rows n u w
theorem Way.lt {rows : List Int} {n u w : Nat} (h : Way rows n u w) (hu : u < n) : w < n := by
  cases h with
  | refl => exact hu
  | step _ _ b _ => exact b
theorem Way.trans {rows : List Int} {n u v w : Nat} (h : Way rows n u v) (k : Way rows n v w) : Way rows n u w := by
  induction k with
  | refl => exact h
  | step _ a b c ih => exact .step ih a b c
theorem Way.symm {rows : List Int} {n : Int} (g : IsG n rows) {u v : Nat} (h : Way rows n.toNat u v) : Way rows n.toNat v u := by
  induction h with
  | refl => exact .refl
  | step _ a b c ih => exact (Way.step .refl b a ((g.symm a b).1 c)).trans ih
theorem IsG_row {n : Int} {rows : List Int} (h : IsG n rows) {v : Int} (h0 : 0 ≤ v) (h1 : v < n) : ∃ x : Nat, rd rows v = (x : Int) ∧ x < 2 ^ n.toNat := by
  obtain ⟨u, rfl⟩ := Int.eq_ofNat_of_zero_le h0
  obtain ⟨a, b, _⟩ := h.2.2.2.1 u h1
  obtain ⟨x, hx⟩ := Int.eq_ofNat_of_zero_le a
  exact ⟨x, hx, by rw [hx] at b; exact_mod_cast b⟩
/-- A set that holds v, is closed, and holds none but what v reaches, is what v reaches. -/
theorem closed_way {rows : List Int} {n v : Nat} {P : Nat → Prop} (h0 : P v) (h1 : ∀ x y, x < n → y < n → P x → Adj rows x y → P y) : ∀ w, Way rows n v w → P w := by
  intro w h
  induction h with
  | refl => exact h0
  | step _ a b c ih => exact h1 _ _ a b ih c

/-- The edges of the vertices from v on, smaller end first. -/
def edgesFrom (rows : List Int) (n : Nat) : Nat → Nat → List (List Int)
  | 0, _ => []
  | d + 1, v => ((bitsFrom n 0 (rd rows (v : Int))).filter fun x => decide ((v : Int) < x)).map (fun x => [(v : Int), x]) ++ edgesFrom rows n d (v + 1)
theorem impl_Graph_edges.ev_1 {n : Int} {rows : List Int} (v : Nat) (hv : v ≤ 62) (T : List Int) (hT : T.length ≤ 62) (R : List (List Int)) (d : Nat) : ∀ (i : Nat) (acc : List (List Int)), i + d = T.length → acc.length ≤ 62 * v + i →
    (∀ acc', acc' = acc ++ ((T.drop i).filter fun x => decide ((v : Int) < x)).map (fun x => [(v : Int), x]) → acc'.length ≤ 62 * (v + 1) → Ev (fun q => impl_Graph_edges.l0 q acc' n ((v : Int) + 1) n rows) R) →
    Ev (fun q => impl_Graph_edges.l1 q acc (v : Int) n (v : Int) T (T.length : Int) (i : Int) n rows) R := by
  induction d with
  | zero =>
    intro i acc e ha next
    refine Ev.step (fun k => impl_Graph_edges.l1.eq_2 ..) ?_
    simp only [if_neg (show ¬ ((i : Int) < (T.length : Int)) by omega)]
    rw [w64 (by omega) (by omega)]
    refine next acc ?_ (by omega)
    rw [List.drop_eq_nil_of_le (by omega)]; simp
  | succ d ih =>
    intro i acc e ha next
    refine Ev.step (fun k => impl_Graph_edges.l1.eq_2 ..) ?_
    simp only [if_pos (show (i : Int) < (T.length : Int) by omega), if_pos (show (0 : Int) ≤ (i : Int) by omega)]
    rw [w64 (by omega) (by omega)]
    by_cases c : rd T (i : Int) > (v : Int)
    · simp only [if_pos c, if_pos (show acc.length < 5864062014805 by omega)]
      refine ih (i + 1) _ (by omega) (by rw [List.length_append]; simp only [List.length_cons, List.length_nil]; omega) fun acc' h1 h2 => next acc' ?_ h2
      rw [h1, drop_rd T i (by omega), List.filter_cons, if_pos (by simpa using c), List.map_cons, List.append_assoc, List.singleton_append]
    · simp only [if_neg c]
      refine ih (i + 1) _ (by omega) (by omega) fun acc' h1 h2 => next acc' ?_ h2
      rw [h1, drop_rd T i (by omega), List.filter_cons, if_neg (by simpa using c)]
theorem impl_Graph_edges.ev_0 {n : Int} {rows : List Int} (g : IsG n rows) (d : Nat) : ∀ (v : Nat) (acc : List (List Int)), v + d = n.toNat → acc.length ≤ 62 * v →
    Ev (fun q => impl_Graph_edges.l0 q acc n (v : Int) n rows) (acc ++ edgesFrom rows n.toNat d v) := by
  have hn := g.le
  have h1 := g.1
  have hl := g.len
  induction d with
  | zero =>
    intro v acc e ha
    refine Ev.step (fun k => impl_Graph_edges.l0.eq_2 ..) ?_
    simp only [if_neg (show ¬ ((v : Int) < n) by omega), edgesFrom, List.append_nil]
    exact Ev.now _
  | succ d ih =>
    intro v acc e ha
    refine Ev.step (fun k => impl_Graph_edges.l0.eq_2 ..) ?_
    simp only [if_pos (show (v : Int) < n by omega), if_pos (show (0 : Int) ≤ (v : Int) by omega), if_pos (show (v : Int) < (rows.length : Int) by omega)]
    obtain ⟨x, hx, hx1⟩ := IsG_row g (v := (v : Int)) (by omega) (by omega)
    rw [hx]
    refine Ev.bind (impl_list.ev hn hx1) ?_
    have hb := bitsFrom_length (x : Int) n.toNat 0
    refine impl_Graph_edges.ev_1 v (by omega) (bitsFrom n.toNat 0 (x : Int)) (by omega) _ (bitsFrom n.toNat 0 (x : Int)).length 0 acc (by omega) (by omega) fun acc' e1 e2 => ?_
    refine ev_cast (ih (v + 1) acc' (by omega) e2) ?_
    rw [e1, edgesFrom, hx, List.drop_zero, List.append_assoc]
theorem impl_Graph_edges.ev {n : Int} {rows : List Int} (g : IsG n rows) : Ev (fun q => impl_Graph_edges.f q n rows) (edgesFrom rows n.toNat n.toNat 0) := by
  unfold impl_Graph_edges.f
  exact impl_Graph_edges.ev_0 g n.toNat 0 [] (by omega) (by simp)
/-! ### the number of edges -/
def sumF : Nat → Nat → (Nat → Nat) → Nat
  | 0, _, _ => 0
  | d + 1, i, f => f i + sumF d (i + 1) f
theorem sumF_congr {f g : Nat → Nat} (d : Nat) : ∀ {i : Nat}, (∀ j, i ≤ j → j < i + d → f j = g j) → sumF d i f = sumF d i g := by
  induction d with
  | zero => intro i _; rfl
  | succ d ih =>
    intro i h
    simp only [sumF]
    rw [h i (by omega) (by omega), ih (i := i + 1) fun j a b => h j (by omega) (by omega)]
theorem sumF_one {f g : Nat → Nat} {x : Nat} (hx : g x = f x + 1) (d : Nat) : ∀ {i : Nat}, i ≤ x → x < i + d → (∀ j, i ≤ j → j < i + d → j ≠ x → f j = g j) → sumF d i g = sumF d i f + 1 := by
  induction d with
  | zero => intro i a b; omega
  | succ d ih =>
    intro i a b h
    simp only [sumF]
    by_cases c : i = x
    · subst c
      rw [hx, sumF_congr d (f := f) (g := g) (i := i + 1) fun j p q => h j (by omega) (by omega) (by omega)]
      omega
    · rw [h i (by omega) (by omega) c, ih (i := i + 1) (by omega) (by omega) fun j p q r => h j (by omega) (by omega) r]
      omega
theorem sumF_zero {f : Nat → Nat} (d : Nat) : ∀ {i : Nat}, (∀ j, i ≤ j → j < i + d → f j = 0) → sumF d i f = 0 := by
  induction d with
  | zero => intro i _; rfl
  | succ d ih =>
    intro i h
    simp only [sumF]
    rw [h i (by omega) (by omega), ih (i := i + 1) fun j a b => h j (by omega) (by omega)]
/-- Is the edge v, w there, v the smaller end? -/
def one (rows : List Int) (v w : Nat) : Nat := if dig (rd rows (v : Int)) w = true ∧ v < w then 1 else 0
def ecnt (rows : List Int) (n : Nat) : Nat := sumF n 0 fun v => sumF n 0 (one rows v)
theorem filter_sum (rows : List Int) (v : Nat) (d : Nat) : ∀ i, ((bitsFrom d i (rd rows (v : Int))).filter fun x => decide ((v : Int) < x)).length = sumF d i (one rows v) := by
  induction d with
  | zero => intro i; rfl
  | succ d ih =>
    intro i
    simp only [bitsFrom, sumF, one]
    by_cases c : dig (rd rows (v : Int)) i = true
    · by_cases e : v < i
      · rw [if_pos c, if_pos ⟨c, e⟩, List.filter_cons, if_pos (by simp; omega), List.length_cons, ih]
        omega
      · rw [if_pos c, if_neg (fun a => e a.2), List.filter_cons, if_neg (by simp; omega), ih]
        omega
    · rw [if_neg c, if_neg (fun a => c a.1), ih]
      omega
theorem edgesFrom_length (rows : List Int) (n : Nat) (d : Nat) : ∀ v, (edgesFrom rows n d v).length = sumF d v fun v => sumF n 0 (one rows v) := by
  induction d with
  | zero => intro v; rfl
  | succ d ih =>
    intro v
    simp only [edgesFrom, sumF, List.length_append, List.length_map, filter_sum, ih]

/-- Edges put in, whose ends lie below N. -/
theorem putNs_gr {N : Nat} (hN : N ≤ 62) (ps : List (Int × Int)) : ∀ (E : Nat → Nat → Prop), (∀ p ∈ ps, 0 ≤ p.1 ∧ p.1 < N ∧ 0 ≤ p.2 ∧ p.2 < N) → (∀ v w, E v w ↔ E w v) → (∀ v, ¬ E v v) →
    ∃ F : Nat → Nat → Prop, putNs (gr N E) ps = gr N F ∧ (∀ v w, F v w ↔ F w v) ∧ ∀ v, ¬ F v v := by
  induction ps with
  | nil => intro E _ h1 h2; exact ⟨E, rfl, h1, h2⟩
  | cons p ps ih =>
    intro E hp h1 h2
    obtain ⟨a, b⟩ := p
    obtain ⟨a0, a1, b0, b1⟩ := hp (a, b) (by simp)
    simp only at a0 a1 b0 b1
    have hps : ∀ p ∈ ps, 0 ≤ p.1 ∧ p.1 < N ∧ 0 ≤ p.2 ∧ p.2 < N := fun p h => hp p (by simp [h])
    show ∃ F : Nat → Nat → Prop, putNs (putN (gr N E) (a, b)) ps = gr N F ∧ _
    by_cases c : a = b
    · have : putN (gr N E) (a, b) = gr N E := by unfold putN; rw [if_pos c]
      rw [this]; exact ih E hps h1 h2
    · obtain ⟨x, rfl⟩ := Int.eq_ofNat_of_zero_le a0
      obtain ⟨y, rfl⟩ := Int.eq_ofNat_of_zero_le b0
      have : putN (gr N E) ((x : Int), (y : Int)) = putE (gr N E) (x : Int) (y : Int) := by unfold putN; rw [if_neg c]
      rw [this, gr_put hN (by omega) (by omega)]
      refine ih _ hps (fun v w => ?_) (fun v => ?_)
      · have := h1 v w
        constructor
        · rintro (h | h | h)
          · exact .inl (this.1 h)
          · exact .inr (.inr ⟨h.2, h.1⟩)
          · exact .inr (.inl ⟨h.2, h.1⟩)
        · rintro (h | h | h)
          · exact .inl (this.2 h)
          · exact .inr (.inr ⟨h.2, h.1⟩)
          · exact .inr (.inl ⟨h.2, h.1⟩)
      · rintro (h | h | h)
        · exact h2 v h
        · omega
        · omega
theorem liftPairs_in {n m : Int} {l : List S51} (h : BaseOK n m l) : ∀ p ∈ liftPairs m l, 0 ≤ p.1 ∧ p.1 < n * m ∧ 0 ≤ p.2 ∧ p.2 < n * m := by
  intro p hp
  have hn := And.intro h.1 h.2.1
  have hm := And.intro h.2.2.1 h.2.2.2.1
  have hnm := h.2.2.2.2.1
  obtain ⟨x, hx, hp2⟩ := List.mem_flatMap.1 hp
  obtain ⟨j, hj, rfl⟩ := List.mem_iff_getElem.1 hx
  obtain ⟨x0, x1, x2, x3, x4, x5⟩ := h.2.2.2.2.2.2 j (by omega) hj
  rw [rd_iArc hj] at x0 x1 x2 x3 x4 x5
  obtain ⟨i, hi, rfl⟩ := List.mem_map.1 hp2
  rw [mem_irange] at hi
  have e1 := Int.emod_nonneg (i + l[j].f2) (show m ≠ 0 by omega)
  have e2 := Int.emod_lt_of_pos (i + l[j].f2) (show 0 < m by omega)
  have f1 := lift_in hn hm hnm x0 x1 (i := i) (by omega) (by omega)
  have f2 := lift_in hn hm hnm x2 x3 e1 e2
  simp only
  omega
/-- The rows of the lift. -/
def liftG (n m : Int) (l : List S51) : List Int := putNs (List.replicate (n * m).toNat 0) (liftPairs m l)
theorem liftG_isG {n m : Int} {l : List S51} (h : BaseOK n m l) : IsG (n * m) (liftG n m l) := by
  have hnm := h.2.2.2.2.1
  have hpos : 1 ≤ n * m := by
    have := Int.mul_le_mul (a := 1) (b := 1) (c := n) (d := m) h.1 h.2.2.1 (by omega) (by have := h.1; omega)
    omega
  unfold liftG
  rw [gr_empty]
  obtain ⟨F, e, f1, f2⟩ := putNs_gr (N := (n * m).toNat) (by omega) (liftPairs m l) (fun _ _ => False) (fun p hp => by have := liftPairs_in h p hp; omega) (fun _ _ => Iff.rfl) (fun _ => id)
  rw [e]
  have := IsG.of_gr (n := (n * m).toNat) (by omega) (by omega) (fun v w _ _ => f1 v w) (fun v _ => f2 v)
  rw [show (((n * m).toNat : Nat) : Int) = n * m by omega] at this
  exact this

theorem one_gr {N : Nat} {E : Nat → Nat → Prop} {v w : Nat} (hv : v < N) (hw : w < N) : one (gr N E) v w = if E v w ∧ v < w then 1 else 0 := by
  unfold one
  rw [gr_dig hv hw]
  by_cases c : E v w <;> simp [c]
theorem ecnt_put {N : Nat} (hN : N ≤ 62) {E : Nat → Nat → Prop} (hs : ∀ v w, E v w ↔ E w v) {a b : Nat} (ha : a < N) (hb : b < N) (hab : a ≠ b) (hE : ¬ E a b) : ecnt (putE (gr N E) (a : Int) (b : Int)) N = ecnt (gr N E) N + 1 := by
  rw [gr_put hN ha hb]
  unfold ecnt
  -- the smaller and the larger end
  have key : ∀ x y, x < N → y < N → x < y → ((x = a ∧ y = b) ∨ (x = b ∧ y = a)) →
      sumF N 0 (fun v => sumF N 0 (one (gr N fun v w => E v w ∨ (v = a ∧ w = b) ∨ (v = b ∧ w = a)) v)) = sumF N 0 (fun v => sumF N 0 (one (gr N E) v)) + 1 := by
    intro x y hx hy hxy h
    have nE : ¬ E x y := by
      rcases h with ⟨rfl, rfl⟩ | ⟨rfl, rfl⟩
      · exact hE
      · exact fun z => hE ((hs _ _).1 z)
    have other : ∀ v w, v < N → w < N → ¬ (v = x ∧ w = y) → one (gr N E) v w = one (gr N fun v w => E v w ∨ (v = a ∧ w = b) ∨ (v = b ∧ w = a)) v w := by
      intro v w hv hw ne
      rw [one_gr hv hw, one_gr hv hw]
      have k : (E v w ∧ v < w) ↔ ((E v w ∨ (v = a ∧ w = b) ∨ (v = b ∧ w = a)) ∧ v < w) := ⟨fun z => ⟨.inl z.1, z.2⟩, fun z => ⟨by
        rcases z.1 with q | q | q
        · exact q
        · exfalso; have := z.2; rcases h with r | r <;> omega
        · exfalso; have := z.2; rcases h with r | r <;> omega, z.2⟩⟩
      by_cases z : E v w ∧ v < w
      · rw [if_pos z, if_pos (k.1 z)]
      · rw [if_neg z, if_neg fun q => z (k.2 q)]
    refine sumF_one (x := x) ?_ N (by omega) (by omega) fun v _ hv ne => sumF_congr N fun w _ hw => other v w (by omega) (by omega) fun z => ne z.1
    refine sumF_one (x := y) ?_ N (by omega) (by omega) fun w _ hw ne => other x w hx (by omega) fun z => ne z.2
    rw [one_gr hx hy, one_gr hx hy, if_pos (show (E x y ∨ (x = a ∧ y = b) ∨ (x = b ∧ y = a)) ∧ x < y from ⟨.inr (by omega), hxy⟩), if_neg fun z => nE z.1]
  rcases Nat.lt_or_gt_of_ne hab with h | h
  · exact key a b ha hb h (.inl ⟨rfl, rfl⟩)
  · exact key b a hb ha h (.inr ⟨rfl, rfl⟩)
theorem ecnt_putNs {N : Nat} (hN : N ≤ 62) (ps : List (Int × Int)) : ∀ (E : Nat → Nat → Prop), (∀ p ∈ ps, 0 ≤ p.1 ∧ p.1 < N ∧ 0 ≤ p.2 ∧ p.2 < N) → (∀ v w, E v w ↔ E w v) →
    ecnt (putNs (gr N E) ps) N ≤ ecnt (gr N E) N + ps.length ∧ (ecnt (putNs (gr N E) ps) N = ecnt (gr N E) N + ps.length ↔ allNew (gr N E) ps = true) := by
  induction ps with
  | nil => intro E _ _; exact ⟨Nat.le_refl _, fun _ => rfl, fun _ => rfl⟩
  | cons p ps ih =>
    intro E hp h1
    obtain ⟨a, b⟩ := p
    obtain ⟨a0, a1, b0, b1⟩ := hp (a, b) (by simp)
    simp only at a0 a1 b0 b1
    have hps : ∀ p ∈ ps, 0 ≤ p.1 ∧ p.1 < N ∧ 0 ≤ p.2 ∧ p.2 < N := fun p h => hp p (by simp [h])
    show ecnt (putNs (putN (gr N E) (a, b)) ps) N ≤ _ ∧ _
    obtain ⟨x, rfl⟩ := Int.eq_ofNat_of_zero_le a0
    obtain ⟨y, rfl⟩ := Int.eq_ofNat_of_zero_le b0
    have hx : x < N := by omega
    have hy : y < N := by omega
    have e0 : putNs (gr N E) (((x : Int), (y : Int)) :: ps) = putNs (putN (gr N E) ((x : Int), (y : Int))) ps := rfl
    have hd : newP (gr N E) ((x : Int), (y : Int)) = !(decide (x = y) || decide (E x y)) := by
      unfold newP
      simp only [Int.toNat_natCast, gr_dig hx hy]
      congr 2
      exact decide_eq_decide.2 (by omega)
    rw [e0, List.length_cons]
    simp only [allNew, hd]
    by_cases c : x = y
    · have : putN (gr N E) ((x : Int), (y : Int)) = gr N E := by unfold putN; rw [if_pos (by rw [c])]
      rw [this]
      have k := (ih E hps h1).1
      refine ⟨by omega, fun z => by omega, fun z => ?_⟩
      simp [c] at z
    · have pe : putN (gr N E) ((x : Int), (y : Int)) = putE (gr N E) (x : Int) (y : Int) := by unfold putN; rw [if_neg (by simp only; omega)]
      by_cases d : E x y
      · have : putN (gr N E) ((x : Int), (y : Int)) = gr N E := by
          rw [pe, gr_put hN hx hy]
          refine gr_congr fun v w _ _ => ⟨?_, .inl⟩
          rintro (q | ⟨rfl, rfl⟩ | ⟨rfl, rfl⟩)
          · exact q
          · exact d
          · exact (h1 _ _).1 d
        rw [this]
        have k := (ih E hps h1).1
        refine ⟨by omega, fun z => by omega, fun z => ?_⟩
        simp [d] at z
      · have k0 := ecnt_put hN h1 hx hy c d
        rw [pe]
        rw [gr_put hN hx hy] at k0 ⊢
        have k := ih (fun v w => E v w ∨ (v = x ∧ w = y) ∨ (v = y ∧ w = x)) hps fun v w => by
          constructor
          · rintro (h | h | h)
            · exact .inl ((h1 v w).1 h)
            · exact .inr (.inr ⟨h.2, h.1⟩)
            · exact .inr (.inl ⟨h.2, h.1⟩)
          · rintro (h | h | h)
            · exact .inl ((h1 v w).2 h)
            · exact .inr (.inr ⟨h.2, h.1⟩)
            · exact .inr (.inl ⟨h.2, h.1⟩)
        refine ⟨by have := k.1; omega, ?_⟩
        have e : (!(decide (x = y) || decide (E x y))) = true := by simp [c, d]
        rw [e, Bool.true_and, ← k.2]
        omega
theorem irange_length (d : Nat) : ∀ i, (irange i d).length = d := by
  induction d with
  | zero => intro i; rfl
  | succ d ih => intro i; simp only [irange, List.length_cons, ih]
theorem liftPairs_length (m : Int) (l : List S51) : (liftPairs m l).length = l.length * m.toNat := by
  induction l with
  | nil => simp [liftPairs]
  | cons x l ih =>
    have : liftPairs m (x :: l) = arcPairs m x 0 m.toNat ++ liftPairs m l := by simp [liftPairs]
    rw [this, List.length_append, ih, List.length_cons, Nat.add_mul, Nat.one_mul]
    simp only [arcPairs, List.length_map, irange_length]
    omega
noncomputable def faithR (n m : Int) (l : List S51) : Bool × Int := if BaseOK n m l then (allNew (List.replicate (n * m).toNat 0) (liftPairs m l), 0) else (false, 1)
theorem spec_IsFaithful.ev (n m : Int) (l : List S51) : Ev (fun q => spec_IsFaithful.f q n m l) (faithR n m l) := by
  unfold spec_IsFaithful.f faithR
  refine Ev.bind (spec_l03Is.ev n m l) ?_
  by_cases h : BaseOK n m l
  · simp only [h, decide_true, if_true]
    exact Ev.bind (spec_l03Lift.ev n m l h) (Ev.now _)
  · simp only [h, decide_false, Bool.false_eq_true, if_false]
    exact Ev.now _
theorem impl_IsFaithful.ev (n m : Int) (l : List S51) : Ev (fun q => impl_IsFaithful.f q n m l) (faithR n m l) := by
  unfold impl_IsFaithful.f faithR
  simp only [impl_IsBase.sp, Option.bind_some]
  by_cases h : BaseOK n m l
  · simp only [h, decide_true, if_true]
    refine Ev.bind (impl_lift.ev n m l h) ?_
    refine Ev.bind (impl_Graph_edges.ev (liftG_isG h)) ?_
    refine ev_some ?_
    have hm := h.2.2.1
    have hm1 := h.2.2.2.1
    have hl := h.2.2.2.2.2.1
    have hnm := h.2.2.2.2.1
    have hlm : 0 ≤ (l.length : Int) * m ∧ (l.length : Int) * m ≤ 16 * 62 := ⟨Int.mul_nonneg (by omega) (by omega), Int.mul_le_mul (by omega) hm1 (by omega) (by omega)⟩
    rw [w64 (by omega) (by omega), edgesFrom_length]
    have k := (ecnt_putNs (N := (n * m).toNat) (by omega) (liftPairs m l) (fun _ _ => False) (fun p hp => by have := liftPairs_in h p hp; omega) (fun _ _ => Iff.rfl)).2
    have z : ecnt (gr (n * m).toNat fun _ _ => False) (n * m).toNat = 0 := sumF_zero _ fun v _ hv => sumF_zero _ fun w _ hw => by rw [one_gr (by omega) (by omega)]; simp
    rw [z, Nat.zero_add, ← gr_empty, liftPairs_length] at k
    unfold ecnt at k
    dsimp only
    generalize sumF (n * m).toNat 0 (fun v => sumF (n * m).toNat 0 (one (putNs (List.replicate (n * m).toNat 0) (liftPairs m l)) v)) = t at k ⊢
    have em : (l.length : Int) * m = ((l.length * m.toNat : Nat) : Int) := by rw [Int.natCast_mul, Int.toNat_of_nonneg (by omega)]
    rw [em]
    congr 1
    by_cases c : allNew (List.replicate (n * m).toNat 0) (liftPairs m l) = true
    · rw [c, k.2 c]; simp
    · have c' : allNew (List.replicate (n * m).toNat 0) (liftPairs m l) = false := by simpa using c
      rw [c', beq_eq_false_iff_ne]
      exact fun a => c (k.1 (by exact_mod_cast a))
  · simp only [h, decide_false, Bool.false_eq_true, if_false]
    exact Ev.now _

theorem laws_eqArcS.ev_l (l : List S51) (hl : l.length ≤ 281474976710656) (d : Nat) : ∀ (i : Nat), i + d = l.length → Ev (fun k => laws_eqArcS.l0 k l l (i : Int)) true := by
  induction d with
  | zero =>
    intro i h3
    refine Ev.step (fun k => laws_eqArcS.l0.eq_2 ..) ?_
    simp only [if_neg (show ¬ ((i : Int) < (l.length : Int)) by omega)]
    exact Ev.now _
  | succ d ih =>
    intro i h3
    refine Ev.step (fun k => laws_eqArcS.l0.eq_2 ..) ?_
    unfold laws_eqArc.f
    simp only [if_pos (show (i : Int) < (l.length : Int) by omega), if_pos (show (0 : Int) ≤ (i : Int) by omega), if_true, Option.bind_some]
    rw [w64 (by omega) (by omega)]
    exact ih (i + 1) (by omega)
theorem laws_eqArcS.ev (l : List S51) (hl : l.length ≤ 281474976710656) : Ev (fun k => laws_eqArcS.f k l l) true := by
  unfold laws_eqArcS.f
  simp only [if_true]
  exact laws_eqArcS.ev_l l hl l.length 0 (by omega)

theorem laws_eqBase.ev (n m : Int) (l : List S51) (hl : l.length ≤ 281474976710656) : Ev (fun k => laws_eqBase.f k n m l n m l) true := by
  unfold laws_eqBase.f
  simp only [if_true]
  exact Ev.bind (laws_eqArcS.ev l hl) (Ev.now _)

end Go.Proofs.YtdieobmhmkdjmaaDoor.XFnExactIsFaithful
