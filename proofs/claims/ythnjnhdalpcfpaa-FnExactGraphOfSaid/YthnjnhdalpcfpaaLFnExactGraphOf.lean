/- What the functions that FnExactGraphOf reaches compute. -/
import Derived.Test.YthnjnhdalpcfpaaXFnExactGraphOfx0
import Derived.Test.YthnjnhdalpcfpaaXFnExactGraphOfx1
import Derived.Test.YthnjnhdalpcfpaaXFnExactGraphOfx2
import Derived.Test.YthnjnhdalpcfpaaXFnExactGraphOfx3
import Derived.Test.YthnjnhdalpcfpaaXFnExactGraphOfx4
import Derived.Test.YthnjnhdalpcfpaaXFnExactGraphOfx5
import Derived.Test.YthnjnhdalpcfpaaXFnExactGraphOfx6
import Derived.Test.YthnjnhdalpcfpaaGr
namespace Go.Proofs.Ythnjnhdalpcfpaa.XFnExactGraphOf
open Go.RowKit Go.Proofs.YthnjnhdalpcfpaaW.PrintWords Go.Proofs.YthnjnhdalpcfpaaW.PrintLast Go.Proofs.Ythnjnhdalpcfpaa.B
open Classical
set_option linter.unusedVariables false
set_option linter.unusedSimpArgs false
set_option linter.unusedSectionVars false

theorem laws_eqInt64S.ev_l (l : List Int) (hl : l.length ≤ 281474976710656) (d : Nat) : ∀ (i : Nat), i + d = l.length → Ev (fun k => laws_eqInt64S.l0 k l l (i : Int)) true := by
  induction d with
  | zero =>
    intro i h3
    refine Ev.step (fun k => laws_eqInt64S.l0.eq_2 ..) ?_
    simp only [if_neg (show ¬ ((i : Int) < (l.length : Int)) by omega)]
    exact Ev.now _
  | succ d ih =>
    intro i h3
    refine Ev.step (fun k => laws_eqInt64S.l0.eq_2 ..) ?_
    simp only [if_pos (show (i : Int) < (l.length : Int) by omega), if_pos (show (0 : Int) ≤ (i : Int) by omega), if_true]
    rw [w64 (by omega) (by omega)]
    exact ih (i + 1) (by omega)
theorem laws_eqInt64S.ev (l : List Int) (hl : l.length ≤ 281474976710656) : Ev (fun k => laws_eqInt64S.f k l l) true := by
  unfold laws_eqInt64S.f
  simp only [if_true]
  exact laws_eqInt64S.ev_l l hl l.length 0 (by omega)

theorem laws_eqInt64SS.ev_l (l : List (List Int)) (hl : l.length ≤ 2000000) (hr : ∀ j : Nat, (rd_L1 l (j : Int)).length ≤ 2000000) (d : Nat) : ∀ (i : Nat), i + d = l.length → Ev (fun k => laws_eqInt64SS.l0 k l l (i : Int)) true := by
  induction d with
  | zero =>
    intro i h3
    refine Ev.step (fun k => laws_eqInt64SS.l0.eq_2 ..) ?_
    simp only [if_neg (show ¬ ((i : Int) < (l.length : Int)) by omega)]
    exact Ev.now _
  | succ d ih =>
    intro i h3
    have := hr i
    refine Ev.step (fun k => laws_eqInt64SS.l0.eq_2 ..) ?_
    simp only [if_pos (show (i : Int) < (l.length : Int) by omega), if_pos (show (0 : Int) ≤ (i : Int) by omega)]
    refine Ev.bind (laws_eqInt64S.ev _ (by omega)) ?_
    simp only [if_true]
    rw [w64 (by omega) (by omega)]
    exact ih (i + 1) (by omega)
theorem laws_eqInt64SS.ev (l : List (List Int)) (hl : l.length ≤ 2000000) (hr : ∀ j : Nat, (rd_L1 l (j : Int)).length ≤ 2000000) : Ev (fun k => laws_eqInt64SS.f k l l) true := by
  unfold laws_eqInt64SS.f
  simp only [if_true]
  exact laws_eqInt64SS.ev_l l hl hr l.length 0 (by omega)

/-- The marks a + i, from the place i on. -/
theorem laws_markInt64S.ev_l (n : Nat) (a : Int) (ha : 0 ≤ a) (han : a + n ≤ 4611686018427387904) (d : Nat) : ∀ (i : Nat) (l : List Int), l.length = n → i + d = n →
    ∃ m : List Int, Ev (fun k => laws_markInt64S.l0 k l (a + i) (i : Int)) (a + n, m) ∧ m.length = n ∧ (∀ j, j < i → m[j]? = l[j]?) ∧ ∀ j : Nat, i ≤ j → j < n → rd m j = a + j := by
  induction d with
  | zero =>
    intro i l h1 h3
    refine ⟨l, ?_, h1, fun _ _ => rfl, fun j h h' => by omega⟩
    refine Ev.step (fun k => laws_markInt64S.l0.eq_2 ..) ?_
    simp only [if_neg (show ¬ ((i : Int) < (l.length : Int)) by omega)]
    have : i = n := by omega
    rw [this]
    exact Ev.now _
  | succ d ih =>
    intro i l h1 h3
    obtain ⟨m, hm, h4, h5, h6⟩ := ih (i + 1) (l.set i (a + i)) (by simp [h1]) (by omega)
    refine ⟨m, ?_, h4, fun j hj => ?_, fun j hj hj' => ?_⟩
    · refine Ev.step (fun k => laws_markInt64S.l0.eq_2 ..) ?_
      simp only [if_pos (show (i : Int) < (l.length : Int) by omega), if_pos (show (0 : Int) ≤ (i : Int) by omega)]
      rw [w64 (by omega) (by omega), w64 (by omega) (by omega), Int.add_assoc, Int.toNat_natCast]
      exact hm
    · rw [h5 j (by omega), List.getElem?_set_ne (by omega)]
    · by_cases e : j = i
      · subst e
        have := h5 j (by omega)
        rw [List.getElem?_set_self (by omega)] at this
        rw [rd_nat]
        simp [this]
      · exact h6 j (by omega) hj'
theorem laws_markInt64S.ev (l : List Int) (a : Int) (ha : 0 ≤ a) (han : a + l.length ≤ 4611686018427387904) :
    ∃ m : List Int, Ev (fun k => laws_markInt64S.f k l a) (a + l.length, m) ∧ m.length = l.length ∧ ∀ j : Nat, j < l.length → rd m j = a + j := by
  obtain ⟨m, hm, h4, _, h6⟩ := laws_markInt64S.ev_l l.length a ha han l.length 0 l rfl (by omega)
  refine ⟨m, ?_, h4, fun j hj => h6 j (by omega) hj⟩
  unfold laws_markInt64S.f
  have := hm
  simp only [Int.natCast_zero, Int.add_zero] at this
  exact this

theorem laws_szInt64S.sp {l : List Int} {a : Int} (h : l.length ≤ 9223372036854775807) (ha : a ≤ 1048576) (ha0 : 0 ≤ a) :
    (laws_szInt64S.f l a = some (-1) ∧ a < l.length) ∨ (laws_szInt64S.f l a = some (a - l.length) ∧ (l.length : Int) ≤ a) := by
  unfold laws_szInt64S.f
  rw [w64 (by omega) (by omega)]
  by_cases c : a - (l.length : Int) < 0
  · rw [if_pos c]; exact .inl ⟨rfl, by omega⟩
  · rw [if_neg c]; exact .inr ⟨rfl, by omega⟩

theorem rd_L1_set_self (l : List (List Int)) (i : Nat) (h : i < l.length) (x : List Int) : rd_L1 (l.set i x) (i : Int) = x := by simp [rd_L1, h]
theorem rd_L1_set_ne (l : List (List Int)) (i j : Nat) (h : i ≠ j) (x : List Int) : rd_L1 (l.set i x) (j : Int) = rd_L1 l (j : Int) := by
  simp [rd_L1, h]
/-- How many numbers stand in the rows before j. -/
def lenTo (l : List (List Int)) : Nat → Nat
  | 0 => 0
  | j + 1 => lenTo l j + (rd_L1 l (j : Int)).length
theorem lenTo_le {l : List (List Int)} {c : Nat} (h : ∀ j : Nat, (rd_L1 l (j : Int)).length ≤ c) (j : Nat) : lenTo l j ≤ j * c := by
  induction j with
  | zero => simp [lenTo]
  | succ j ih => have := h j; rw [lenTo, Nat.succ_mul]; omega
theorem lenTo_congr {l m : List (List Int)} {j : Nat} (h : ∀ k : Nat, k < j → (rd_L1 l (k : Int)).length = (rd_L1 m (k : Int)).length) : lenTo l j = lenTo m j := by
  induction j with
  | zero => rfl
  | succ j ih => rw [lenTo, lenTo, ih fun k hk => h k (by omega), h j (by omega)]
theorem lenTo_mono (l : List (List Int)) (d : Nat) : ∀ j, lenTo l j ≤ lenTo l (j + d) := by
  induction d with
  | zero => intro j; exact Nat.le_refl _
  | succ d ih => intro j; have := ih j; rw [← Nat.add_assoc, lenTo]; omega
/-- Marked: the rows' numbers are a, a + 1, .. one after another. -/
def Marked (a : Int) (l m : List (List Int)) : Prop := m.length = l.length ∧ ∀ j : Nat, j < l.length → (rd_L1 m (j : Int)).length = (rd_L1 l (j : Int)).length ∧ ∀ k : Nat, k < (rd_L1 m (j : Int)).length → rd (rd_L1 m (j : Int)) (k : Int) = a + lenTo l j + k

theorem laws_szInt64SS.ev_l (l : List (List Int)) (hl : l.length ≤ 1048576) (hr : ∀ j : Nat, (rd_L1 l (j : Int)).length ≤ 9223372036854775807) (a : Int) (d : Nat) : ∀ (i : Nat) (x : Int), i + d = l.length → 0 ≤ x → x ≤ 1048576 → x + lenTo l i = a →
    ∃ r, Ev (fun k => laws_szInt64SS.l0 k l x (i : Int)) r ∧ (r < 0 ∨ (0 ≤ r ∧ r + lenTo l l.length = a)) := by
  induction d with
  | zero =>
    intro i x e h0 h1 h2
    have : i = l.length := by omega
    subst this
    refine ⟨x, Ev.step (fun k => laws_szInt64SS.l0.eq_2 ..) ?_, .inr ⟨h0, h2⟩⟩
    simp only [if_neg (show ¬ ((l.length : Int) < (l.length : Int)) by omega)]
    exact Ev.now _
  | succ d ih =>
    intro i x e h0 h1 h2
    rcases laws_szInt64S.sp (l := rd_L1 l (i : Int)) (a := x) (hr i) h1 h0 with ⟨e0, c0⟩ | ⟨e0, c0⟩
    · refine ⟨-1, Ev.step (fun k => laws_szInt64SS.l0.eq_2 ..) ?_, .inl (by omega)⟩
      rw [e0]
      simp only [if_pos (show (i : Int) < (l.length : Int) by omega), if_pos (show (0 : Int) ≤ (i : Int) by omega), Option.bind_some, if_pos (show (-1 : Int) < 0 by omega)]
      exact Ev.now _
    · obtain ⟨r, hE, hr2⟩ := ih (i + 1) (x - (rd_L1 l (i : Int)).length) (by omega) (by omega) (by omega) (by rw [lenTo]; omega)
      refine ⟨r, Ev.step (fun k => laws_szInt64SS.l0.eq_2 ..) ?_, hr2⟩
      rw [e0, w64 (n := (i : Int) + 1) (by omega) (by omega)]
      simp only [if_pos (show (i : Int) < (l.length : Int) by omega), if_pos (show (0 : Int) ≤ (i : Int) by omega), Option.bind_some, if_neg (show ¬ (x - ((rd_L1 l (i : Int)).length : Int) < 0) by omega)]
      exact hE
/-- The size's test: the rest is below nought, or the edges are no more than so many, and so are their numbers. -/
theorem laws_szInt64SS.ev (l : List (List Int)) (hl : l.length ≤ 9223372036854775807) (hr : ∀ j : Nat, (rd_L1 l (j : Int)).length ≤ 9223372036854775807) :
    ∃ r, Ev (fun k => laws_szInt64SS.f k l 1048576) r ∧ (r < 0 ∨ (0 ≤ r ∧ l.length + lenTo l l.length ≤ 1048576)) := by
  unfold laws_szInt64SS.f
  rw [w64 (n := 1048576 - (l.length : Int)) (by omega) (by omega)]
  by_cases c : (1048576 : Int) - l.length < 0
  · simp only [if_pos c]
    exact ⟨-1, Ev.now _, .inl (by omega)⟩
  · simp only [if_neg c]
    obtain ⟨r, hE, h⟩ := laws_szInt64SS.ev_l l (by omega) hr (1048576 - l.length) l.length 0 (1048576 - l.length) (by omega) (by omega) (by omega) (by simp [lenTo])
    exact ⟨r, hE, h.imp id fun a => ⟨a.1, by omega⟩⟩
theorem lenTo_row {l : List (List Int)} {j : Nat} (h : j < l.length) : (rd_L1 l (j : Int)).length ≤ lenTo l l.length := by
  have := lenTo_mono l (l.length - (j + 1)) (j + 1)
  rw [show j + 1 + (l.length - (j + 1)) = l.length by omega, lenTo] at this
  omega
theorem lenTo_rows (l : List (List Int)) (j : Nat) : (rd_L1 l (j : Int)).length ≤ lenTo l l.length := by
  rcases Nat.lt_or_ge j l.length with h | h
  · exact lenTo_row h
  · have : rd_L1 l (j : Int) = [] := by simp [rd_L1, h]
    rw [this]; simp

theorem spec_l01In.sp (a b c : Int) : spec_l01In.f a b c = some (decide (b ≤ a ∧ a ≤ c)) := by
  unfold spec_l01In.f
  by_cases h : b ≤ a <;> simp [h]

theorem spec_l01Empty.sp (n : Int) (h0 : 0 ≤ n) (h1 : n ≤ 35184372088832) : spec_l01Empty.f n = some (n, List.replicate n.toNat 0) := by
  unfold spec_l01Empty.f
  rw [if_pos h0, if_pos (by omega)]

theorem spec_l01Put.sp (n : Int) (rows : List Int) (a b : Int) (ha : 0 ≤ a) (ha1 : a < rows.length) (hb : 0 ≤ b) (hb1 : b < rows.length) (hl : rows.length ≤ 62) :
    spec_l01Put.f n rows a b = some (putE rows a b) := by
  unfold spec_l01Put.f
  rw [u64 hb (by omega), u64 ha (by omega), if_pos ha, if_pos ha1, if_pos hb, shl_one hb (by omega), shl_one ha (by omega)]
  simp only [Option.bind_some]
  rw [if_pos hb, if_pos hb1, if_pos ha]
  rfl

theorem laws_toInt64S.ev_l (l : List Int) (hl : l.length ≤ 281474976710656) (d : Nat) : ∀ (i : Nat) (acc : List Int), acc.length = l.length → (∀ j, j < i → acc[j]? = l[j]?) → i + d = l.length →
    Ev (fun k => laws_toInt64S.l0 k l acc (i : Int)) l := by
  induction d with
  | zero =>
    intro i acc h1 h2 h3
    refine Ev.step (fun k => laws_toInt64S.l0.eq_2 ..) ?_
    simp only [if_neg (show ¬ ((i : Int) < (l.length : Int)) by omega)]
    refine ev_some (List.ext_getElem? fun j => ?_)
    by_cases hj : j < i
    · exact h2 j hj
    · rw [List.getElem?_eq_none (by omega), List.getElem?_eq_none (by omega)]
  | succ d ih =>
    intro i acc h1 h2 h3
    refine Ev.step (fun k => laws_toInt64S.l0.eq_2 ..) ?_
    simp only [if_pos (show (i : Int) < (l.length : Int) by omega), if_pos (show (0 : Int) ≤ (i : Int) by omega), if_pos (show (i : Int) < (acc.length : Int) by omega)]
    rw [w64 (by omega) (by omega)]
    have := ih (i + 1) (acc.set ((i : Int)).toNat (rd l i)) (by simp [h1]) (fun j hj => by
      rw [Int.toNat_natCast]
      by_cases e : i = j
      · subst e
        rw [List.getElem?_set_self (by omega), rd_get l i (by omega)]
        simp
      · rw [List.getElem?_set_ne e]
        exact h2 j (by omega)) (by omega)
    exact this
theorem laws_toInt64S.ev (l : List Int) (hl : l.length ≤ 35184372088832) : Ev (fun k => laws_toInt64S.f k l) l := by
  unfold laws_toInt64S.f
  simp only [if_pos (show (0 : Int) ≤ (l.length : Int) by omega), if_pos (show ((l.length : Int)).toNat ≤ 35184372088832 by omega)]
  exact laws_toInt64S.ev_l l (by omega) l.length 0 _ (by simp) (fun j hj => by omega) (by omega)

theorem laws_toInt64SS.ev_l (l : List (List Int)) (hl : l.length ≤ 1048576) (hr : ∀ j : Nat, (rd_L1 l (j : Int)).length ≤ 1048576) (d : Nat) : ∀ (i : Nat) (acc : List (List Int)), acc.length = l.length → (∀ j, j < i → acc[j]? = l[j]?) → i + d = l.length →
    Ev (fun k => laws_toInt64SS.l0 k l acc (i : Int)) l := by
  induction d with
  | zero =>
    intro i acc h1 h2 h3
    refine Ev.step (fun k => laws_toInt64SS.l0.eq_2 ..) ?_
    simp only [if_neg (show ¬ ((i : Int) < (l.length : Int)) by omega)]
    refine ev_some (List.ext_getElem? fun j => ?_)
    by_cases hj : j < i
    · exact h2 j hj
    · rw [List.getElem?_eq_none (by omega), List.getElem?_eq_none (by omega)]
  | succ d ih =>
    intro i acc h1 h2 h3
    have hri := hr i
    refine Ev.step (fun k => laws_toInt64SS.l0.eq_2 ..) ?_
    rw [w64 (n := (i : Int) + 1) (by omega) (by omega)]
    simp only [if_pos (show (i : Int) < (l.length : Int) by omega), if_pos (show (0 : Int) ≤ (i : Int) by omega), if_pos (show (i : Int) < (acc.length : Int) by omega), Int.toNat_natCast]
    refine Ev.bind (laws_toInt64S.ev (rd_L1 l (i : Int)) (by omega)) ?_
    refine ih (i + 1) _ (by rw [List.length_set]; exact h1) (fun j hj => ?_) (by omega)
    by_cases c : i = j
    · subst c
      rw [List.getElem?_set_self (by omega)]
      simp [rd_L1, show i < l.length by omega]
    · rw [List.getElem?_set_ne c]; exact h2 j (by omega)
theorem laws_toInt64SS.ev (l : List (List Int)) (hl : l.length ≤ 1048576) (hr : ∀ j : Nat, (rd_L1 l (j : Int)).length ≤ 1048576) : Ev (fun k => laws_toInt64SS.f k l) l := by
  unfold laws_toInt64SS.f
  simp only [if_pos (show (0 : Int) ≤ (l.length : Int) by omega), if_pos (show ((l.length : Int)).toNat ≤ 11728124029610 by omega)]
  exact laws_toInt64SS.ev_l l hl hr l.length 0 _ (by simp) (fun j hj => by omega) (by omega)

theorem impl_empty.sp (n : Int) (h0 : 0 ≤ n) (h1 : n ≤ 35184372088832) : impl_empty.f n = some (n, List.replicate n.toNat 0) := by
  unfold impl_empty.f
  rw [if_pos h0, if_pos (by omega)]

theorem impl_Graph_put.sp (n : Int) (rows : List Int) (a b : Int) (hab : a ≠ b) (ha : 0 ≤ a) (ha1 : a < rows.length) (hb : 0 ≤ b) (hb1 : b < rows.length) (hl : rows.length ≤ 62) :
    impl_Graph_put.f n rows a b = some (putE rows a b) := by
  unfold impl_Graph_put.f
  rw [if_neg hab, if_pos ha, if_pos ha1, if_pos hb, shl_one hb (by omega), shl_one ha (by omega)]
  simp only [Option.bind_some]
  rw [if_pos hb1]
  rfl
theorem impl_Graph_put.same (n : Int) (rows : List Int) (a : Int) : impl_Graph_put.f n rows a a = some rows := by
  unfold impl_Graph_put.f
  rw [if_pos rfl]

/-- What GraphOf does with the edges that are left. -/
noncomputable def gof (n : Int) : List (List Int) → List Int → Int × List Int × Int
  | [], rows => (n, rows, 0)
  | e :: E, rows => if e.length = 2 ∧ 0 ≤ rd e 0 ∧ rd e 0 < n ∧ 0 ≤ rd e 1 ∧ rd e 1 < n ∧ rd e 0 ≠ rd e 1 then gof n E (putE rows (rd e 0) (rd e 1)) else (0, [], 2)
noncomputable def graphOfR (n : Int) (E : List (List Int)) : Int × List Int × Int :=
  if 1 ≤ n ∧ n ≤ 62 ∧ E.length ≤ 4000 then gof n E (List.replicate n.toNat 0) else (0, [], 2)
theorem putE_length (rows : List Int) (a b : Int) : (putE rows a b).length = rows.length := by unfold putE orRow; simp
theorem gof_length (n : Int) (E : List (List Int)) : ∀ rows : List Int, rows.length ≤ 62 → (gof n E rows).2.1.length ≤ 62 := by
  induction E with
  | nil => intro rows h; exact h
  | cons e E ih =>
    intro rows h
    unfold gof
    split
    · exact ih _ (by rw [putE_length]; exact h)
    · simp
theorem graphOfR_length (n : Int) (E : List (List Int)) : (graphOfR n E).2.1.length ≤ 62 := by
  unfold graphOfR
  split
  · exact gof_length n E _ (by simp; omega)
  · simp
theorem rd_L1_drop {E : List (List Int)} {i : Nat} {e : List Int} {R : List (List Int)} (h : E.drop i = e :: R) : rd_L1 E (i : Int) = e ∧ E.drop (i + 1) = R ∧ i < E.length := by
  have hi : i < E.length := by
    rcases Nat.lt_or_ge i E.length with z | z
    · exact z
    · rw [List.drop_of_length_le z] at h; cases h
  rw [List.drop_eq_getElem_cons hi] at h
  injection h with h1 h2
  exact ⟨by simp [rd_L1, hi, h1], h2, hi⟩
theorem spec_GraphOf.ev_l {n : Int} (h0 : 1 ≤ n) (h1 : n ≤ 62) (E : List (List Int)) (hE : E.length ≤ 4000) (R : List (List Int)) : ∀ (i : Nat) (rows : List Int), E.drop i = R → i ≤ E.length → (rows.length : Int) = n →
    Ev (fun q => spec_GraphOf.l0 q n E (i : Int) n rows) (gof n R rows) := by
  induction R with
  | nil =>
    intro i rows hd hi hr
    have : E.length ≤ i := by have := congrArg List.length hd; simp only [List.length_drop, List.length_nil] at this; omega
    refine Ev.step (fun k => spec_GraphOf.l0.eq_2 ..) ?_
    simp only [if_neg (show ¬ ((i : Int) < (E.length : Int)) by omega)]
    exact Ev.now _
  | cons e R ih =>
    intro i rows hd hi hr
    obtain ⟨he, hd2, hi2⟩ := rd_L1_drop hd
    refine Ev.step (fun k => spec_GraphOf.l0.eq_2 ..) ?_
    rw [w64 (n := n - 1) (by omega) (by omega), w64 (n := (i : Int) + 1) (by omega) (by omega), he]
    simp only [if_pos (show (i : Int) < (E.length : Int) by omega), if_pos (show (0 : Int) ≤ (i : Int) by omega)]
    unfold gof
    by_cases c1 : e.length = 2
    · simp only [if_pos (show (e.length : Int) = 2 by omega), if_pos (show (0 : Int) < (e.length : Int) by omega), if_pos (show (1 : Int) < (e.length : Int) by omega)]
      rw [spec_l01In.sp, spec_l01In.sp]
      simp only [Option.bind_some]
      by_cases c2 : 0 ≤ rd e 0 ∧ rd e 0 ≤ n - 1
      · simp only [decide_eq_true c2, if_true]
        by_cases c3 : 0 ≤ rd e 1 ∧ rd e 1 ≤ n - 1
        · simp only [decide_eq_true c3, if_true]
          by_cases c4 : rd e 0 = rd e 1
          · simp only [if_pos c4]
            rw [if_neg (by omega)]
            exact Ev.now _
          · simp only [if_neg c4]
            rw [spec_l01Put.sp n rows _ _ (by omega) (by omega) (by omega) (by omega) (by omega), if_pos (by omega)]
            simp only [Option.bind_some]
            exact ih (i + 1) _ hd2 (by omega) (by rw [putE_length]; exact hr)
        · simp only [decide_eq_false c3, Bool.false_eq_true, if_false]
          rw [if_neg (by omega)]
          exact Ev.now _
      · simp only [decide_eq_false c2, Bool.false_eq_true, if_false]
        rw [if_neg (by omega)]
        exact Ev.now _
    · simp only [if_neg (show ¬ ((e.length : Int) = 2) by omega)]
      rw [if_neg (fun a => c1 a.1)]
      exact Ev.now _
theorem spec_GraphOf.ev (n : Int) (E : List (List Int)) : Ev (fun q => spec_GraphOf.f q n E) (graphOfR n E) := by
  unfold spec_GraphOf.f graphOfR
  rw [spec_l01In.sp]
  simp only [Option.bind_some]
  by_cases c : 1 ≤ n ∧ n ≤ 62
  · simp only [c, and_self, decide_true, if_true, true_and]
    refine Ev.step (fun k => spec_GraphOf.j0.eq_2 ..) ?_
    by_cases c2 : E.length ≤ 4000
    · simp only [decide_eq_false (show ¬ ((E.length : Int) > 4000) by omega), Bool.false_eq_true, if_false, if_pos c2]
      rw [spec_l01Empty.sp _ (by omega) (by omega)]
      simp only [Option.bind_some]
      exact spec_GraphOf.ev_l c.1 c.2 E c2 E 0 _ rfl (by omega) (by simp; omega)
    · simp only [decide_eq_true (show (E.length : Int) > 4000 by omega), if_true, if_neg c2]
      exact Ev.now _
  · simp only [decide_eq_false c, Bool.false_eq_true, if_false]
    rw [if_neg (fun a => c ⟨a.1, a.2.1⟩)]
    refine Ev.step (fun k => spec_GraphOf.j0.eq_2 ..) ?_
    simp only [if_true]
    exact Ev.now _
theorem impl_GraphOf.ev_l {n : Int} (h0 : 1 ≤ n) (h1 : n ≤ 62) (E : List (List Int)) (hE : E.length ≤ 4000) (R : List (List Int)) : ∀ (i : Nat) (rows : List Int), E.drop i = R → i ≤ E.length → (rows.length : Int) = n →
    Ev (fun q => impl_GraphOf.l0 q n E (E.length : Int) (i : Int) n rows) (gof n R rows) := by
  induction R with
  | nil =>
    intro i rows hd hi hr
    have : E.length ≤ i := by have := congrArg List.length hd; simp only [List.length_drop, List.length_nil] at this; omega
    refine Ev.step (fun k => impl_GraphOf.l0.eq_2 ..) ?_
    simp only [if_neg (show ¬ ((i : Int) < (E.length : Int)) by omega)]
    exact Ev.now _
  | cons e R ih =>
    intro i rows hd hi hr
    obtain ⟨he, hd2, hi2⟩ := rd_L1_drop hd
    refine Ev.step (fun k => impl_GraphOf.l0.eq_2 ..) ?_
    rw [w64 (n := (i : Int) + 1) (by omega) (by omega), he]
    simp only [if_pos (show (i : Int) < (E.length : Int) by omega), if_pos (show (0 : Int) ≤ (i : Int) by omega)]
    unfold gof
    by_cases c1 : e.length = 2
    · simp only [if_pos (show (e.length : Int) = 2 by omega), if_pos (show (0 : Int) < (e.length : Int) by omega), if_pos (show (1 : Int) < (e.length : Int) by omega)]
      by_cases c2 : rd e 0 < 0
      · simp only [if_pos c2]; rw [if_neg (by omega)]; exact Ev.now _
      simp only [if_neg c2]
      by_cases c3 : rd e 0 ≥ n
      · simp only [if_pos c3]; rw [if_neg (by omega)]; exact Ev.now _
      simp only [if_neg c3]
      by_cases c4 : rd e 1 < 0
      · simp only [if_pos c4]; rw [if_neg (by omega)]; exact Ev.now _
      simp only [if_neg c4]
      by_cases c5 : rd e 1 ≥ n
      · simp only [if_pos c5]; rw [if_neg (by omega)]; exact Ev.now _
      simp only [if_neg c5]
      by_cases c6 : rd e 0 = rd e 1
      · simp only [if_pos c6]; rw [if_neg (by omega)]; exact Ev.now _
      simp only [if_neg c6]
      rw [impl_Graph_put.sp n rows _ _ c6 (by omega) (by omega) (by omega) (by omega) (by omega), if_pos (by omega)]
      simp only [Option.bind_some]
      exact ih (i + 1) _ hd2 (by omega) (by rw [putE_length]; exact hr)
    · simp only [if_neg (show ¬ ((e.length : Int) = 2) by omega)]
      rw [if_neg (fun a => c1 a.1)]
      exact Ev.now _
theorem impl_GraphOf.ev (n : Int) (E : List (List Int)) : Ev (fun q => impl_GraphOf.f q n E) (graphOfR n E) := by
  have bad : Ev (fun q => impl_GraphOf.j0 q n E true) (0, [], 2) := by
    refine Ev.step (fun k => impl_GraphOf.j0.eq_2 ..) ?_
    simp only [if_true]
    exact Ev.now _
  unfold impl_GraphOf.f graphOfR
  by_cases c1 : n < 1
  · simp only [if_pos c1]; rw [if_neg (by omega)]; exact bad
  by_cases c2 : n > 62
  · simp only [if_neg c1, if_pos c2]; rw [if_neg (by omega)]; exact bad
  simp only [if_neg c1, if_neg c2]
  by_cases c3 : E.length ≤ 4000
  · rw [decide_eq_false (show ¬ ((E.length : Int) > 4000) by omega), if_pos ⟨by omega, by omega, c3⟩]
    refine Ev.step (fun k => impl_GraphOf.j0.eq_2 ..) ?_
    simp only [Bool.false_eq_true, if_false]
    rw [impl_empty.sp _ (by omega) (by omega)]
    simp only [Option.bind_some]
    exact impl_GraphOf.ev_l (by omega) (by omega) E c3 E 0 _ rfl (by omega) (by simp; omega)
  · rw [decide_eq_true (show (E.length : Int) > 4000 by omega), if_neg (fun a => c3 a.2.2)]
    exact bad

theorem laws_eqGraph.ev (n : Int) (l : List Int) (hl : l.length ≤ 281474976710656) : Ev (fun k => laws_eqGraph.f k n l n l) true := by
  unfold laws_eqGraph.f
  simp only [if_true]
  exact Ev.bind (laws_eqInt64S.ev l hl) (Ev.now _)

theorem laws_markGraph.ev (n : Int) (l : List Int) (a : Int) (ha : 0 ≤ a) (han : a + l.length ≤ 4611686018427387904) :
    ∃ m : List Int, Ev (fun k => laws_markGraph.f k n l a) (a + l.length, m) ∧ m.length = l.length ∧ ∀ j : Nat, j < l.length → rd m j = a + j := by
  obtain ⟨m, hm, h4, h6⟩ := laws_markInt64S.ev l a ha han
  refine ⟨m, ?_, h4, h6⟩
  unfold laws_markGraph.f
  exact Ev.bind hm (Ev.now _)

theorem laws_heldInt64S.ev_l (m : List Int) (a : Int) (ha : 0 ≤ a) (han : a + m.length ≤ 4611686018427387904) (hm : ∀ j : Nat, j < m.length → rd m j = a + j) (d : Nat) :
    ∀ (i : Nat), i + d = m.length → Ev (fun k => laws_heldInt64S.l0 k m (a + i) (i : Int)) (a + m.length) := by
  induction d with
  | zero =>
    intro i h3
    refine Ev.step (fun k => laws_heldInt64S.l0.eq_2 ..) ?_
    simp only [if_neg (show ¬ ((i : Int) < (m.length : Int)) by omega)]
    have : i = m.length := by omega
    rw [this]
    exact Ev.now _
  | succ d ih =>
    intro i h3
    refine Ev.step (fun k => laws_heldInt64S.l0.eq_2 ..) ?_
    simp only [if_pos (show (i : Int) < (m.length : Int) by omega), if_pos (show (0 : Int) ≤ (i : Int) by omega), if_pos (hm i (by omega))]
    rw [w64 (by omega) (by omega), w64 (by omega) (by omega), Int.add_assoc]
    exact ih (i + 1) (by omega)
theorem laws_heldInt64S.ev (m : List Int) (a : Int) (ha : 0 ≤ a) (han : a + m.length ≤ 4611686018427387904) (hm : ∀ j : Nat, j < m.length → rd m j = a + j) :
    Ev (fun k => laws_heldInt64S.f k m a) (a + m.length) := by
  unfold laws_heldInt64S.f
  have := laws_heldInt64S.ev_l m a ha han hm m.length 0 (by omega)
  simp only [Int.natCast_zero, Int.add_zero] at this
  exact this

theorem laws_heldGraph.ev (n : Int) (m : List Int) (a : Int) (ha : 0 ≤ a) (han : a + m.length ≤ 4611686018427387904) (hm : ∀ j : Nat, j < m.length → rd m j = a + j) :
    Ev (fun k => laws_heldGraph.f k n m a) (a + m.length) := by
  unfold laws_heldGraph.f
  refine Ev.bind (laws_heldInt64S.ev m a ha han hm) ?_
  simp only [if_neg (show ¬ (a + (m.length : Int) < 0) by omega)]
  exact Ev.now _

end Go.Proofs.Ythnjnhdalpcfpaa.XFnExactGraphOf
