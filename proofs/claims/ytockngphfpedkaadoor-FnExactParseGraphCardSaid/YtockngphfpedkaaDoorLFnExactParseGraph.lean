/- What the functions that FnExactParseGraph reaches compute. -/
import Derived.Test.YtockngphfpedkaaDoorLFnExactParseGraphp1
import Derived.Test.YtockngphfpedkaaDoorGr
namespace Go.Proofs.YtockngphfpedkaaDoor.XFnExactParseGraph
open Go.RowKit Go.Proofs.YtockngphfpedkaaDoorW.PrintWords Go.Proofs.YtockngphfpedkaaDoorW.PrintLast Go.Proofs.YtockngphfpedkaaDoor.B
open Classical
set_option linter.unusedVariables false
set_option linter.unusedSimpArgs false
set_option linter.unusedSectionVars false

theorem cutf (s : List UInt8) (c : UInt8) (h : s.length ≤ 1048576) : ∃ b, strings_Cut.f (mkB s) (⟨#[c]⟩ : ByteArray) = some (mkB (cut1 c s).1, mkB (cut1 c s).2, b) := by
  obtain ⟨h1, h2⟩ := cut_cut1 c s
  unfold strings_Cut.f
  rw [mkB_size, if_pos h, mkB_data]
  have h3 : (⟨#[c]⟩ : ByteArray).data.toList = [c] := rfl
  rw [h3, h1, h2]
  exact ⟨_, rfl⟩
theorem splitf (s : List UInt8) (c : UInt8) (h : s.length ≤ 1048576) : strings_Split.f (mkB s) (⟨#[c]⟩ : ByteArray) = some ((spl c s).map mkB) := by
  unfold strings_Split.f
  rw [mkB_size, if_pos h, if_pos (show 1 ≤ (⟨#[c]⟩ : ByteArray).size from Nat.le_refl 1), splitB_spl]
/-- The last look: the graph's text is the text. -/
def fin (n : Nat) (s : List UInt8) : Option (List Int) → Option (Int × List Int)
  | none => none
  | some r => if gtx n r = s then some ((n : Int), r) else none
theorem impl_fin {n : Nat} (h1 : 1 ≤ n) (h2 : n ≤ 62) (s : List UInt8) {E : Nat → Nat → Prop} (hs : ∀ v w, E v w ↔ E w v) (hi : ∀ v, ¬ E v v) :
    Ev (fun q => (impl_graphText.f q (n : Int) (gr n E)).bind fun t => (if t.toList = (mkB s).toList then (some ((n : Int), gr n E, (0 : Int))) else (some (0, ([] : List Int), 6)))) (pgV (fin n s (some (gr n E)))) := by
  refine Ev.bind (impl_graphText.ev (IsG.of_gr h1 h2 (fun v w _ _ => hs v w) (fun v _ => hi v))) ?_
  rw [mkB_toList, mkB_toList, fin]
  by_cases c : gtx (n : Int) (gr n E) = s
  · simp only [if_pos c]; exact ev_some rfl
  · simp only [if_neg c]; exact ev_some rfl
set_option maxHeartbeats 2000000 in
theorem impl_ParseGraph.ev_l {n : Nat} (h1 : 1 ≤ n) (h2 : n ≤ 62) {s : List UInt8} {L : List (List UInt8)} (hL : L.length ≤ 100000000) (hs : ∀ p ∈ L, p.length ≤ 1048576) (d : Nat) : ∀ (i : Nat) (E : Nat → Nat → Prop), (∀ v w, E v w ↔ E w v) → (∀ v, ¬ E v v) → i + d = L.length →
    Ev (fun q => impl_ParseGraph.l0 q (mkB s) (n : Int) (L.map mkB) (L.length : Int) (i : Int) (n : Int) (gr n E)) (pgV (fin n s (imR n (L.drop i) (gr n E)))) := by
  induction d with
  | zero =>
    intro i E es ei h
    refine Ev.step (fun k => impl_ParseGraph.l0.eq_2 ..) ?_
    rw [List.drop_eq_nil_of_le (by omega), imR]
    simp only [if_neg (show ¬ ((i : Int) < (L.length : Int)) by omega)]
    exact impl_fin h1 h2 s es ei
  | succ d ih =>
    intro i E es ei h
    have hi : i < L.length := by omega
    have hp := hs _ (List.getElem_mem hi)
    refine Ev.step (fun k => impl_ParseGraph.l0.eq_2 ..) ?_
    rw [List.length_map, rdB hi, List.drop_eq_getElem_cons hi, imR]
    generalize L[i] = p at hp ⊢
    obtain ⟨b0, eb⟩ := cutf p 45 hp
    simp only [if_pos (show (i : Int) < (L.length : Int) by omega), if_pos (show (0 : Int) ≤ (i : Int) by omega), eb, Option.bind_some]
    refine Ev.bind (impl_number.ev _) ?_
    refine Ev.bind (impl_number.ev _) ?_
    unfold pr
    cases na : num (cut1 45 p).1 with
    | none =>
      simp only [Bool.false_eq_true, if_false]
      exact ev_some rfl
    | some a =>
      cases nb : num (cut1 45 p).2 with
      | none =>
        simp only [if_true, Bool.false_eq_true, if_false]
        exact ev_some rfl
      | some b =>
        simp only [if_true]
        by_cases ca : a < n
        · by_cases cb : b < n
          · rw [if_pos (show a < n ∧ b < n from ⟨ca, cb⟩)]
            simp only [if_neg (show ¬ ((a : Int) ≥ (n : Int)) by omega), if_neg (show ¬ ((b : Int) ≥ (n : Int)) by omega)]
            have lg : (gr n E).length = n := gr_length n E
            by_cases cab : a = b
            · subst cab
              rw [if_pos rfl, impl_Graph_put.same, show wrap64 ((i : Int) + 1) = ((i + 1 : Nat) : Int) by unfold wrap64; omega]
              simp only [Option.bind_some]
              exact ih (i + 1) E es ei (by omega)
            · rw [if_neg cab, impl_Graph_put.sp (n : Int) (gr n E) a b (by omega) (by omega) (by omega) (by omega) (by omega) (by omega), gr_put h2 ca cb, show wrap64 ((i : Int) + 1) = ((i + 1 : Nat) : Int) by unfold wrap64; omega]
              simp only [Option.bind_some]
              refine ih (i + 1) _ (fun v w => ?_) (fun v => ?_) (by omega)
              · rw [es v w]
                constructor
                · rintro (h | h | h)
                  · exact .inl h
                  · exact .inr (.inr ⟨h.2, h.1⟩)
                  · exact .inr (.inl ⟨h.2, h.1⟩)
                · rintro (h | h | h)
                  · exact .inl h
                  · exact .inr (.inr ⟨h.2, h.1⟩)
                  · exact .inr (.inl ⟨h.2, h.1⟩)
              · rintro (h | h | h)
                · exact ei v h
                · omega
                · omega
          · rw [if_neg (show ¬ (a < n ∧ b < n) from fun h => cb h.2)]
            simp only [if_neg (show ¬ ((a : Int) ≥ (n : Int)) by omega), if_pos (show (b : Int) ≥ (n : Int) by omega)]
            exact ev_some rfl
        · rw [if_neg (show ¬ (a < n ∧ b < n) from fun h => ca h.1)]
          simp only [if_pos (show (a : Int) ≥ (n : Int) by omega)]
          exact ev_some rfl
set_option maxHeartbeats 2000000 in
theorem impl_ParseGraph.ev {s : List UInt8} (hs : s.length ≤ 1048576) : Ev (fun q => impl_ParseGraph.f q (mkB s)) (pgV (imP s)) := by
  unfold impl_ParseGraph.f
  obtain ⟨b0, eb⟩ := cutf s 58 hs
  obtain ⟨_, m2⟩ := cut1_len 58 s
  simp only [eb, Option.bind_some]
  refine Ev.bind (impl_number.ev _) ?_
  unfold imP
  cases na : num (cut1 58 s).1 with
  | none =>
    simp only [Bool.false_eq_true, if_false]
    refine Ev.step (fun k => impl_ParseGraph.j0.eq_2 ..) ?_
    simp only [if_true]
    exact ev_some rfl
  | some n =>
    simp only [if_true]
    have go : 1 ≤ n → n ≤ 62 → s.length ≤ 24000 → Ev (fun q => impl_ParseGraph.j0 q (mkB s) (mkB (cut1 58 s).2) (n : Int) false) (pgV (fin n s (if (cut1 58 s).2 = [] then some (List.replicate n 0) else imR n (spl 44 (cut1 58 s).2) (List.replicate n 0)))) := by
      intro h1 h2 h3
      refine Ev.step (fun k => impl_ParseGraph.j0.eq_2 ..) ?_
      rw [impl_empty.sp (n : Int) (by omega) (by omega), Int.toNat_natCast, gr_empty, mkB_toList (cut1 58 s).2]
      simp only [Bool.false_eq_true, if_false, Option.bind_some]
      by_cases ce : (cut1 58 s).2 = []
      · simp only [if_pos ce]
        exact impl_fin h1 h2 s (fun _ _ => Iff.rfl) (fun _ h => h)
      · simp only [if_neg ce]
        have hc := spl_cnt 44 (cut1 58 s).2
        have hp := spl_len 44 (cut1 58 s).2
        rw [splitf _ 44 (by omega)]
        simp only [Option.bind_some, List.length_map]
        exact impl_ParseGraph.ev_l h1 h2 (by omega) (fun p h => Nat.le_trans (hp p h) (by omega)) (spl 44 (cut1 58 s).2).length 0 _ (fun _ _ => Iff.rfl) (fun _ h => h) (by omega)
    by_cases c : 1 ≤ n ∧ n ≤ 62 ∧ s.length ≤ 24000
    · rw [if_pos c, mkB_size]
      simp only [if_neg (show ¬ ((n : Int) < 1) by omega), if_neg (show ¬ ((n : Int) > 62) by omega), decide_eq_false (show ¬ ((s.length : Int) > 24000) by omega)]
      refine ev_cast (go c.1 c.2.1 c.2.2) ?_
      cases (if (cut1 58 s).2 = [] then some (List.replicate n 0) else imR n (spl 44 (cut1 58 s).2) (List.replicate n 0)) <;> rfl
    · rw [if_neg c, mkB_size]
      have no : Ev (fun q => impl_ParseGraph.j0 q (mkB s) (mkB (cut1 58 s).2) (n : Int) true) (pgV none) := by
        refine Ev.step (fun k => impl_ParseGraph.j0.eq_2 ..) ?_
        simp only [if_true]
        exact ev_some rfl
      by_cases c1 : n < 1
      · simp only [if_pos (show (n : Int) < 1 by omega)]; exact no
      · by_cases c2 : 62 < n
        · simp only [if_neg (show ¬ ((n : Int) < 1) by omega), if_pos (show (n : Int) > 62 by omega)]; exact no
        · simp only [if_neg (show ¬ ((n : Int) < 1) by omega), if_neg (show ¬ ((n : Int) > 62) by omega), decide_eq_true (show (s.length : Int) > 24000 by omega)]; exact no

theorem laws_eqInt64S.ev_l (l : List Int) (hl : l.length ≤ 281474976710656) (d : Nat) : ∀ (i : Nat), i + d = l.length → Ev (fun k => laws_eqInt64S.l0 k l l (i : Int)) true := by
  induction d with
  | zero =>
    intro i h3
    refine Ev.step (fun k => laws_eqInt64S.l0.eq_2 ..) ?_
    simp only [if_neg (show ¬ ((i : Int) < (l.length : Int)) by omega)]
    exact Ev.now _
  | succ d ih =>
    intro i h3
    refine Ev.step (fun k => laws_eqInt64S.l0.eq_2 ..) ?_
    simp only [if_pos (show (i : Int) < (l.length : Int) by omega), if_pos (show (0 : Int) ≤ (i : Int) by omega), if_true]
    rw [w64 (by omega) (by omega)]
    exact ih (i + 1) (by omega)
theorem laws_eqInt64S.ev (l : List Int) (hl : l.length ≤ 281474976710656) : Ev (fun k => laws_eqInt64S.f k l l) true := by
  unfold laws_eqInt64S.f
  simp only [if_true]
  exact laws_eqInt64S.ev_l l hl l.length 0 (by omega)

theorem laws_eqGraph.ev (n : Int) (l : List Int) (hl : l.length ≤ 281474976710656) : Ev (fun k => laws_eqGraph.f k n l n l) true := by
  unfold laws_eqGraph.f
  simp only [if_true]
  exact Ev.bind (laws_eqInt64S.ev l hl) (Ev.now _)

/-- The marks a + i, from the place i on. -/
theorem laws_markInt64S.ev_l (n : Nat) (a : Int) (ha : 0 ≤ a) (han : a + n ≤ 4611686018427387904) (d : Nat) : ∀ (i : Nat) (l : List Int), l.length = n → i + d = n →
    ∃ m : List Int, Ev (fun k => laws_markInt64S.l0 k l (a + i) (i : Int)) (a + n, m) ∧ m.length = n ∧ (∀ j, j < i → m[j]? = l[j]?) ∧ ∀ j : Nat, i ≤ j → j < n → rd m j = a + j := by
  induction d with
  | zero =>
    intro i l h1 h3
    refine ⟨l, ?_, h1, fun _ _ => rfl, fun j h h' => by omega⟩
    refine Ev.step (fun k => laws_markInt64S.l0.eq_2 ..) ?_
    simp only [if_neg (show ¬ ((i : Int) < (l.length : Int)) by omega)]
    have : i = n := by omega
    rw [this]
    exact Ev.now _
  | succ d ih =>
    intro i l h1 h3
    obtain ⟨m, hm, h4, h5, h6⟩ := ih (i + 1) (l.set i (a + i)) (by simp [h1]) (by omega)
    refine ⟨m, ?_, h4, fun j hj => ?_, fun j hj hj' => ?_⟩
    · refine Ev.step (fun k => laws_markInt64S.l0.eq_2 ..) ?_
      simp only [if_pos (show (i : Int) < (l.length : Int) by omega), if_pos (show (0 : Int) ≤ (i : Int) by omega)]
      rw [w64 (by omega) (by omega), w64 (by omega) (by omega), Int.add_assoc, Int.toNat_natCast]
      exact hm
    · rw [h5 j (by omega), List.getElem?_set_ne (by omega)]
    · by_cases e : j = i
      · subst e
        have := h5 j (by omega)
        rw [List.getElem?_set_self (by omega)] at this
        rw [rd_nat]
        simp [this]
      · exact h6 j (by omega) hj'
theorem laws_markInt64S.ev (l : List Int) (a : Int) (ha : 0 ≤ a) (han : a + l.length ≤ 4611686018427387904) :
    ∃ m : List Int, Ev (fun k => laws_markInt64S.f k l a) (a + l.length, m) ∧ m.length = l.length ∧ ∀ j : Nat, j < l.length → rd m j = a + j := by
  obtain ⟨m, hm, h4, _, h6⟩ := laws_markInt64S.ev_l l.length a ha han l.length 0 l rfl (by omega)
  refine ⟨m, ?_, h4, fun j hj => h6 j (by omega) hj⟩
  unfold laws_markInt64S.f
  have := hm
  simp only [Int.natCast_zero, Int.add_zero] at this
  exact this

theorem laws_markGraph.ev (n : Int) (l : List Int) (a : Int) (ha : 0 ≤ a) (han : a + l.length ≤ 4611686018427387904) :
    ∃ m : List Int, Ev (fun k => laws_markGraph.f k n l a) (a + l.length, m) ∧ m.length = l.length ∧ ∀ j : Nat, j < l.length → rd m j = a + j := by
  obtain ⟨m, hm, h4, h6⟩ := laws_markInt64S.ev l a ha han
  refine ⟨m, ?_, h4, h6⟩
  unfold laws_markGraph.f
  exact Ev.bind hm (Ev.now _)

theorem laws_heldInt64S.ev_l (m : List Int) (a : Int) (ha : 0 ≤ a) (han : a + m.length ≤ 4611686018427387904) (hm : ∀ j : Nat, j < m.length → rd m j = a + j) (d : Nat) :
    ∀ (i : Nat), i + d = m.length → Ev (fun k => laws_heldInt64S.l0 k m (a + i) (i : Int)) (a + m.length) := by
  induction d with
  | zero =>
    intro i h3
    refine Ev.step (fun k => laws_heldInt64S.l0.eq_2 ..) ?_
    simp only [if_neg (show ¬ ((i : Int) < (m.length : Int)) by omega)]
    have : i = m.length := by omega
    rw [this]
    exact Ev.now _
  | succ d ih =>
    intro i h3
    refine Ev.step (fun k => laws_heldInt64S.l0.eq_2 ..) ?_
    simp only [if_pos (show (i : Int) < (m.length : Int) by omega), if_pos (show (0 : Int) ≤ (i : Int) by omega), if_pos (hm i (by omega))]
    rw [w64 (by omega) (by omega), w64 (by omega) (by omega), Int.add_assoc]
    exact ih (i + 1) (by omega)
theorem laws_heldInt64S.ev (m : List Int) (a : Int) (ha : 0 ≤ a) (han : a + m.length ≤ 4611686018427387904) (hm : ∀ j : Nat, j < m.length → rd m j = a + j) :
    Ev (fun k => laws_heldInt64S.f k m a) (a + m.length) := by
  unfold laws_heldInt64S.f
  have := laws_heldInt64S.ev_l m a ha han hm m.length 0 (by omega)
  simp only [Int.natCast_zero, Int.add_zero] at this
  exact this

theorem laws_heldGraph.ev (n : Int) (m : List Int) (a : Int) (ha : 0 ≤ a) (han : a + m.length ≤ 4611686018427387904) (hm : ∀ j : Nat, j < m.length → rd m j = a + j) :
    Ev (fun k => laws_heldGraph.f k n m a) (a + m.length) := by
  unfold laws_heldGraph.f
  refine Ev.bind (laws_heldInt64S.ev m a ha han hm) ?_
  simp only [if_neg (show ¬ (a + (m.length : Int) < 0) by omega)]
  exact Ev.now _

end Go.Proofs.YtockngphfpedkaaDoor.XFnExactParseGraph
