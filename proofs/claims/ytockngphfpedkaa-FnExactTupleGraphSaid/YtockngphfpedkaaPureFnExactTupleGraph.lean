/- The pure statement of FnExactTupleGraph, for all arguments. -/
import Derived.Test.YtockngphfpedkaaLFnExactTupleGraph
namespace Go.Proofs.Ytockngphfpedkaa.Pure
open Go.RowKit Go.Proofs.Ytockngphfpedkaa.XFnExactTupleGraph Go.Proofs.YtockngphfpedkaaW.PrintWords Go.Proofs.YtockngphfpedkaaW.PrintLast Go.Proofs.Ytockngphfpedkaa.B
open Classical
set_option linter.unusedVariables false
set_option linter.unusedSimpArgs false

theorem tup_l2 (q : Nat) (hq : q ≤ 7) (x12 x13 : Int) (x16 : List (List Int)) (x17 x18 : Int) (x8 : List Int) (m : Nat) (hm : m ≤ 100) (h8 : x8.length ≤ m) : ∀ (d : Nat) (x6 : List (List Int)) (x23 : Int), x23 + d = q → 0 ≤ x23 → x6.length + d ≤ 100000 → (∀ r ∈ x6, r.length ≤ m + 1) →
    ∃ y : List (List Int), y.length = x6.length + d ∧ (∀ r ∈ y, r.length ≤ m + 1) ∧ ∀ R, Ev (fun k => impl_tuples.l1 k q y x12 x13 x16 x17 (wrap64 (x18 + 1))) R → Ev (fun k => impl_tuples.l2 k q x6 x8 x12 x13 x16 x17 x18 q x23) R
  | 0, x6, x23, hd, h0, hl, hr => ⟨x6, by omega, hr, fun R hk => by
    refine Ev.step (fun k => impl_tuples.l2.eq_2 ..) ?_
    simp only [if_neg (show ¬ x23 < (q : Int) by omega)]
    exact hk⟩
  | d + 1, x6, x23, hd, h0, hl, hr => by
    obtain ⟨y, hy, hyr, hyR⟩ := tup_l2 q hq x12 x13 x16 x17 x18 x8 m hm h8 d (x6 ++ [x8 ++ [x23]]) (x23 + 1) (by omega) (by omega) (by simp; omega) (fun r hr2 => by
      rcases List.mem_append.1 hr2 with h | h
      · exact hr r h
      · rw [List.mem_singleton.1 h]; simp; omega)
    refine ⟨y, by rw [hy]; simp; omega, hyr, fun R hk => ?_⟩
    refine Ev.step (fun k => impl_tuples.l2.eq_2 ..) ?_
    simp only [if_pos (show x23 < (q : Int) by omega)]
    refine Ev.bind (ev_eq (r := x8) fun _ => by unfold slices_Clone_int64_int64.f; rw [if_pos (by omega)]) ?_
    simp only [if_pos (show x8.length < 17592186044416 by omega), if_pos (show x6.length < 5864062014805 by omega)]
    rw [show wrap64 (x23 + 1) = x23 + 1 by unfold wrap64; omega]
    exact hyR R hk
theorem tup_l1 (q : Nat) (hq : q ≤ 7) (x12 x13 : Int) (x16 : List (List Int)) (m : Nat) (hm : m ≤ 100) (h16 : ∀ r ∈ x16, r.length ≤ m) (hn : x16.length ≤ 1000) : ∀ (d : Nat) (x6 : List (List Int)) (x18 : Int), x18 + d = x16.length → 0 ≤ x18 → x6.length + d * q ≤ 100000 → (∀ r ∈ x6, r.length ≤ m + 1) →
    ∃ y : List (List Int), y.length = x6.length + d * q ∧ (∀ r ∈ y, r.length ≤ m + 1) ∧ ∀ R, Ev (fun k => impl_tuples.l0 k q y x12 (wrap64 (x13 + 1))) R → Ev (fun k => impl_tuples.l1 k q x6 x12 x13 x16 (x16.length : Int) x18) R
  | 0, x6, x18, hd, h0, hl, hr => ⟨x6, by omega, hr, fun R hk => by
    refine Ev.step (fun k => impl_tuples.l1.eq_2 ..) ?_
    simp only [if_neg (show ¬ x18 < (x16.length : Int) by omega)]
    exact hk⟩
  | d + 1, x6, x18, hd, h0, hl, hr => by
    have hd1 : (d + 1) * q = d * q + q := Nat.succ_mul d q
    obtain ⟨y, hy, hyr, hyR⟩ := tup_l2 q hq x12 x13 x16 (x16.length : Int) x18 (rd_L1 x16 x18) m hm (by
      unfold rd_L1
      rw [List.getD_eq_getElem?_getD, List.getElem?_eq_getElem (show x18.toNat < x16.length by omega)]
      exact h16 _ (List.getElem_mem _)) q x6 0 (by omega) (by omega) (by omega) hr
    obtain ⟨z, hz, hzr, hzR⟩ := tup_l1 q hq x12 x13 x16 m hm h16 hn d y (x18 + 1) (by omega) (by omega) (by omega) hyr
    refine ⟨z, by omega, hzr, fun R hk => ?_⟩
    refine Ev.step (fun k => impl_tuples.l1.eq_2 ..) ?_
    simp only [if_pos (show x18 < (x16.length : Int) by omega), if_pos h0]
    refine hyR R ?_
    rw [show wrap64 (x18 + 1) = x18 + 1 by unfold wrap64; omega]
    exact hzR R hk
theorem tup_l0 (q : Nat) (hq : q ≤ 7) (x12 : Int) (x13 : Int) (x5 : List (List Int)) (m : Nat) (hm : m ≤ 100) (h5 : ∀ r ∈ x5, r.length ≤ m) (hn : x5.length ≤ 1000) (hlt : x13 < x12) (h0 : 0 ≤ x13) (h1 : x13 ≤ 1000) :
    ∃ y : List (List Int), y.length = x5.length * q ∧ (∀ r ∈ y, r.length ≤ m + 1) ∧ ∀ R, Ev (fun k => impl_tuples.l0 k q y x12 (x13 + 1)) R → Ev (fun k => impl_tuples.l0 k q x5 x12 x13) R := by
  have hb : x5.length * q ≤ 1000 * 7 := Nat.mul_le_mul hn hq
  obtain ⟨y, hy, hyr, hyR⟩ := tup_l1 q hq x12 x13 x5 m hm h5 hn x5.length [] 0 (by omega) (by omega) (by simp; omega) (by simp)
  refine ⟨y, by rw [hy]; simp, hyr, fun R hk => ?_⟩
  refine Ev.step (fun k => impl_tuples.l0.eq_2 ..) ?_
  simp only [if_pos hlt]
  refine hyR R ?_
  rw [show wrap64 (x13 + 1) = x13 + 1 by unfold wrap64; omega]
  exact hk
theorem tup_47 : ∃ l : List (List Int), l.length = 2401 ∧ Ev (fun k => impl_tuples.f k 4 7) l := by
  obtain ⟨y1, l1, r1, R1⟩ := tup_l0 7 (by omega) 4 0 [[]] 0 (by omega) (by simp) (by simp) (by omega) (by omega) (by omega)
  obtain ⟨y2, l2, r2, R2⟩ := tup_l0 7 (by omega) 4 1 y1 1 (by omega) r1 (by rw [l1]; decide) (by omega) (by omega) (by omega)
  obtain ⟨y3, l3, r3, R3⟩ := tup_l0 7 (by omega) 4 2 y2 2 (by omega) r2 (by rw [l2, l1]; decide) (by omega) (by omega) (by omega)
  obtain ⟨y4, l4, r4, R4⟩ := tup_l0 7 (by omega) 4 3 y3 3 (by omega) r3 (by rw [l3, l2, l1]; decide) (by omega) (by omega) (by omega)
  refine ⟨y4, by rw [l4, l3, l2, l1]; decide, ?_⟩
  unfold impl_tuples.f
  refine R1 _ (R2 _ (R3 _ (R4 _ ?_)))
  refine Ev.step (fun k => impl_tuples.l0.eq_2 ..) ?_
  simp only [if_neg (show ¬ ((3 : Int) + 1 < 4) by omega)]
  exact Ev.now _
theorem law_47 : ∃ k, laws_FnExactTupleGraph.f k 4 7 = some true := by
  obtain ⟨l, hl, h⟩ := tup_47
  have hs : Ev (fun k => spec_TupleGraph.f k 4 7) (0, [], 3) := Ev.of (k := 50) (fun k => spec_TupleGraph.mono 4 7 k) (by decide +kernel)
  have hi : Ev (fun k => impl_TupleGraph.f k 4 7) (0, [], 3) := by
    unfold impl_TupleGraph.f
    simp only [if_neg (show ¬ ((4 : Int) < 2) by omega), if_neg (show ¬ ((4 : Int) > 4) by omega)]
    refine Ev.bind (ev_eq (r := true) fun _ => by decide) ?_
    simp only [if_true]
    refine Ev.bind h ?_
    simp only [hl, if_pos (show 2401 ≤ 5000 by omega), if_pos (show 2 * ((2401 : Nat) : Int) > 62 by omega)]
    exact Ev.now _
  refine Ev.rounds (g := fun q => laws_FnExactTupleGraph.f q 4 7) ?_
  unfold laws_FnExactTupleGraph.f
  have he : Ev (fun k => laws_eqGraph.f k 0 [] 0 []) true := Ev.of (k := 20) (fun k => laws_eqGraph.mono _ _ _ _ k) (by decide +kernel)
  have hm : Ev (fun k => laws_markGraph.f k 0 [] 1) (1, []) := Ev.of (k := 20) (fun k => laws_markGraph.mono _ _ _ k) (by decide +kernel)
  have hh : Ev (fun k => laws_heldGraph.f k 0 [] 1) 1 := Ev.of (k := 20) (fun k => laws_heldGraph.mono _ _ _ k) (by decide +kernel)
  repeat (first
    | with_reducible exact Ev.now _
    | with_reducible refine Ev.bind hs ?_
    | with_reducible refine Ev.bind hi ?_
    | with_reducible refine Ev.bind he ?_
    | with_reducible refine Ev.bind hm ?_
    | with_reducible refine Ev.bind hh ?_
    | with_reducible refine Ev.step (fun k => laws_FnExactTupleGraph.j0.eq_2 ..) ?_
    | with_reducible refine Ev.step (fun k => laws_FnExactTupleGraph.j1.eq_2 ..) ?_
    | simp only [if_true, if_false, Bool.false_eq_true, bne_self_eq_false, Bool.not_true, Bool.not_false, if_neg (show ¬ ((1 : Int) < 0) by omega)])
set_option maxHeartbeats 40000000 in
theorem FnExactTupleGraph : laws_FnExactTupleGraph.Pure := by
  intro a0 a1 _ _
  have go : (∀ k, spec_TupleGraph.f (k + 1) a0 a1 = some (0, [], 2)) → (∀ k, impl_TupleGraph.f k a0 a1 = some (0, [], 2)) → laws_FnExactTupleGraph.f 20 a0 a1 = some true := by
    intro hs hi
    unfold laws_FnExactTupleGraph.f
    rw [hs 19, hi]
    show laws_FnExactTupleGraph.j0 20 a0 a1 2 false 0 [] 0 [] = some true
    rw [laws_FnExactTupleGraph.j0.eq_2]
    show ((impl_TupleGraph.f 19 a0 a1).bind fun bt195 => ((laws_eqGraph.f 19 bt195.1 bt195.2.1 0 []).bind fun t201 => (if t201 = true then (laws_FnExactTupleGraph.j1 19 1 (bt195.2.2 != 2) 0 []) else (laws_FnExactTupleGraph.j1 19 1 true 0 [])))) = some true
    rw [hi]
    decide +kernel
  have sj : ∀ k, spec_TupleGraph.j0 (k + 1) a0 a1 true = some (0, [], 2) := fun k => by rw [spec_TupleGraph.j0.eq_2]; rfl
  by_cases hk : a0 < 2
  · refine ⟨20, go (fun k => ?_) (fun k => ?_)⟩
    · have hin : spec_l01In.f a0 2 4 = some false := by unfold spec_l01In.f; rw [if_neg (by omega)]
      unfold spec_TupleGraph.f spec_l04Prime.f
      rw [hin]
      repeat' (split)
      all_goals (simp only [Option.bind_some, Bool.not_false, if_true, ite_self]; first | exact sj k | (split <;> exact sj k))
    · unfold impl_TupleGraph.f; rw [if_pos hk]
  by_cases hk4 : a0 > 4
  · refine ⟨20, go (fun k => ?_) (fun k => ?_)⟩
    · have hin : spec_l01In.f a0 2 4 = some false := by unfold spec_l01In.f; rw [if_pos (by omega), decide_eq_false (by omega)]
      unfold spec_TupleGraph.f spec_l04Prime.f
      rw [hin]
      repeat' (split)
      all_goals (simp only [Option.bind_some, Bool.not_false, if_true, ite_self]; first | exact sj k | (split <;> exact sj k))
    · unfold impl_TupleGraph.f; rw [if_neg hk, if_pos hk4]
  by_cases hp : a1 = 2 ∨ a1 = 3 ∨ a1 = 5 ∨ a1 = 7
  · have hk3 : a0 = 2 ∨ a0 = 3 ∨ a0 = 4 := by omega
    rcases hk3 with rfl | rfl | rfl <;> rcases hp with rfl | rfl | rfl | rfl <;> first | exact law_47 | exact ⟨20000, by decide +kernel⟩
  have h2 : ¬ a1 = 2 := by omega
  have h3 : ¬ a1 = 3 := by omega
  have h5 : ¬ a1 = 5 := by omega
  have h7 : ¬ a1 = 7 := by omega
  have hp' : spec_l04Prime.f a1 = some false := by unfold spec_l04Prime.f; rw [if_neg h2, if_neg h3, if_neg h5, beq_eq_false_iff_ne.mpr h7]
  have hq : impl_isPrime.f a1 = some false := by unfold impl_isPrime.f; rw [if_neg h2, if_neg h3, if_neg h5, beq_eq_false_iff_ne.mpr h7]
  refine ⟨20, go (fun k => ?_) (fun k => ?_)⟩
  · unfold spec_TupleGraph.f
    rw [hp']
    exact sj k
  · unfold impl_TupleGraph.f
    rw [if_neg hk, if_neg hk4, hq]
    rfl

end Go.Proofs.Ytockngphfpedkaa.Pure
