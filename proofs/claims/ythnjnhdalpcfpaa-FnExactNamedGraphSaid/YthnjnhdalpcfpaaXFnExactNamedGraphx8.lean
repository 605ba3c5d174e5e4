-- Written by this project's own program (mprint.py) by means of the kit's printer: with contracts of its own for the functions that the printer leaves out.
import Derived.Test.YthnjnhdalpcfpaaXFnExactNamedGraphx0
import Derived.Test.YthnjnhdalpcfpaaXFnExactNamedGraphx7
namespace Go.Proofs.Ythnjnhdalpcfpaa.XFnExactNamedGraph
open Go.RowKit Go.Proofs.YthnjnhdalpcfpaaW.PrintWords Go.Proofs.YthnjnhdalpcfpaaW.PrintLast Go.Proofs.YthnjnhdalpcfpaaW.PrintMore
attribute [local go_sem] max2_int min2_int max_two min_two max_three min_three max_four min_four   -- for this text's walks alone
set_option linter.unusedVariables false
set_option linter.unusedSimpArgs false

/-! ### impl_ringGraph: function 71 -/
def impl_ringGraph.l0 : Nat → Int → Int → Int → Int → Int → List Int → Option (Int × List Int)
  | 0, _, _, _, _, _, _ => none
  | k + 1, x0, x1, x10, x11, x307000, x307001 => if x11 < x10 then (if x0 = 0 then (none) else ((impl_Graph_put.f x307000 x307001 x11 (Int.tmod (wrap64 (x11 + 1)) x0)).bind fun t307 => ((impl_Graph_put.f x307000 t307 x11 (wrap64 (x0 + x11))).bind fun t308 => ((impl_Graph_put.f x307000 t308 (wrap64 (x0 + x11)) (wrap64 (x0 + (Int.tmod (wrap64 (x11 + x1)) x0)))).bind fun t309 => (impl_ringGraph.l0 k x0 x1 x10 (wrap64 (x11 + 1)) x307000 t309))))) else (some (x307000, x307001))
def impl_ringGraph.f (k : Nat) (a0 : Int) (a1 : Int) : Option (Int × List Int) := (impl_empty.f (wrap64 (2 * a0))).bind fun bt302 => (impl_ringGraph.l0 k a0 a1 a0 0 bt302.1 bt302.2)
theorem impl_ringGraph.mono_l : ∀ k, (∀ y0 y1 y2 y3 y4 y5, LeO (impl_ringGraph.l0 k y0 y1 y2 y3 y4 y5) (impl_ringGraph.l0 (k + 1) y0 y1 y2 y3 y4 y5))
  | 0 => fun _ _ _ _ _ _ r h => by simp [impl_ringGraph.l0] at h
  | k + 1 => by
    have ih0 := impl_ringGraph.mono_l k
    · intro y0 y1 y2 y3 y4 y5
      unfold impl_ringGraph.l0
      repeat' first
      | (with_reducible exact ih0 _ _ _ _ _ _)
      | (with_reducible exact LeO.refl _)
      | (with_reducible exact LeO.none _)
      | (with_reducible refine LeO.ite ?_ ?_)
      | (with_reducible refine LeO.bind ?_ (fun _ => ?_))
      | exact ih0 _ _ _ _ _ _
      | exact LeO.none _
      | refine LeO.ite ?_ ?_
      | refine LeO.bind ?_ (fun _ => ?_)
theorem impl_ringGraph.mono : ∀ a0 a1 k, LeO (impl_ringGraph.f k a0 a1) (impl_ringGraph.f (k + 1) a0 a1) := by
  intro a0 a1 k
  have ih0 := impl_ringGraph.mono_l k
  unfold impl_ringGraph.f
  repeat' first
      | (with_reducible exact ih0 _ _ _ _ _ _)
      | (with_reducible exact LeO.refl _)
      | (with_reducible exact LeO.none _)
      | (with_reducible refine LeO.ite ?_ ?_)
      | (with_reducible refine LeO.bind ?_ (fun _ => ?_))
      | exact ih0 _ _ _ _ _ _
      | exact LeO.none _
      | refine LeO.ite ?_ ?_
      | refine LeO.bind ?_ (fun _ => ?_)
def impl_ringGraph.T7 : Bool × List (List Nat × List Nat) := (true, [([], []), ([], []), ([], []), ([1, 2], [1, 2]), ([], []), ([], []), ([], []), ([5, 6], [5, 6]), ([], []), ([7, 8], [7, 8]), ([4, 9], [4, 9]), ([0, 3, 10], [0, 3, 10])])
def impl_ringGraph.B7 : List Nat := [0, 0, 0, 6, 0, 0, 0, 96, 0, 480, 1008, 2047]
theorem impl_ringGraph.tab7 : rtab .any (opsOf Try.f71 7) = impl_ringGraph.T7 := by kernel_rfl
theorem impl_ringGraph.bits7 : waitsOk impl_ringGraph.T7.2 impl_ringGraph.B7 = true := by kernel_rfl
set_option maxHeartbeats 8000000 in
set_option maxRecDepth 100000 in
theorem impl_ringGraph.calls (k : Nat) (a0 : Int) (a1 : Int) (r1 : Int) (r2 : List Int) (w : World) (h : impl_ringGraph.f k a0 a1 = some (r1, r2)) :
    Calls Try.prog 71 #[.int .i64 a0, .int .i64 a1] w fun e w' => ∃ v1_ : Value, e = .returned (.agg #[.int .i64 r1, v1_]) ∧ Kd.R (Kd.int .i64) 2 w' w.heap.size (fun _ => True) v1_ r2 ∧ Below w.heap.size w w' := by
  have hu34 := Try.underlying34
  have HB := Aside0.mk (Below.refl w.heap.size w)
  have H : ((impl_empty.f (wrap64 (2 * a0))).bind fun bt302 => (impl_ringGraph.l0 k a0 a1 a0 0 bt302.1 bt302.2)) = some (r1, r2) := h
  clear h
  replace H := Option.bind_eq_some_iff.mp H
  obtain ⟨⟨t302, t303⟩, A30, H⟩ := H
  replace H : (impl_ringGraph.l0 k a0 a1 a0 0 t302 t303) = some (r1, r2) := H
  have A3 := Aside0.mk A30
  clear A30
  have H' := Aside0.mk H
  clear H
  go_enter Try.func71, Try.ntmps71
  go_wp2_with (first | ((with_reducible refine gate_dst (N := 4) rfl ?_); refine box_event ?hg (N := 4) ?hd (cs := #[.int .i64 0, .slice none 0 0]) (t := 34) ?hr ?_; (case hd => rfl); (case hg => rfl); (case hr => first | (go_simp; done) | (go_simp; rfl)); intro gb301 hg w4 hbox hb; have n0_ := Aside0.mk (below_step (by repeat (first | (with_reducible first | exact HB.out | apply below_alloc | apply pw_below_drewN | apply below_drew1) | exact HB.out)) hb); have n1_ := Aside0.mk (hbox); have n2_ := Aside0.mk ((by rw [hg]; exact (below_size (by repeat (first | (with_reducible first | exact HB.out | apply below_alloc | apply pw_below_drewN | apply below_drew1) | exact HB.out))) : w.heap.size ≤ gb301)); have n3_ := Aside0.mk ((by rw [hg]; exact (below_size (by repeat (first | (with_reducible first | exact HB.out | apply below_alloc | apply pw_below_drewN | apply below_drew1) | exact HB.out))) : w.heap.size ≤ gb301)); clear HB; have HB := n0_; have BK301 := n1_; have GW301 := n2_; have GE301 := n3_; clear n0_ n1_ n2_ n3_; clear hb hbox hg) | ((with_reducible refine gate_callee (f := 51) rfl ?_); refine goesL_ (some 9) rfl rfl Try.func51 (by kernel_rfl) rfl #[.int .i64 (wrap64 (2 * a0))] rfl (by (try simp only [List.map_toArray, List.map_cons, List.map_nil]); first | done | rfl | (simp only [List.length_drop, List.length_take]; rfl)) ?_; (with_reducible refine (impl_empty.calls (wrap64 (2 * a0)) t302 t303 _ A3.out).mono ?_); rintro e w5 ⟨v304, rfl, ho0, hb⟩; refine ⟨_, rfl, ?_⟩; have n0_ := Aside0.mk (Kd.R_lower ho0 (below_size (by repeat (first | (with_reducible first | exact HB.out | apply below_alloc | apply pw_below_drewN | apply below_drew1 | refine below_set ?_ GE301.out) | exact HB.out)))); have n1_ := Aside0.mk (blk_below (g := gb301) (o := .cells #[.int .i64 0, .slice none 0 0] 34 (0, 0)) (by (with_reducible repeat (first | refine blk_drewN ?_ _ | refine blk_drew ?_ | refine blk_alloc ?_ _)); exact BK301.out) hb); have n2_ := Aside0.mk (below_step (by repeat (first | (with_reducible first | exact HB.out | apply below_alloc | apply pw_below_drewN | apply below_drew1 | refine below_set ?_ GE301.out) | exact HB.out)) hb); clear BK301; clear HB; have HO305 := n0_; have BK301 := n1_; have HB := n2_; clear n0_ n1_ n2_; (try clear hb); (try clear hb2); (try clear hk); (try clear hi); (try clear ho0)) | ((with_reducible refine gate_dst (N := 5) rfl ?_); refine box_event ?hg (N := 5) ?hd (cs := #[.int .i64 0, .slice none 0 0]) (t := 34) ?hr ?_; (case hd => rfl); (case hg => rfl); (case hr => first | (go_simp; done) | (go_simp; rfl)); intro gb306 hg w6 hbox hb; have n0_ := Aside0.mk (Kd.R_below (by (with_reducible repeat (first | apply Kd.R_alloc | apply Kd.R_drewN | apply Kd.R_drew)); exact HO305.out) hb); have n1_ := Aside0.mk (blk_below (g := gb301) (o := .cells #[.int .i64 0, .slice none 0 0] 34 (0, 0)) (by (with_reducible repeat (first | refine blk_drewN ?_ _ | refine blk_drew ?_ | refine blk_alloc ?_ _)); exact BK301.out) hb); have n2_ := Aside0.mk (below_step (by repeat (first | (with_reducible first | exact HB.out | apply below_alloc | apply pw_below_drewN | apply below_drew1 | refine below_set ?_ GE301.out) | exact HB.out)) hb); have n3_ := Aside0.mk (hbox); have n4_ := Aside0.mk ((by rw [hg]; exact (below_size (by repeat (first | (with_reducible first | exact HB.out | apply below_alloc | apply pw_below_drewN | apply below_drew1 | refine below_set ?_ GE301.out) | exact HB.out))) : w.heap.size ≤ gb306)); have n5_ := Aside0.mk ((by rw [hg]; exact (below_size (by repeat (first | (with_reducible first | exact HB.out | apply below_alloc | apply pw_below_drewN | apply below_drew1 | refine below_set ?_ GE301.out) | exact HB.out))) : w.heap.size ≤ gb306)); have n6_ := Aside0.mk ((by rw [hg]; exact Nat.ne_of_lt (blk_lt (g := gb301) (o := .cells #[.int .i64 0, .slice none 0 0] 34 (0, 0)) (by (with_reducible repeat (first | refine blk_drewN ?_ _ | refine blk_drew ?_ | refine blk_alloc ?_ _)); exact BK301.out)) : gb301 ≠ gb306)); have n7_ := Aside0.mk ((by rw [hg]; exact Nat.ne_of_gt (blk_lt (g := gb301) (o := .cells #[.int .i64 0, .slice none 0 0] 34 (0, 0)) (by (with_reducible repeat (first | refine blk_drewN ?_ _ | refine blk_drew ?_ | refine blk_alloc ?_ _)); exact BK301.out)) : gb306 ≠ gb301)); clear HO305; clear BK301; clear HB; have HO305 := n0_; have BK301 := n1_; have HB := n2_; have BK306 := n3_; have GW306 := n4_; have GE306 := n5_; have NB301_306 := n6_; have NB306_301 := n7_; clear n0_ n1_ n2_ n3_ n4_ n5_ n6_ n7_; clear hb hbox hg; have hnb7 := NB306_301.out; have hnc7 := NB301_306.out; have hcz8_0 : w6.cell? ⟨gb306, 0, none⟩ = some (.int .i64 0) := (blk_cell BK306.out 0).trans rfl; have hcz8_1 : w6.cell? ⟨gb306, 1, none⟩ = some (.slice none 0 0) := (blk_cell BK306.out 1).trans rfl; have hfz8_0 := blk_frozen BK306.out 0; have hfz8_1 := blk_frozen BK306.out 1; obtain ⟨Ao9, co9, eo9⟩ := Kd.R_slice HO305.out; subst eo9))
  go_loopg [11] k (fun kq v11 w' => ∃ (x11_1 : Int) (x307001_1 : List Int) (u307001 : Value), v11 = .int .i64 x11_1 ∧ Aside0 (impl_ringGraph.l0 kq a0 a1 a0 x11_1 t302 x307001_1 = some (r1, r2)) ∧ Aside0 (kq ≤ k) ∧ Aside0 (Kd.R (Kd.int .i64) 2 w' w.heap.size (fun _ => True) u307001 x307001_1) ∧ Aside0 (w'.heap[gb301]? = some (.cells #[.int .i64 0, (.slice none 0 0)] 34 (0, 0))) ∧ Aside0 (w'.heap[gb306]? = some (.cells #[.int .i64 t302, u307001] 34 (0, 0))) ∧ Aside0 (Below w.heap.size w w'))
  case atStart => exact ⟨(0), (t303), (.slice Ao9 t303.length co9), (by first | rfl | (simp; done) | (simp [*]; done)), H', ⟨Nat.le_refl _⟩, ⟨by (with_reducible repeat (first | apply Kd.R_alloc | apply Kd.R_drewN | apply Kd.R_drew)); exact Kd.R_mono (Kd.R_far (p := ⟨gb306, 1, none⟩) (Kd.R_far (p := ⟨gb306, 0, none⟩) (Kd.R_types HO305.out BK306.out (by decide)) (fun _ hk => hk.2) (.int .i64 t302)) (fun _ hk => hk.2) (.slice Ao9 t303.length co9)) (fun _ hk => trivial)⟩, ⟨by (with_reducible repeat (first | refine blk_drewN ?_ _ | refine blk_drew ?_ | refine blk_alloc ?_ _)); refine blk_far ?_ NB301_306.out _; (with_reducible repeat (first | refine blk_drewN ?_ _ | refine blk_drew ?_ | refine blk_alloc ?_ _)); refine blk_far ?_ NB301_306.out _; (with_reducible repeat (first | refine blk_drewN ?_ _ | refine blk_drew ?_ | refine blk_alloc ?_ _)); exact BK301.out⟩, ⟨by (with_reducible repeat (first | refine blk_drewN ?_ _ | refine blk_drew ?_ | refine blk_alloc ?_ _)); refine blk_put (cs := #[.int .i64 t302, .slice none 0 0]) ?_ 1 _ rfl; (with_reducible repeat (first | refine blk_drewN ?_ _ | refine blk_drew ?_ | refine blk_alloc ?_ _)); refine blk_put (cs := #[.int .i64 0, .slice none 0 0]) ?_ 0 _ rfl; (with_reducible repeat (first | refine blk_drewN ?_ _ | refine blk_drew ?_ | refine blk_alloc ?_ _)); exact BK306.out⟩, ⟨by repeat (first | (with_reducible first | exact HB.out | apply below_alloc | apply pw_below_drewN | apply below_drew1 | refine below_set ?_ GE301.out | refine below_set ?_ GE306.out) | exact HB.out)⟩⟩
  case round =>
    clear H'
    try clear p2
    try clear c5
    try clear p6
    try clear c7
    try clear hcz8_0
    try clear hcz8_1
    try clear hfz8_0
    try clear hfz8_1
    obtain ⟨x11_1, x307001_1, u307001, rfl, HA, HK1, HO_307001, BK301, BK306, HB⟩ := hrel
    cases gk with
    | zero => exact absurd HA.out (by simp [impl_ringGraph.l0])
    | succ k1 =>
      have H := HA.out
      clear HA
      simp only [impl_ringGraph.l0] at H
      by_cases c10 : x11_1 < a0
      · rw [if_pos c10] at H
        have c10b0 : decide (x11_1 < a0) = true := decide_eq_true c10
        clear c10
        by_cases c11 : a0 = 0
        · rw [if_pos c11] at H
          exact absurd H (by simp)
        · rw [if_neg c11] at H
          have c11b0 : (a0 == 0) = false := beq_eq_false_iff_ne.mpr c11
          have c11b1 : (a0 != 0) = true := bne_iff_ne.mpr c11
          replace H := Option.bind_eq_some_iff.mp H
          obtain ⟨t307, A120, H⟩ := H
          replace H : ((impl_Graph_put.f t302 t307 x11_1 (wrap64 (a0 + x11_1))).bind fun t308 => ((impl_Graph_put.f t302 t308 (wrap64 (a0 + x11_1)) (wrap64 (a0 + (Int.tmod (wrap64 (x11_1 + a1)) a0)))).bind fun t309 => (impl_ringGraph.l0 k1 a0 a1 a0 (wrap64 (x11_1 + 1)) t302 t309))) = some (r1, r2) := H
          have A12 := Aside0.mk A120
          clear A120
          replace H := Option.bind_eq_some_iff.mp H
          obtain ⟨t308, A130, H⟩ := H
          replace H : ((impl_Graph_put.f t302 t308 (wrap64 (a0 + x11_1)) (wrap64 (a0 + (Int.tmod (wrap64 (x11_1 + a1)) a0)))).bind fun t309 => (impl_ringGraph.l0 k1 a0 a1 a0 (wrap64 (x11_1 + 1)) t302 t309)) = some (r1, r2) := H
          have A13 := Aside0.mk A130
          clear A130
          replace H := Option.bind_eq_some_iff.mp H
          obtain ⟨t309, A140, H⟩ := H
          replace H : (impl_ringGraph.l0 k1 a0 a1 a0 (wrap64 (x11_1 + 1)) t302 t309) = some (r1, r2) := H
          have A14 := Aside0.mk A140
          clear A140
          have H' := Aside0.mk H
          clear H
          try go_wp2
          have n0_ := Aside0.mk (Kd.R_drew HO_307001.out)
          have n1_ := Aside0.mk (blk_drew BK301.out)
          have n2_ := Aside0.mk (blk_drew BK306.out)
          have n3_ := Aside0.mk (below_drew1 HB.out)
          clear HO_307001
          clear BK301
          clear BK306
          clear HB
          have HO_307001 := n0_
          have BK301 := n1_
          have BK306 := n2_
          have HB := n3_
          clear n0_ n1_ n2_ n3_
          obtain ⟨Ao16, co16, eo16⟩ := Kd.R_slice HO_307001.out
          (first | subst eo16 | (injection eo16 with f1_ f2_ f3_; have f4_ := f1_.symm; have f5_ := f3_.symm; clear f1_ f2_ f3_; subst f4_; subst f5_))
          refine start_ (n := 7) (S := fun w' => w'.cell? ⟨gb306, 0, none⟩ = some (.int .i64 t302) ∧ w'.cell? ⟨gb306, 1, none⟩ = some (.slice Ao16 x307001_1.length co16)) (ds := []) #[false, false, false, false, false, false, false] (by kernel_rfl) rfl rfl ⟨(blk_cell BK306.out 0).trans rfl, (blk_cell BK306.out 1).trans rfl⟩ (fun hHeld => ?_)
          generalize wr.drew = w15 at HO_307001 BK301 BK306 HB hHeld ⊢
          refine pure_ (i := 1) (N := some 15) (v := ?_) (a' := ?_) #[false, true, false, false, false, false, false] rfl rfl (by kernel_rfl) (fun _ _ _ h => h) (Or.inl ⟨by rfl, ?_⟩) ?_ ?_
          rotate_left
          · intro w'
            go_simp
            with_reducible rfl
          rotate_left
          · simp only [Act.put, List.setIfInBounds_toArray, List.set_cons_zero, List.set_cons_succ, i64_w, i32_w]
            rfl
          refine pure_ (i := 2) (N := some 16) (v := ?_) (a' := ?_) #[false, true, true, false, false, false, false] rfl rfl (by kernel_rfl) (fun _ _ _ h => h) (Or.inl ⟨by rfl, ?_⟩) ?_ ?_
          rotate_left
          · intro w'
            go_simp
            with_reducible rfl
          rotate_left
          · simp only [Act.put, List.setIfInBounds_toArray, List.set_cons_zero, List.set_cons_succ, i64_w, i32_w]
            rfl
          refine pure_ (i := 3) (N := some 17) (v := ?_) (a' := ?_) #[false, true, true, true, false, false, false] rfl rfl (by kernel_rfl) (fun _ _ _ h => h) (Or.inl ⟨by rfl, ?_⟩) ?_ ?_
          rotate_left
          · intro w'
            go_simp
            with_reducible rfl
          rotate_left
          · simp only [Act.put, List.setIfInBounds_toArray, List.set_cons_zero, List.set_cons_succ, i64_w, i32_w]
            rfl
          refine pure_ (i := 4) (N := some 18) (v := ?_) (a' := ?_) #[false, true, true, true, true, false, false] rfl rfl (by kernel_rfl) (fun _ _ _ h => h) (Or.inl ⟨by rfl, ?_⟩) ?_ ?_
          rotate_left
          · intro w'
            go_simp
            with_reducible rfl
          rotate_left
          · simp only [Act.put, List.setIfInBounds_toArray, List.set_cons_zero, List.set_cons_succ, i64_w, i32_w]
            rfl
          refine pure_ (i := 5) (N := some 19) (v := ?_) (a' := ?_) #[false, true, true, true, true, true, false] rfl rfl (by kernel_rfl) (fun _ _ _ h => h) (Or.inl ⟨by rfl, ?_⟩) ?_ ?_
          rotate_left
          · intro w'
            go_simp
            with_reducible rfl
          rotate_left
          · simp only [Act.put, List.setIfInBounds_toArray, List.set_cons_zero, List.set_cons_succ, i64_w, i32_w]
            rfl
          refine take_ (i := 0) (N := some 14) (v := ?_) (a' := ?_) #[true, true, true, true, true, true, false] rfl rfl (by kernel_rfl) (fun _ _ _ h => h) (Or.inl ⟨by rfl, ?_⟩) hHeld ?_ ?_
          rotate_left
          · rintro w' ⟨s0, s1⟩
            go_simp
            with_reducible rfl
          rotate_left
          · simp only [Act.put, List.setIfInBounds_toArray, List.set_cons_zero, List.set_cons_succ, i64_w, i32_w]
            rfl
          refine one_ (i := 6) (N := some 20) #[true, true, true, true, true, true, true] rfl rfl (by kernel_rfl) (by decide) (fun K hK => ?_)
          refine goes_ Try.func52 (by kernel_rfl) rfl #[.agg #[.int .i64 t302, .slice Ao16 x307001_1.length co16], .int .i64 x11_1, .int .i64 (Int.tmod (wrap64 (x11_1 + 1)) a0)] (by rfl) rfl rfl (by (try simp only [List.map_toArray, List.map_cons, List.map_nil]); first | done | rfl | (simp only [List.length_drop, List.length_take]; rfl)) ?_
          with_reducible refine (impl_Graph_put.calls t302 (fun k_ => some k_ = (.slice Ao16 x307001_1.length co16 : Value).ownBlock) (.slice Ao16 x307001_1.length co16) x307001_1 x11_1 (Int.tmod (wrap64 (x11_1 + 1)) a0) t307 w _ ?side1 ?side2 A12.out).mono ?_
          (case side1 => repeat (first | (with_reducible first | exact HB.out | apply below_alloc | apply pw_below_drewN | apply below_drew1 | refine below_set ?_ GE301.out | refine below_set ?_ GE306.out) | exact HB.out))
          (case side2 => exact Kd.R_tight rfl HO_307001.out)
          rintro e w17 ⟨rfl, hy0, hb, hkp⟩
          refine ⟨_, rfl, ?_⟩
          have n0_ := Aside0.mk (Kd.R_reok rfl hy0 (fun k_ e_ => HO_307001.out.1 k_ e_))
          have n1_ := Aside0.mk (blk_kept (by (with_reducible repeat (first | refine blk_drewN ?_ _ | refine blk_drew ?_ | refine blk_alloc ?_ _)); exact BK301.out) hkp (fun hs_ => (fun e_ => (Kd.R_ne HO_307001.out BK301.out (by decide)) e_) hs_))
          have n2_ := Aside0.mk (blk_kept (by (with_reducible repeat (first | refine blk_drewN ?_ _ | refine blk_drew ?_ | refine blk_alloc ?_ _)); exact BK306.out) hkp (fun hs_ => (fun e_ => (Kd.R_ne HO_307001.out BK306.out (by decide)) e_) hs_))
          have n3_ := Aside0.mk (hb)
          clear HO_307001
          clear BK301
          clear BK306
          clear HB
          have HO_307001 := n0_
          have BK301 := n1_
          have BK306 := n2_
          have HB := n3_
          clear n0_ n1_ n2_ n3_
          (try clear hb)
          (try clear hkp)
          (try clear hy0)
          refine hK.out _ _ ⟨(blk_cell BK306.out 0).trans rfl, (blk_cell BK306.out 1).trans rfl⟩ (fun hHeld => ?_)
          clear hK K
          refine norm_ (a' := ?_) ?_ ?_
          rotate_left
          · show Act.put _ (some 20) _ = _
            simp only [Act.put, List.setIfInBounds_toArray, List.set_cons_zero, List.set_cons_succ, i64_w, i32_w]
            rfl
          refine done_ (by kernel_rfl) ?_
          have hnb18 := NB306_301.out
          have hnc18 := NB301_306.out
          have hcz19_0 : w17.cell? ⟨gb306, 0, none⟩ = some (.int .i64 t302) := (blk_cell BK306.out 0).trans rfl
          have hcz19_1 : w17.cell? ⟨gb306, 1, none⟩ = some (.slice Ao16 x307001_1.length co16) := (blk_cell BK306.out 1).trans rfl
          have hfz19_0 := blk_frozen BK306.out 0
          have hfz19_1 := blk_frozen BK306.out 1
          try go_wp2_with (first | ((with_reducible refine gate_callee (f := 52) rfl ?_); refine goesL_ (some 26) rfl rfl Try.func52 (by kernel_rfl) rfl #[.agg #[.int .i64 t302, .slice Ao16 x307001_1.length co16], .int .i64 x11_1, .int .i64 (wrap64 (a0 + x11_1))] rfl (by (try simp only [List.map_toArray, List.map_cons, List.map_nil]); first | done | rfl | (simp only [List.length_drop, List.length_take]; rfl)) ?_; (with_reducible refine (impl_Graph_put.calls t302 (fun k_ => some k_ = (.slice Ao16 x307001_1.length co16 : Value).ownBlock) (.slice Ao16 x307001_1.length co16) t307 x11_1 (wrap64 (a0 + x11_1)) t308 w _ ?side1 ?side2 A13.out).mono ?_); (case side1 => repeat (first | (with_reducible first | exact HB.out | apply below_alloc | apply pw_below_drewN | apply below_drew1 | refine below_set ?_ GE301.out | refine below_set ?_ GE306.out) | exact HB.out)); (case side2 => exact Kd.R_tight rfl HO_307001.out); rintro e w20 ⟨rfl, hy0, hb, hkp⟩; refine ⟨_, rfl, ?_⟩; have n0_ := Aside0.mk (Kd.R_reok rfl hy0 (fun k_ e_ => HO_307001.out.1 k_ e_)); have n1_ := Aside0.mk (blk_kept (by (with_reducible repeat (first | refine blk_drewN ?_ _ | refine blk_drew ?_ | refine blk_alloc ?_ _)); exact BK301.out) hkp (fun hs_ => (fun e_ => (Kd.R_ne HO_307001.out BK301.out (by decide)) e_) hs_)); have n2_ := Aside0.mk (blk_kept (by (with_reducible repeat (first | refine blk_drewN ?_ _ | refine blk_drew ?_ | refine blk_alloc ?_ _)); exact BK306.out) hkp (fun hs_ => (fun e_ => (Kd.R_ne HO_307001.out BK306.out (by decide)) e_) hs_)); have n3_ := Aside0.mk (hb); clear HO_307001; clear BK301; clear BK306; clear HB; have HO_307001 := n0_; have BK301 := n1_; have BK306 := n2_; have HB := n3_; clear n0_ n1_ n2_ n3_; (try clear hb); (try clear hkp); (try clear hy0)))
          have n0_ := Aside0.mk (Kd.R_drew HO_307001.out)
          have n1_ := Aside0.mk (blk_drew BK301.out)
          have n2_ := Aside0.mk (blk_drew BK306.out)
          have n3_ := Aside0.mk (below_drew1 HB.out)
          clear HO_307001
          clear BK301
          clear BK306
          clear HB
          have HO_307001 := n0_
          have BK301 := n1_
          have BK306 := n2_
          have HB := n3_
          clear n0_ n1_ n2_ n3_
          refine start_ (n := 12) (S := fun w' => w'.cell? ⟨gb306, 0, none⟩ = some (.int .i64 t302) ∧ w'.cell? ⟨gb306, 1, none⟩ = some (.slice Ao16 x307001_1.length co16)) (ds := []) #[false, false, false, false, false, false, false, false, false, false, false, false] (by kernel_rfl) rfl rfl ⟨(blk_cell BK306.out 0).trans rfl, (blk_cell BK306.out 1).trans rfl⟩ (fun hHeld => ?_); refine with_tabW impl_ringGraph.tab7 impl_ringGraph.bits7 (fun HT_ HW_ => ?_)
          generalize w20.drew = w21 at HO_307001 BK301 BK306 HB hHeld ⊢
          refine pure_ (i := 1) (N := some 28) (v := ?_) (a' := ?_) #[false, true, false, false, false, false, false, false, false, false, false, false] rfl rfl (any_of HT_.out (by kernel_rfl)) (fun _ _ _ h => h) (Or.inl ⟨by rfl, ?_⟩) ?_ ?_
          rotate_left
          · intro w'
            go_simp
            with_reducible rfl
          rotate_left
          · simp only [Act.put, List.setIfInBounds_toArray, List.set_cons_zero, List.set_cons_succ, i64_w, i32_w]
            rfl
          refine pure_ (i := 2) (N := some 29) (v := ?_) (a' := ?_) #[false, true, true, false, false, false, false, false, false, false, false, false] rfl rfl (any_of HT_.out (by kernel_rfl)) (fun _ _ _ h => h) (Or.inl ⟨by rfl, ?_⟩) ?_ ?_
          rotate_left
          · intro w'
            go_simp
            with_reducible rfl
          rotate_left
          · simp only [Act.put, List.setIfInBounds_toArray, List.set_cons_zero, List.set_cons_succ, i64_w, i32_w]
            rfl
          refine pure_ (i := 3) (N := some 30) (v := ?_) (a' := ?_) #[false, true, true, true, false, false, false, false, false, false, false, false] rfl rfl (any_of HT_.out (by kernel_rfl)) (fun _ _ _ h => h) (Or.inl ⟨by rfl, ?_⟩) ?_ ?_
          rotate_left
          · intro w'
            go_simp
            with_reducible rfl
          rotate_left
          · simp only [Act.put, List.setIfInBounds_toArray, List.set_cons_zero, List.set_cons_succ, i64_w, i32_w]
            rfl
          refine pure_ (i := 4) (N := some 31) (v := ?_) (a' := ?_) #[false, true, true, true, true, false, false, false, false, false, false, false] rfl rfl (any_of HT_.out (by kernel_rfl)) (fun _ _ _ h => h) (Or.inl ⟨by rfl, ?_⟩) ?_ ?_
          rotate_left
          · intro w'
            go_simp
            with_reducible rfl
          rotate_left
          · simp only [Act.put, List.setIfInBounds_toArray, List.set_cons_zero, List.set_cons_succ, i64_w, i32_w]
            rfl
          refine pure_ (i := 5) (N := some 32) (v := ?_) (a' := ?_) #[false, true, true, true, true, true, false, false, false, false, false, false] rfl rfl (any_of HT_.out (by kernel_rfl)) (fun _ _ _ h => h) (Or.inl ⟨by rfl, ?_⟩) ?_ ?_
          rotate_left
          · intro w'
            go_simp
            with_reducible rfl
          rotate_left
          · simp only [Act.put, List.setIfInBounds_toArray, List.set_cons_zero, List.set_cons_succ, i64_w, i32_w]
            rfl
          refine pure_ (i := 6) (N := some 33) (v := ?_) (a' := ?_) #[false, true, true, true, true, true, true, false, false, false, false, false] rfl rfl (any_of HT_.out (by kernel_rfl)) (fun _ _ _ h => h) (Or.inl ⟨by rfl, ?_⟩) ?_ ?_
          rotate_left
          · intro w'
            go_simp
            with_reducible rfl
          rotate_left
          · simp only [Act.put, List.setIfInBounds_toArray, List.set_cons_zero, List.set_cons_succ, i64_w, i32_w]
            rfl
          refine pure_ (i := 7) (N := some 34) (v := ?_) (a' := ?_) #[false, true, true, true, true, true, true, true, false, false, false, false] rfl rfl (any_of HT_.out (by kernel_rfl)) (fun _ _ _ h => h) (Or.inl ⟨by rfl, ?_⟩) ?_ ?_
          rotate_left
          · intro w'
            go_simp
            with_reducible rfl
          rotate_left
          · simp only [Act.put, List.setIfInBounds_toArray, List.set_cons_zero, List.set_cons_succ, i64_w, i32_w]
            rfl
          refine pure_ (i := 8) (N := some 35) (v := ?_) (a' := ?_) #[false, true, true, true, true, true, true, true, true, false, false, false] rfl rfl (any_of HT_.out (by kernel_rfl)) (fun _ _ _ h => h) (Or.inl ⟨by rfl, ?_⟩) ?_ ?_
          rotate_left
          · intro w'
            go_simp
            with_reducible rfl
          rotate_left
          · simp only [Act.put, List.setIfInBounds_toArray, List.set_cons_zero, List.set_cons_succ, i64_w, i32_w]
            rfl
          refine pure_ (i := 9) (N := some 36) (v := ?_) (a' := ?_) #[false, true, true, true, true, true, true, true, true, true, false, false] rfl rfl (any_of HT_.out (by kernel_rfl)) (fun _ _ _ h => h) (Or.inl ⟨by rfl, ?_⟩) ?_ ?_
          rotate_left
          · intro w'
            go_simp
            with_reducible rfl
          rotate_left
          · simp only [Act.put, List.setIfInBounds_toArray, List.set_cons_zero, List.set_cons_succ, i64_w, i32_w]
            rfl
          refine pure_ (i := 10) (N := some 37) (v := ?_) (a' := ?_) #[false, true, true, true, true, true, true, true, true, true, true, false] rfl rfl (any_of HT_.out (by kernel_rfl)) (fun _ _ _ h => h) (Or.inl ⟨by rfl, ?_⟩) ?_ ?_
          rotate_left
          · intro w'
            go_simp
            with_reducible rfl
          rotate_left
          · simp only [Act.put, List.setIfInBounds_toArray, List.set_cons_zero, List.set_cons_succ, i64_w, i32_w]
            rfl
          refine take_ (i := 0) (N := some 27) (v := ?_) (a' := ?_) #[true, true, true, true, true, true, true, true, true, true, true, false] rfl rfl (take_ofW HT_.out HW_.out (by kernel_rfl)) (fun _ _ _ h => h) (Or.inl ⟨by rfl, ?_⟩) hHeld ?_ ?_
          rotate_left
          · rintro w' ⟨s0, s1⟩
            go_simp
            with_reducible rfl
          rotate_left
          · simp only [Act.put, List.setIfInBounds_toArray, List.set_cons_zero, List.set_cons_succ, i64_w, i32_w]
            rfl
          refine one_ (i := 11) (N := some 38) #[true, true, true, true, true, true, true, true, true, true, true, true] rfl rfl (one_of HT_.out (by kernel_rfl)) (by decide) (fun K hK => ?_)
          refine goes_ Try.func52 (by kernel_rfl) rfl #[.agg #[.int .i64 t302, .slice Ao16 x307001_1.length co16], .int .i64 (wrap64 (a0 + x11_1)), .int .i64 (wrap64 (a0 + (Int.tmod (wrap64 (x11_1 + a1)) a0)))] (by rfl) rfl rfl (by (try simp only [List.map_toArray, List.map_cons, List.map_nil]); first | done | rfl | (simp only [List.length_drop, List.length_take]; rfl)) ?_
          with_reducible refine (impl_Graph_put.calls t302 (fun k_ => some k_ = (.slice Ao16 x307001_1.length co16 : Value).ownBlock) (.slice Ao16 x307001_1.length co16) t308 (wrap64 (a0 + x11_1)) (wrap64 (a0 + (Int.tmod (wrap64 (x11_1 + a1)) a0))) t309 w _ ?side1 ?side2 A14.out).mono ?_
          (case side1 => repeat (first | (with_reducible first | exact HB.out | apply below_alloc | apply pw_below_drewN | apply below_drew1 | refine below_set ?_ GE301.out | refine below_set ?_ GE306.out) | exact HB.out))
          (case side2 => exact Kd.R_tight rfl HO_307001.out)
          rintro e w22 ⟨rfl, hy0, hb, hkp⟩
          refine ⟨_, rfl, ?_⟩
          have n0_ := Aside0.mk (Kd.R_reok rfl hy0 (fun k_ e_ => HO_307001.out.1 k_ e_))
          have n1_ := Aside0.mk (blk_kept (by (with_reducible repeat (first | refine blk_drewN ?_ _ | refine blk_drew ?_ | refine blk_alloc ?_ _)); exact BK301.out) hkp (fun hs_ => (fun e_ => (Kd.R_ne HO_307001.out BK301.out (by decide)) e_) hs_))
          have n2_ := Aside0.mk (blk_kept (by (with_reducible repeat (first | refine blk_drewN ?_ _ | refine blk_drew ?_ | refine blk_alloc ?_ _)); exact BK306.out) hkp (fun hs_ => (fun e_ => (Kd.R_ne HO_307001.out BK306.out (by decide)) e_) hs_))
          have n3_ := Aside0.mk (hb)
          clear HO_307001
          clear BK301
          clear BK306
          clear HB
          have HO_307001 := n0_
          have BK301 := n1_
          have BK306 := n2_
          have HB := n3_
          clear n0_ n1_ n2_ n3_
          (try clear hb)
          (try clear hkp)
          (try clear hy0)
          refine hK.out _ _ ⟨(blk_cell BK306.out 0).trans rfl, (blk_cell BK306.out 1).trans rfl⟩ (fun hHeld => ?_)
          clear hK K
          refine norm_ (a' := ?_) ?_ ?_
          rotate_left
          · show Act.put _ (some 38) _ = _
            simp only [Act.put, List.setIfInBounds_toArray, List.set_cons_zero, List.set_cons_succ, i64_w, i32_w]
            rfl
          refine done_ (done_of HT_.out (by kernel_rfl)) ?_
          try go_wp2
          go_roundg k1
          case measure => have := HK1.out; omega
          case rel => exact ⟨(wrap64 (x11_1 + 1)), (t309), (.slice Ao16 x307001_1.length co16), (by first | rfl | (simp; done) | (simp [*]; done)), H', ⟨by have := HK1.out; omega⟩, ⟨by (with_reducible repeat (first | apply Kd.R_alloc | apply Kd.R_drewN | apply Kd.R_drew)); exact HO_307001.out⟩, ⟨by (with_reducible repeat (first | refine blk_drewN ?_ _ | refine blk_drew ?_ | refine blk_alloc ?_ _)); exact BK301.out⟩, ⟨by (with_reducible repeat (first | refine blk_drewN ?_ _ | refine blk_drew ?_ | refine blk_alloc ?_ _)); exact BK306.out⟩, ⟨by repeat (first | (with_reducible first | exact HB.out | apply below_alloc | apply pw_below_drewN | apply below_drew1 | refine below_set ?_ GE301.out | refine below_set ?_ GE306.out) | exact HB.out)⟩⟩
      · rw [if_neg c10] at H
        have c10b0 : decide (x11_1 < a0) = false := decide_eq_false c10
        clear c10
        simp only [Option.some.injEq, Prod.mk.injEq] at H
        obtain ⟨rfl, rfl⟩ := H
        have hnb23 := NB306_301.out
        have hnc23 := NB301_306.out
        have hcz24_0 : wr.cell? ⟨gb306, 0, none⟩ = some (.int .i64 t302) := (blk_cell BK306.out 0).trans rfl
        have hcz24_1 : wr.cell? ⟨gb306, 1, none⟩ = some (u307001) := (blk_cell BK306.out 1).trans rfl
        have hfz24_0 := blk_frozen BK306.out 0
        have hfz24_1 := blk_frozen BK306.out 1
        have hcz25_0 : wr.cell? ⟨gb301, 0, none⟩ = some (.int .i64 0) := (blk_cell BK301.out 0).trans rfl
        have hcz25_1 : wr.cell? ⟨gb301, 1, none⟩ = some (.slice none 0 0) := (blk_cell BK301.out 1).trans rfl
        have hfz25_0 := blk_frozen BK301.out 0
        have hfz25_1 := blk_frozen BK301.out 1
        obtain ⟨Ao26, co26, eo26⟩ := Kd.R_slice HO_307001.out
        subst eo26
        go_wp2
        refine bodyPost_ret (results_cell_row rfl _ _ gb301 34 #[.int .i64 t302, .slice Ao26 x307001_1.length co26] (0, 0) _ rfl (by (with_reducible repeat (first | refine blk_drewN ?_ _ | refine blk_drew ?_ | refine blk_alloc ?_ _)); refine blk_put (cs := #[.int .i64 t302, .slice none 0 0]) ?_ 1 _ rfl; (with_reducible repeat (first | refine blk_drewN ?_ _ | refine blk_drew ?_ | refine blk_alloc ?_ _)); refine blk_put (cs := #[.int .i64 0, .slice none 0 0]) ?_ 0 _ rfl; (with_reducible repeat (first | refine blk_drewN ?_ _ | refine blk_drew ?_ | refine blk_alloc ?_ _)); exact BK301.out) Try.underlying34 rfl (by kernel_rfl)) rfl ?_
        exact ⟨_, by first | rfl | (simp [errW_none, errW_some] <;> rfl) | (simp [*, errW_none, errW_some] <;> rfl), by (with_reducible repeat (first | apply Kd.R_alloc | apply Kd.R_drewN | apply Kd.R_drew)); exact Kd.R_mono (Kd.R_far (p := ⟨gb301, 1, none⟩) (Kd.R_far (p := ⟨gb301, 0, none⟩) (Kd.R_types HO_307001.out BK301.out (by decide)) (fun _ hk => hk.2) (.int .i64 t302)) (fun _ hk => hk.2) (.slice Ao26 x307001_1.length co26)) (fun _ hk => trivial), by repeat (first | (with_reducible first | exact HB.out | apply below_alloc | apply pw_below_drewN | apply below_drew1 | refine below_set ?_ GE301.out | refine below_set ?_ GE306.out) | exact HB.out)⟩

/-! ### impl_icosahedron: function 72 -/
def impl_icosahedron.l0 : Nat → Int → Int → List Int → Option (Int × List Int)
  | 0, _, _, _ => none
  | k + 1, x5, x316000, x316001 => if x5 < 5 then ((impl_Graph_put.f x316000 x316001 0 (wrap64 (1 + x5))).bind fun t316 => ((impl_Graph_put.f x316000 t316 11 (wrap64 (6 + x5))).bind fun t317 => ((impl_Graph_put.f x316000 t317 (wrap64 (1 + x5)) (wrap64 (1 + (Int.tmod (wrap64 (x5 + 1)) 5)))).bind fun t318 => ((impl_Graph_put.f x316000 t318 (wrap64 (6 + x5)) (wrap64 (6 + (Int.tmod (wrap64 (x5 + 1)) 5)))).bind fun t319 => ((impl_Graph_put.f x316000 t319 (wrap64 (1 + x5)) (wrap64 (6 + x5))).bind fun t320 => ((impl_Graph_put.f x316000 t320 (wrap64 (1 + x5)) (wrap64 (6 + (Int.tmod (wrap64 (x5 + 1)) 5)))).bind fun t321 => (impl_icosahedron.l0 k (wrap64 (x5 + 1)) x316000 t321))))))) else (some (x316000, x316001))
def impl_icosahedron.f (k : Nat)  : Option (Int × List Int) := (impl_empty.f 12).bind fun bt311 => (impl_icosahedron.l0 k 0 bt311.1 bt311.2)
theorem impl_icosahedron.mono_l : ∀ k, (∀ y0 y1 y2, LeO (impl_icosahedron.l0 k y0 y1 y2) (impl_icosahedron.l0 (k + 1) y0 y1 y2))
  | 0 => fun _ _ _ r h => by simp [impl_icosahedron.l0] at h
  | k + 1 => by
    have ih0 := impl_icosahedron.mono_l k
    · intro y0 y1 y2
      unfold impl_icosahedron.l0
      repeat' first
      | (with_reducible exact ih0 _ _ _)
      | (with_reducible exact LeO.refl _)
      | (with_reducible exact LeO.none _)
      | (with_reducible refine LeO.ite ?_ ?_)
      | (with_reducible refine LeO.bind ?_ (fun _ => ?_))
      | exact ih0 _ _ _
      | exact LeO.none _
      | refine LeO.ite ?_ ?_
      | refine LeO.bind ?_ (fun _ => ?_)
theorem impl_icosahedron.mono : ∀ k, LeO (impl_icosahedron.f k ) (impl_icosahedron.f (k + 1) ) := by
  intro  k
  have ih0 := impl_icosahedron.mono_l k
  unfold impl_icosahedron.f
  repeat' first
      | (with_reducible exact ih0 _ _ _)
      | (with_reducible exact LeO.refl _)
      | (with_reducible exact LeO.none _)
      | (with_reducible refine LeO.ite ?_ ?_)
      | (with_reducible refine LeO.bind ?_ (fun _ => ?_))
      | exact ih0 _ _ _
      | exact LeO.none _
      | refine LeO.ite ?_ ?_
      | refine LeO.bind ?_ (fun _ => ?_)
set_option maxHeartbeats 8000000 in
set_option maxRecDepth 100000 in
theorem impl_icosahedron.calls (k : Nat)  (r1 : Int) (r2 : List Int) (w : World) (h : impl_icosahedron.f k  = some (r1, r2)) :
    Calls Try.prog 72 #[] w fun e w' => ∃ v1_ : Value, e = .returned (.agg #[.int .i64 r1, v1_]) ∧ Kd.R (Kd.int .i64) 2 w' w.heap.size (fun _ => True) v1_ r2 ∧ Below w.heap.size w w' := by
  have hu34 := Try.underlying34
  have HB := Aside0.mk (Below.refl w.heap.size w)
  have H : ((impl_empty.f 12).bind fun bt311 => (impl_icosahedron.l0 k 0 bt311.1 bt311.2)) = some (r1, r2) := h
  clear h
  replace H := Option.bind_eq_some_iff.mp H
  obtain ⟨⟨t311, t312⟩, A10, H⟩ := H
  replace H : (impl_icosahedron.l0 k 0 t311 t312) = some (r1, r2) := H
  have A1 := Aside0.mk A10
  clear A10
  have H' := Aside0.mk H
  clear H
  go_enter Try.func72, Try.ntmps72
  go_wp2_with (first | ((with_reducible refine gate_dst (N := 0) rfl ?_); refine box_event ?hg (N := 0) ?hd (cs := #[.int .i64 0, .slice none 0 0]) (t := 34) ?hr ?_; (case hd => rfl); (case hg => rfl); (case hr => first | (go_simp; done) | (go_simp; rfl)); intro gb310 hg w2 hbox hb; have n0_ := Aside0.mk (below_step (by repeat (first | (with_reducible first | exact HB.out | apply below_alloc | apply pw_below_drewN | apply below_drew1) | exact HB.out)) hb); have n1_ := Aside0.mk (hbox); have n2_ := Aside0.mk ((by rw [hg]; exact (below_size (by repeat (first | (with_reducible first | exact HB.out | apply below_alloc | apply pw_below_drewN | apply below_drew1) | exact HB.out))) : w.heap.size ≤ gb310)); have n3_ := Aside0.mk ((by rw [hg]; exact (below_size (by repeat (first | (with_reducible first | exact HB.out | apply below_alloc | apply pw_below_drewN | apply below_drew1) | exact HB.out))) : w.heap.size ≤ gb310)); clear HB; have HB := n0_; have BK310 := n1_; have GW310 := n2_; have GE310 := n3_; clear n0_ n1_ n2_ n3_; clear hb hbox hg) | ((with_reducible refine gate_callee (f := 51) rfl ?_); refine goesL_ (some 4) rfl rfl Try.func51 (by kernel_rfl) rfl #[.int .i64 12] rfl (by (try simp only [List.map_toArray, List.map_cons, List.map_nil]); first | done | rfl | (simp only [List.length_drop, List.length_take]; rfl)) ?_; (with_reducible refine (impl_empty.calls 12 t311 t312 _ A1.out).mono ?_); rintro e w3 ⟨v313, rfl, ho0, hb⟩; refine ⟨_, rfl, ?_⟩; have n0_ := Aside0.mk (Kd.R_lower ho0 (below_size (by repeat (first | (with_reducible first | exact HB.out | apply below_alloc | apply pw_below_drewN | apply below_drew1 | refine below_set ?_ GE310.out) | exact HB.out)))); have n1_ := Aside0.mk (blk_below (g := gb310) (o := .cells #[.int .i64 0, .slice none 0 0] 34 (0, 0)) (by (with_reducible repeat (first | refine blk_drewN ?_ _ | refine blk_drew ?_ | refine blk_alloc ?_ _)); exact BK310.out) hb); have n2_ := Aside0.mk (below_step (by repeat (first | (with_reducible first | exact HB.out | apply below_alloc | apply pw_below_drewN | apply below_drew1 | refine below_set ?_ GE310.out) | exact HB.out)) hb); clear BK310; clear HB; have HO314 := n0_; have BK310 := n1_; have HB := n2_; clear n0_ n1_ n2_; (try clear hb); (try clear hb2); (try clear hk); (try clear hi); (try clear ho0)) | ((with_reducible refine gate_dst (N := 1) rfl ?_); refine box_event ?hg (N := 1) ?hd (cs := #[.int .i64 0, .slice none 0 0]) (t := 34) ?hr ?_; (case hd => rfl); (case hg => rfl); (case hr => first | (go_simp; done) | (go_simp; rfl)); intro gb315 hg w4 hbox hb; have n0_ := Aside0.mk (Kd.R_below (by (with_reducible repeat (first | apply Kd.R_alloc | apply Kd.R_drewN | apply Kd.R_drew)); exact HO314.out) hb); have n1_ := Aside0.mk (blk_below (g := gb310) (o := .cells #[.int .i64 0, .slice none 0 0] 34 (0, 0)) (by (with_reducible repeat (first | refine blk_drewN ?_ _ | refine blk_drew ?_ | refine blk_alloc ?_ _)); exact BK310.out) hb); have n2_ := Aside0.mk (below_step (by repeat (first | (with_reducible first | exact HB.out | apply below_alloc | apply pw_below_drewN | apply below_drew1 | refine below_set ?_ GE310.out) | exact HB.out)) hb); have n3_ := Aside0.mk (hbox); have n4_ := Aside0.mk ((by rw [hg]; exact (below_size (by repeat (first | (with_reducible first | exact HB.out | apply below_alloc | apply pw_below_drewN | apply below_drew1 | refine below_set ?_ GE310.out) | exact HB.out))) : w.heap.size ≤ gb315)); have n5_ := Aside0.mk ((by rw [hg]; exact (below_size (by repeat (first | (with_reducible first | exact HB.out | apply below_alloc | apply pw_below_drewN | apply below_drew1 | refine below_set ?_ GE310.out) | exact HB.out))) : w.heap.size ≤ gb315)); have n6_ := Aside0.mk ((by rw [hg]; exact Nat.ne_of_lt (blk_lt (g := gb310) (o := .cells #[.int .i64 0, .slice none 0 0] 34 (0, 0)) (by (with_reducible repeat (first | refine blk_drewN ?_ _ | refine blk_drew ?_ | refine blk_alloc ?_ _)); exact BK310.out)) : gb310 ≠ gb315)); have n7_ := Aside0.mk ((by rw [hg]; exact Nat.ne_of_gt (blk_lt (g := gb310) (o := .cells #[.int .i64 0, .slice none 0 0] 34 (0, 0)) (by (with_reducible repeat (first | refine blk_drewN ?_ _ | refine blk_drew ?_ | refine blk_alloc ?_ _)); exact BK310.out)) : gb315 ≠ gb310)); clear HO314; clear BK310; clear HB; have HO314 := n0_; have BK310 := n1_; have HB := n2_; have BK315 := n3_; have GW315 := n4_; have GE315 := n5_; have NB310_315 := n6_; have NB315_310 := n7_; clear n0_ n1_ n2_ n3_ n4_ n5_ n6_ n7_; clear hb hbox hg; have hnb5 := NB315_310.out; have hnc5 := NB310_315.out; have hcz6_0 : w4.cell? ⟨gb315, 0, none⟩ = some (.int .i64 0) := (blk_cell BK315.out 0).trans rfl; have hcz6_1 : w4.cell? ⟨gb315, 1, none⟩ = some (.slice none 0 0) := (blk_cell BK315.out 1).trans rfl; have hfz6_0 := blk_frozen BK315.out 0; have hfz6_1 := blk_frozen BK315.out 1; obtain ⟨Ao7, co7, eo7⟩ := Kd.R_slice HO314.out; subst eo7))
  go_loopg [5] k (fun kq v5 w' => ∃ (x5_1 : Int) (x316001_1 : List Int) (u316001 : Value), v5 = .int .i64 x5_1 ∧ Aside0 (impl_icosahedron.l0 kq x5_1 t311 x316001_1 = some (r1, r2)) ∧ Aside0 (kq ≤ k) ∧ Aside0 (Kd.R (Kd.int .i64) 2 w' w.heap.size (fun _ => True) u316001 x316001_1) ∧ Aside0 (w'.heap[gb310]? = some (.cells #[.int .i64 0, (.slice none 0 0)] 34 (0, 0))) ∧ Aside0 (w'.heap[gb315]? = some (.cells #[.int .i64 t311, u316001] 34 (0, 0))) ∧ Aside0 (Below w.heap.size w w'))
  case atStart => exact ⟨(0), (t312), (.slice Ao7 t312.length co7), (by first | rfl | (simp; done) | (simp [*]; done)), H', ⟨Nat.le_refl _⟩, ⟨by (with_reducible repeat (first | apply Kd.R_alloc | apply Kd.R_drewN | apply Kd.R_drew)); exact Kd.R_mono (Kd.R_far (p := ⟨gb315, 1, none⟩) (Kd.R_far (p := ⟨gb315, 0, none⟩) (Kd.R_types HO314.out BK315.out (by decide)) (fun _ hk => hk.2) (.int .i64 t311)) (fun _ hk => hk.2) (.slice Ao7 t312.length co7)) (fun _ hk => trivial)⟩, ⟨by (with_reducible repeat (first | refine blk_drewN ?_ _ | refine blk_drew ?_ | refine blk_alloc ?_ _)); refine blk_far ?_ NB310_315.out _; (with_reducible repeat (first | refine blk_drewN ?_ _ | refine blk_drew ?_ | refine blk_alloc ?_ _)); refine blk_far ?_ NB310_315.out _; (with_reducible repeat (first | refine blk_drewN ?_ _ | refine blk_drew ?_ | refine blk_alloc ?_ _)); exact BK310.out⟩, ⟨by (with_reducible repeat (first | refine blk_drewN ?_ _ | refine blk_drew ?_ | refine blk_alloc ?_ _)); refine blk_put (cs := #[.int .i64 t311, .slice none 0 0]) ?_ 1 _ rfl; (with_reducible repeat (first | refine blk_drewN ?_ _ | refine blk_drew ?_ | refine blk_alloc ?_ _)); refine blk_put (cs := #[.int .i64 0, .slice none 0 0]) ?_ 0 _ rfl; (with_reducible repeat (first | refine blk_drewN ?_ _ | refine blk_drew ?_ | refine blk_alloc ?_ _)); exact BK315.out⟩, ⟨by repeat (first | (with_reducible first | exact HB.out | apply below_alloc | apply pw_below_drewN | apply below_drew1 | refine below_set ?_ GE310.out | refine below_set ?_ GE315.out) | exact HB.out)⟩⟩
  case round =>
    clear H'
    try clear p2
    try clear c5
    try clear c7
    try clear hcz6_0
    try clear hcz6_1
    try clear hfz6_0
    try clear hfz6_1
    obtain ⟨x5_1, x316001_1, u316001, rfl, HA, HK1, HO_316001, BK310, BK315, HB⟩ := hrel
    cases gk with
    | zero => exact absurd HA.out (by simp [impl_icosahedron.l0])
    | succ k1 =>
      have H := HA.out
      clear HA
      simp only [impl_icosahedron.l0] at H
      by_cases c8 : x5_1 < 5
      · rw [if_pos c8] at H
        have c8b0 : decide (x5_1 < 5) = true := decide_eq_true c8
        clear c8
        replace H := Option.bind_eq_some_iff.mp H
        obtain ⟨t316, A90, H⟩ := H
        replace H : ((impl_Graph_put.f t311 t316 11 (wrap64 (6 + x5_1))).bind fun t317 => ((impl_Graph_put.f t311 t317 (wrap64 (1 + x5_1)) (wrap64 (1 + (Int.tmod (wrap64 (x5_1 + 1)) 5)))).bind fun t318 => ((impl_Graph_put.f t311 t318 (wrap64 (6 + x5_1)) (wrap64 (6 + (Int.tmod (wrap64 (x5_1 + 1)) 5)))).bind fun t319 => ((impl_Graph_put.f t311 t319 (wrap64 (1 + x5_1)) (wrap64 (6 + x5_1))).bind fun t320 => ((impl_Graph_put.f t311 t320 (wrap64 (1 + x5_1)) (wrap64 (6 + (Int.tmod (wrap64 (x5_1 + 1)) 5)))).bind fun t321 => (impl_icosahedron.l0 k1 (wrap64 (x5_1 + 1)) t311 t321)))))) = some (r1, r2) := H
        have A9 := Aside0.mk A90
        clear A90
        replace H := Option.bind_eq_some_iff.mp H
        obtain ⟨t317, A100, H⟩ := H
        replace H : ((impl_Graph_put.f t311 t317 (wrap64 (1 + x5_1)) (wrap64 (1 + (Int.tmod (wrap64 (x5_1 + 1)) 5)))).bind fun t318 => ((impl_Graph_put.f t311 t318 (wrap64 (6 + x5_1)) (wrap64 (6 + (Int.tmod (wrap64 (x5_1 + 1)) 5)))).bind fun t319 => ((impl_Graph_put.f t311 t319 (wrap64 (1 + x5_1)) (wrap64 (6 + x5_1))).bind fun t320 => ((impl_Graph_put.f t311 t320 (wrap64 (1 + x5_1)) (wrap64 (6 + (Int.tmod (wrap64 (x5_1 + 1)) 5)))).bind fun t321 => (impl_icosahedron.l0 k1 (wrap64 (x5_1 + 1)) t311 t321))))) = some (r1, r2) := H
        have A10 := Aside0.mk A100
        clear A100
        replace H := Option.bind_eq_some_iff.mp H
        obtain ⟨t318, A110, H⟩ := H
        replace H : ((impl_Graph_put.f t311 t318 (wrap64 (6 + x5_1)) (wrap64 (6 + (Int.tmod (wrap64 (x5_1 + 1)) 5)))).bind fun t319 => ((impl_Graph_put.f t311 t319 (wrap64 (1 + x5_1)) (wrap64 (6 + x5_1))).bind fun t320 => ((impl_Graph_put.f t311 t320 (wrap64 (1 + x5_1)) (wrap64 (6 + (Int.tmod (wrap64 (x5_1 + 1)) 5)))).bind fun t321 => (impl_icosahedron.l0 k1 (wrap64 (x5_1 + 1)) t311 t321)))) = some (r1, r2) := H
        have A11 := Aside0.mk A110
        clear A110
        replace H := Option.bind_eq_some_iff.mp H
        obtain ⟨t319, A120, H⟩ := H
        replace H : ((impl_Graph_put.f t311 t319 (wrap64 (1 + x5_1)) (wrap64 (6 + x5_1))).bind fun t320 => ((impl_Graph_put.f t311 t320 (wrap64 (1 + x5_1)) (wrap64 (6 + (Int.tmod (wrap64 (x5_1 + 1)) 5)))).bind fun t321 => (impl_icosahedron.l0 k1 (wrap64 (x5_1 + 1)) t311 t321))) = some (r1, r2) := H
        have A12 := Aside0.mk A120
        clear A120
        replace H := Option.bind_eq_some_iff.mp H
        obtain ⟨t320, A130, H⟩ := H
        replace H : ((impl_Graph_put.f t311 t320 (wrap64 (1 + x5_1)) (wrap64 (6 + (Int.tmod (wrap64 (x5_1 + 1)) 5)))).bind fun t321 => (impl_icosahedron.l0 k1 (wrap64 (x5_1 + 1)) t311 t321)) = some (r1, r2) := H
        have A13 := Aside0.mk A130
        clear A130
        replace H := Option.bind_eq_some_iff.mp H
        obtain ⟨t321, A140, H⟩ := H
        replace H : (impl_icosahedron.l0 k1 (wrap64 (x5_1 + 1)) t311 t321) = some (r1, r2) := H
        have A14 := Aside0.mk A140
        clear A140
        have H' := Aside0.mk H
        clear H
        have hnb15 := NB315_310.out
        have hnc15 := NB310_315.out
        have hcz16_0 : wr.cell? ⟨gb315, 0, none⟩ = some (.int .i64 t311) := (blk_cell BK315.out 0).trans rfl
        have hcz16_1 : wr.cell? ⟨gb315, 1, none⟩ = some (u316001) := (blk_cell BK315.out 1).trans rfl
        have hfz16_0 := blk_frozen BK315.out 0
        have hfz16_1 := blk_frozen BK315.out 1
        obtain ⟨Ao17, co17, eo17⟩ := Kd.R_slice HO_316001.out
        subst eo17
        go_wp2_with (first | ((with_reducible refine gate_callee (f := 52) rfl ?_); refine goesL_ (some 14) rfl rfl Try.func52 (by kernel_rfl) rfl #[.agg #[.int .i64 t311, .slice Ao17 x316001_1.length co17], .int .i64 0, .int .i64 (wrap64 (1 + x5_1))] rfl (by (try simp only [List.map_toArray, List.map_cons, List.map_nil]); first | done | rfl | (simp only [List.length_drop, List.length_take]; rfl)) ?_; (with_reducible refine (impl_Graph_put.calls t311 (fun k_ => some k_ = (.slice Ao17 x316001_1.length co17 : Value).ownBlock) (.slice Ao17 x316001_1.length co17) x316001_1 0 (wrap64 (1 + x5_1)) t316 w _ ?side1 ?side2 A9.out).mono ?_); (case side1 => repeat (first | (with_reducible first | exact HB.out | apply below_alloc | apply pw_below_drewN | apply below_drew1 | refine below_set ?_ GE310.out | refine below_set ?_ GE315.out) | exact HB.out)); (case side2 => exact Kd.R_tight rfl HO_316001.out); rintro e w18 ⟨rfl, hy0, hb, hkp⟩; refine ⟨_, rfl, ?_⟩; have n0_ := Aside0.mk (Kd.R_reok rfl hy0 (fun k_ e_ => HO_316001.out.1 k_ e_)); have n1_ := Aside0.mk (blk_kept (by (with_reducible repeat (first | refine blk_drewN ?_ _ | refine blk_drew ?_ | refine blk_alloc ?_ _)); exact BK310.out) hkp (fun hs_ => (fun e_ => (Kd.R_ne HO_316001.out BK310.out (by decide)) e_) hs_)); have n2_ := Aside0.mk (blk_kept (by (with_reducible repeat (first | refine blk_drewN ?_ _ | refine blk_drew ?_ | refine blk_alloc ?_ _)); exact BK315.out) hkp (fun hs_ => (fun e_ => (Kd.R_ne HO_316001.out BK315.out (by decide)) e_) hs_)); have n3_ := Aside0.mk (hb); clear HO_316001; clear BK310; clear BK315; clear HB; have HO_316001 := n0_; have BK310 := n1_; have BK315 := n2_; have HB := n3_; clear n0_ n1_ n2_ n3_; (try clear hb); (try clear hkp); (try clear hy0); have hcz19_0 : w18.cell? ⟨gb315, 0, none⟩ = some (.int .i64 t311) := (blk_cell BK315.out 0).trans rfl; have hcz19_1 : w18.cell? ⟨gb315, 1, none⟩ = some (.slice Ao17 x316001_1.length co17) := (blk_cell BK315.out 1).trans rfl; have hfz19_0 := blk_frozen BK315.out 0; have hfz19_1 := blk_frozen BK315.out 1) | ((with_reducible refine gate_callee (f := 52) rfl ?_); refine goesL_ (some 18) rfl rfl Try.func52 (by kernel_rfl) rfl #[.agg #[.int .i64 t311, .slice Ao17 x316001_1.length co17], .int .i64 11, .int .i64 (wrap64 (6 + x5_1))] rfl (by (try simp only [List.map_toArray, List.map_cons, List.map_nil]); first | done | rfl | (simp only [List.length_drop, List.length_take]; rfl)) ?_; (with_reducible refine (impl_Graph_put.calls t311 (fun k_ => some k_ = (.slice Ao17 x316001_1.length co17 : Value).ownBlock) (.slice Ao17 x316001_1.length co17) t316 11 (wrap64 (6 + x5_1)) t317 w _ ?side1 ?side2 A10.out).mono ?_); (case side1 => repeat (first | (with_reducible first | exact HB.out | apply below_alloc | apply pw_below_drewN | apply below_drew1 | refine below_set ?_ GE310.out | refine below_set ?_ GE315.out) | exact HB.out)); (case side2 => exact Kd.R_tight rfl HO_316001.out); rintro e w20 ⟨rfl, hy0, hb, hkp⟩; refine ⟨_, rfl, ?_⟩; have n0_ := Aside0.mk (Kd.R_reok rfl hy0 (fun k_ e_ => HO_316001.out.1 k_ e_)); have n1_ := Aside0.mk (blk_kept (by (with_reducible repeat (first | refine blk_drewN ?_ _ | refine blk_drew ?_ | refine blk_alloc ?_ _)); exact BK310.out) hkp (fun hs_ => (fun e_ => (Kd.R_ne HO_316001.out BK310.out (by decide)) e_) hs_)); have n2_ := Aside0.mk (blk_kept (by (with_reducible repeat (first | refine blk_drewN ?_ _ | refine blk_drew ?_ | refine blk_alloc ?_ _)); exact BK315.out) hkp (fun hs_ => (fun e_ => (Kd.R_ne HO_316001.out BK315.out (by decide)) e_) hs_)); have n3_ := Aside0.mk (hb); clear HO_316001; clear BK310; clear BK315; clear HB; have HO_316001 := n0_; have BK310 := n1_; have BK315 := n2_; have HB := n3_; clear n0_ n1_ n2_ n3_; (try clear hb); (try clear hkp); (try clear hy0); have hcz21_0 : w20.cell? ⟨gb315, 0, none⟩ = some (.int .i64 t311) := (blk_cell BK315.out 0).trans rfl; have hcz21_1 : w20.cell? ⟨gb315, 1, none⟩ = some (.slice Ao17 x316001_1.length co17) := (blk_cell BK315.out 1).trans rfl; have hfz21_0 := blk_frozen BK315.out 0; have hfz21_1 := blk_frozen BK315.out 1) | ((with_reducible refine gate_callee (f := 52) rfl ?_); refine goesL_ (some 24) rfl rfl Try.func52 (by kernel_rfl) rfl #[.agg #[.int .i64 t311, .slice Ao17 x316001_1.length co17], .int .i64 (wrap64 (1 + x5_1)), .int .i64 (wrap64 (1 + (Int.tmod (wrap64 (x5_1 + 1)) 5)))] rfl (by (try simp only [List.map_toArray, List.map_cons, List.map_nil]); first | done | rfl | (simp only [List.length_drop, List.length_take]; rfl)) ?_; (with_reducible refine (impl_Graph_put.calls t311 (fun k_ => some k_ = (.slice Ao17 x316001_1.length co17 : Value).ownBlock) (.slice Ao17 x316001_1.length co17) t317 (wrap64 (1 + x5_1)) (wrap64 (1 + (Int.tmod (wrap64 (x5_1 + 1)) 5))) t318 w _ ?side1 ?side2 A11.out).mono ?_); (case side1 => repeat (first | (with_reducible first | exact HB.out | apply below_alloc | apply pw_below_drewN | apply below_drew1 | refine below_set ?_ GE310.out | refine below_set ?_ GE315.out) | exact HB.out)); (case side2 => exact Kd.R_tight rfl HO_316001.out); rintro e w22 ⟨rfl, hy0, hb, hkp⟩; refine ⟨_, rfl, ?_⟩; have n0_ := Aside0.mk (Kd.R_reok rfl hy0 (fun k_ e_ => HO_316001.out.1 k_ e_)); have n1_ := Aside0.mk (blk_kept (by (with_reducible repeat (first | refine blk_drewN ?_ _ | refine blk_drew ?_ | refine blk_alloc ?_ _)); exact BK310.out) hkp (fun hs_ => (fun e_ => (Kd.R_ne HO_316001.out BK310.out (by decide)) e_) hs_)); have n2_ := Aside0.mk (blk_kept (by (with_reducible repeat (first | refine blk_drewN ?_ _ | refine blk_drew ?_ | refine blk_alloc ?_ _)); exact BK315.out) hkp (fun hs_ => (fun e_ => (Kd.R_ne HO_316001.out BK315.out (by decide)) e_) hs_)); have n3_ := Aside0.mk (hb); clear HO_316001; clear BK310; clear BK315; clear HB; have HO_316001 := n0_; have BK310 := n1_; have BK315 := n2_; have HB := n3_; clear n0_ n1_ n2_ n3_; (try clear hb); (try clear hkp); (try clear hy0); have hcz23_0 : w22.cell? ⟨gb315, 0, none⟩ = some (.int .i64 t311) := (blk_cell BK315.out 0).trans rfl; have hcz23_1 : w22.cell? ⟨gb315, 1, none⟩ = some (.slice Ao17 x316001_1.length co17) := (blk_cell BK315.out 1).trans rfl; have hfz23_0 := blk_frozen BK315.out 0; have hfz23_1 := blk_frozen BK315.out 1) | ((with_reducible refine gate_callee (f := 52) rfl ?_); refine goesL_ (some 30) rfl rfl Try.func52 (by kernel_rfl) rfl #[.agg #[.int .i64 t311, .slice Ao17 x316001_1.length co17], .int .i64 (wrap64 (6 + x5_1)), .int .i64 (wrap64 (6 + (Int.tmod (wrap64 (x5_1 + 1)) 5)))] rfl (by (try simp only [List.map_toArray, List.map_cons, List.map_nil]); first | done | rfl | (simp only [List.length_drop, List.length_take]; rfl)) ?_; (with_reducible refine (impl_Graph_put.calls t311 (fun k_ => some k_ = (.slice Ao17 x316001_1.length co17 : Value).ownBlock) (.slice Ao17 x316001_1.length co17) t318 (wrap64 (6 + x5_1)) (wrap64 (6 + (Int.tmod (wrap64 (x5_1 + 1)) 5))) t319 w _ ?side1 ?side2 A12.out).mono ?_); (case side1 => repeat (first | (with_reducible first | exact HB.out | apply below_alloc | apply pw_below_drewN | apply below_drew1 | refine below_set ?_ GE310.out | refine below_set ?_ GE315.out) | exact HB.out)); (case side2 => exact Kd.R_tight rfl HO_316001.out); rintro e w24 ⟨rfl, hy0, hb, hkp⟩; refine ⟨_, rfl, ?_⟩; have n0_ := Aside0.mk (Kd.R_reok rfl hy0 (fun k_ e_ => HO_316001.out.1 k_ e_)); have n1_ := Aside0.mk (blk_kept (by (with_reducible repeat (first | refine blk_drewN ?_ _ | refine blk_drew ?_ | refine blk_alloc ?_ _)); exact BK310.out) hkp (fun hs_ => (fun e_ => (Kd.R_ne HO_316001.out BK310.out (by decide)) e_) hs_)); have n2_ := Aside0.mk (blk_kept (by (with_reducible repeat (first | refine blk_drewN ?_ _ | refine blk_drew ?_ | refine blk_alloc ?_ _)); exact BK315.out) hkp (fun hs_ => (fun e_ => (Kd.R_ne HO_316001.out BK315.out (by decide)) e_) hs_)); have n3_ := Aside0.mk (hb); clear HO_316001; clear BK310; clear BK315; clear HB; have HO_316001 := n0_; have BK310 := n1_; have BK315 := n2_; have HB := n3_; clear n0_ n1_ n2_ n3_; (try clear hb); (try clear hkp); (try clear hy0); have hcz25_0 : w24.cell? ⟨gb315, 0, none⟩ = some (.int .i64 t311) := (blk_cell BK315.out 0).trans rfl; have hcz25_1 : w24.cell? ⟨gb315, 1, none⟩ = some (.slice Ao17 x316001_1.length co17) := (blk_cell BK315.out 1).trans rfl; have hfz25_0 := blk_frozen BK315.out 0; have hfz25_1 := blk_frozen BK315.out 1) | ((with_reducible refine gate_callee (f := 52) rfl ?_); refine goesL_ (some 36) rfl rfl Try.func52 (by kernel_rfl) rfl #[.agg #[.int .i64 t311, .slice Ao17 x316001_1.length co17], .int .i64 (wrap64 (1 + x5_1)), .int .i64 (wrap64 (6 + x5_1))] rfl (by (try simp only [List.map_toArray, List.map_cons, List.map_nil]); first | done | rfl | (simp only [List.length_drop, List.length_take]; rfl)) ?_; (with_reducible refine (impl_Graph_put.calls t311 (fun k_ => some k_ = (.slice Ao17 x316001_1.length co17 : Value).ownBlock) (.slice Ao17 x316001_1.length co17) t319 (wrap64 (1 + x5_1)) (wrap64 (6 + x5_1)) t320 w _ ?side1 ?side2 A13.out).mono ?_); (case side1 => repeat (first | (with_reducible first | exact HB.out | apply below_alloc | apply pw_below_drewN | apply below_drew1 | refine below_set ?_ GE310.out | refine below_set ?_ GE315.out) | exact HB.out)); (case side2 => exact Kd.R_tight rfl HO_316001.out); rintro e w26 ⟨rfl, hy0, hb, hkp⟩; refine ⟨_, rfl, ?_⟩; have n0_ := Aside0.mk (Kd.R_reok rfl hy0 (fun k_ e_ => HO_316001.out.1 k_ e_)); have n1_ := Aside0.mk (blk_kept (by (with_reducible repeat (first | refine blk_drewN ?_ _ | refine blk_drew ?_ | refine blk_alloc ?_ _)); exact BK310.out) hkp (fun hs_ => (fun e_ => (Kd.R_ne HO_316001.out BK310.out (by decide)) e_) hs_)); have n2_ := Aside0.mk (blk_kept (by (with_reducible repeat (first | refine blk_drewN ?_ _ | refine blk_drew ?_ | refine blk_alloc ?_ _)); exact BK315.out) hkp (fun hs_ => (fun e_ => (Kd.R_ne HO_316001.out BK315.out (by decide)) e_) hs_)); have n3_ := Aside0.mk (hb); clear HO_316001; clear BK310; clear BK315; clear HB; have HO_316001 := n0_; have BK310 := n1_; have BK315 := n2_; have HB := n3_; clear n0_ n1_ n2_ n3_; (try clear hb); (try clear hkp); (try clear hy0); have hcz27_0 : w26.cell? ⟨gb315, 0, none⟩ = some (.int .i64 t311) := (blk_cell BK315.out 0).trans rfl; have hcz27_1 : w26.cell? ⟨gb315, 1, none⟩ = some (.slice Ao17 x316001_1.length co17) := (blk_cell BK315.out 1).trans rfl; have hfz27_0 := blk_frozen BK315.out 0; have hfz27_1 := blk_frozen BK315.out 1) | ((with_reducible refine gate_callee (f := 52) rfl ?_); refine goesL_ (some 42) rfl rfl Try.func52 (by kernel_rfl) rfl #[.agg #[.int .i64 t311, .slice Ao17 x316001_1.length co17], .int .i64 (wrap64 (1 + x5_1)), .int .i64 (wrap64 (6 + (Int.tmod (wrap64 (x5_1 + 1)) 5)))] rfl (by (try simp only [List.map_toArray, List.map_cons, List.map_nil]); first | done | rfl | (simp only [List.length_drop, List.length_take]; rfl)) ?_; (with_reducible refine (impl_Graph_put.calls t311 (fun k_ => some k_ = (.slice Ao17 x316001_1.length co17 : Value).ownBlock) (.slice Ao17 x316001_1.length co17) t320 (wrap64 (1 + x5_1)) (wrap64 (6 + (Int.tmod (wrap64 (x5_1 + 1)) 5))) t321 w _ ?side1 ?side2 A14.out).mono ?_); (case side1 => repeat (first | (with_reducible first | exact HB.out | apply below_alloc | apply pw_below_drewN | apply below_drew1 | refine below_set ?_ GE310.out | refine below_set ?_ GE315.out) | exact HB.out)); (case side2 => exact Kd.R_tight rfl HO_316001.out); rintro e w28 ⟨rfl, hy0, hb, hkp⟩; refine ⟨_, rfl, ?_⟩; have n0_ := Aside0.mk (Kd.R_reok rfl hy0 (fun k_ e_ => HO_316001.out.1 k_ e_)); have n1_ := Aside0.mk (blk_kept (by (with_reducible repeat (first | refine blk_drewN ?_ _ | refine blk_drew ?_ | refine blk_alloc ?_ _)); exact BK310.out) hkp (fun hs_ => (fun e_ => (Kd.R_ne HO_316001.out BK310.out (by decide)) e_) hs_)); have n2_ := Aside0.mk (blk_kept (by (with_reducible repeat (first | refine blk_drewN ?_ _ | refine blk_drew ?_ | refine blk_alloc ?_ _)); exact BK315.out) hkp (fun hs_ => (fun e_ => (Kd.R_ne HO_316001.out BK315.out (by decide)) e_) hs_)); have n3_ := Aside0.mk (hb); clear HO_316001; clear BK310; clear BK315; clear HB; have HO_316001 := n0_; have BK310 := n1_; have BK315 := n2_; have HB := n3_; clear n0_ n1_ n2_ n3_; (try clear hb); (try clear hkp); (try clear hy0)))
        go_roundg k1
        case measure => have := HK1.out; omega
        case rel => exact ⟨(wrap64 (x5_1 + 1)), (t321), (.slice Ao17 x316001_1.length co17), (by first | rfl | (simp; done) | (simp [*]; done)), H', ⟨by have := HK1.out; omega⟩, ⟨by (with_reducible repeat (first | apply Kd.R_alloc | apply Kd.R_drewN | apply Kd.R_drew)); exact HO_316001.out⟩, ⟨by (with_reducible repeat (first | refine blk_drewN ?_ _ | refine blk_drew ?_ | refine blk_alloc ?_ _)); exact BK310.out⟩, ⟨by (with_reducible repeat (first | refine blk_drewN ?_ _ | refine blk_drew ?_ | refine blk_alloc ?_ _)); exact BK315.out⟩, ⟨by repeat (first | (with_reducible first | exact HB.out | apply below_alloc | apply pw_below_drewN | apply below_drew1 | refine below_set ?_ GE310.out | refine below_set ?_ GE315.out) | exact HB.out)⟩⟩
      · rw [if_neg c8] at H
        have c8b0 : decide (x5_1 < 5) = false := decide_eq_false c8
        clear c8
        simp only [Option.some.injEq, Prod.mk.injEq] at H
        obtain ⟨rfl, rfl⟩ := H
        have hnb29 := NB315_310.out
        have hnc29 := NB310_315.out
        have hcz30_0 : wr.cell? ⟨gb315, 0, none⟩ = some (.int .i64 t311) := (blk_cell BK315.out 0).trans rfl
        have hcz30_1 : wr.cell? ⟨gb315, 1, none⟩ = some (u316001) := (blk_cell BK315.out 1).trans rfl
        have hfz30_0 := blk_frozen BK315.out 0
        have hfz30_1 := blk_frozen BK315.out 1
        have hcz31_0 : wr.cell? ⟨gb310, 0, none⟩ = some (.int .i64 0) := (blk_cell BK310.out 0).trans rfl
        have hcz31_1 : wr.cell? ⟨gb310, 1, none⟩ = some (.slice none 0 0) := (blk_cell BK310.out 1).trans rfl
        have hfz31_0 := blk_frozen BK310.out 0
        have hfz31_1 := blk_frozen BK310.out 1
        obtain ⟨Ao32, co32, eo32⟩ := Kd.R_slice HO_316001.out
        subst eo32
        go_wp2
        refine bodyPost_ret (results_cell_row rfl _ _ gb310 34 #[.int .i64 t311, .slice Ao32 x316001_1.length co32] (0, 0) _ rfl (by (with_reducible repeat (first | refine blk_drewN ?_ _ | refine blk_drew ?_ | refine blk_alloc ?_ _)); refine blk_put (cs := #[.int .i64 t311, .slice none 0 0]) ?_ 1 _ rfl; (with_reducible repeat (first | refine blk_drewN ?_ _ | refine blk_drew ?_ | refine blk_alloc ?_ _)); refine blk_put (cs := #[.int .i64 0, .slice none 0 0]) ?_ 0 _ rfl; (with_reducible repeat (first | refine blk_drewN ?_ _ | refine blk_drew ?_ | refine blk_alloc ?_ _)); exact BK310.out) Try.underlying34 rfl (by kernel_rfl)) rfl ?_
        exact ⟨_, by first | rfl | (simp [errW_none, errW_some] <;> rfl) | (simp [*, errW_none, errW_some] <;> rfl), by (with_reducible repeat (first | apply Kd.R_alloc | apply Kd.R_drewN | apply Kd.R_drew)); exact Kd.R_mono (Kd.R_far (p := ⟨gb310, 1, none⟩) (Kd.R_far (p := ⟨gb310, 0, none⟩) (Kd.R_types HO_316001.out BK310.out (by decide)) (fun _ hk => hk.2) (.int .i64 t311)) (fun _ hk => hk.2) (.slice Ao32 x316001_1.length co32)) (fun _ hk => trivial), by repeat (first | (with_reducible first | exact HB.out | apply below_alloc | apply pw_below_drewN | apply below_drew1 | refine below_set ?_ GE310.out | refine below_set ?_ GE315.out) | exact HB.out)⟩

/-! ### impl_hoffmanSingleton: function 73 -/
mutual
def impl_hoffmanSingleton.l0 : Nat → Int → Int → List Int → Option (Int × List Int)
  | 0, _, _, _ => none
  | k + 1, x6, x328000, x328001 => if x6 < 5 then (impl_hoffmanSingleton.l1 k x6 x6 0 x328000 x328001) else (some (x328000, x328001))
def impl_hoffmanSingleton.l1 : Nat → Int → Int → Int → Int → List Int → Option (Int × List Int)
  | 0, _, _, _, _, _ => none
  | k + 1, x2, x6, x9, x328000, x328001 => if x9 < 5 then ((impl_Graph_put.f x328000 x328001 (wrap64 ((wrap64 (5 * x2)) + x9)) (wrap64 ((wrap64 (5 * x2)) + (Int.tmod (wrap64 (x9 + 1)) 5)))).bind fun t328 => ((impl_Graph_put.f x328000 t328 (wrap64 ((wrap64 (25 + (wrap64 (5 * x2)))) + x9)) (wrap64 ((wrap64 (25 + (wrap64 (5 * x2)))) + (Int.tmod (wrap64 (x9 + 2)) 5)))).bind fun t329 => (impl_hoffmanSingleton.l2 k x2 x9 x6 x9 0 x328000 t329))) else (impl_hoffmanSingleton.l0 k (wrap64 (x6 + 1)) x328000 x328001)
def impl_hoffmanSingleton.l2 : Nat → Int → Int → Int → Int → Int → Int → List Int → Option (Int × List Int)
  | 0, _, _, _, _, _, _, _ => none
  | k + 1, x2, x3, x6, x9, x38, x328000, x328001 => if x38 < 5 then ((impl_Graph_put.f x328000 x328001 (wrap64 ((wrap64 (5 * x2)) + x3)) (wrap64 ((wrap64 (25 + (wrap64 (5 * x38)))) + (Int.tmod (wrap64 ((wrap64 (x2 * x38)) + x3)) 5)))).bind fun t330 => (impl_hoffmanSingleton.l2 k x2 x3 x6 x9 (wrap64 (x38 + 1)) x328000 t330)) else (impl_hoffmanSingleton.l1 k x2 x6 (wrap64 (x9 + 1)) x328000 x328001)
end
def impl_hoffmanSingleton.f (k : Nat)  : Option (Int × List Int) := (impl_empty.f 50).bind fun bt323 => (impl_hoffmanSingleton.l0 k 0 bt323.1 bt323.2)
theorem impl_hoffmanSingleton.mono_l : ∀ k, (∀ y0 y1 y2, LeO (impl_hoffmanSingleton.l0 k y0 y1 y2) (impl_hoffmanSingleton.l0 (k + 1) y0 y1 y2)) ∧ (∀ y0 y1 y2 y3 y4, LeO (impl_hoffmanSingleton.l1 k y0 y1 y2 y3 y4) (impl_hoffmanSingleton.l1 (k + 1) y0 y1 y2 y3 y4)) ∧ (∀ y0 y1 y2 y3 y4 y5 y6, LeO (impl_hoffmanSingleton.l2 k y0 y1 y2 y3 y4 y5 y6) (impl_hoffmanSingleton.l2 (k + 1) y0 y1 y2 y3 y4 y5 y6))
  | 0 => ⟨fun _ _ _ r h => by simp [impl_hoffmanSingleton.l0] at h, fun _ _ _ _ _ r h => by simp [impl_hoffmanSingleton.l1] at h, fun _ _ _ _ _ _ _ r h => by simp [impl_hoffmanSingleton.l2] at h⟩
  | k + 1 => by
    obtain ⟨ih0, ih1, ih2⟩ := impl_hoffmanSingleton.mono_l k
    refine ⟨?_, ?_, ?_⟩
    · intro y0 y1 y2
      unfold impl_hoffmanSingleton.l0
      repeat' first
      | (with_reducible exact ih0 _ _ _)
      | (with_reducible exact ih1 _ _ _ _ _)
      | (with_reducible exact ih2 _ _ _ _ _ _ _)
      | (with_reducible exact LeO.refl _)
      | (with_reducible exact LeO.none _)
      | (with_reducible refine LeO.ite ?_ ?_)
      | (with_reducible refine LeO.bind ?_ (fun _ => ?_))
      | exact ih0 _ _ _
      | exact ih1 _ _ _ _ _
      | exact ih2 _ _ _ _ _ _ _
      | exact LeO.none _
      | refine LeO.ite ?_ ?_
      | refine LeO.bind ?_ (fun _ => ?_)
    · intro y0 y1 y2 y3 y4
      unfold impl_hoffmanSingleton.l1
      repeat' first
      | (with_reducible exact ih0 _ _ _)
      | (with_reducible exact ih1 _ _ _ _ _)
      | (with_reducible exact ih2 _ _ _ _ _ _ _)
      | (with_reducible exact LeO.refl _)
      | (with_reducible exact LeO.none _)
      | (with_reducible refine LeO.ite ?_ ?_)
      | (with_reducible refine LeO.bind ?_ (fun _ => ?_))
      | exact ih0 _ _ _
      | exact ih1 _ _ _ _ _
      | exact ih2 _ _ _ _ _ _ _
      | exact LeO.none _
      | refine LeO.ite ?_ ?_
      | refine LeO.bind ?_ (fun _ => ?_)
    · intro y0 y1 y2 y3 y4 y5 y6
      unfold impl_hoffmanSingleton.l2
      repeat' first
      | (with_reducible exact ih0 _ _ _)
      | (with_reducible exact ih1 _ _ _ _ _)
      | (with_reducible exact ih2 _ _ _ _ _ _ _)
      | (with_reducible exact LeO.refl _)
      | (with_reducible exact LeO.none _)
      | (with_reducible refine LeO.ite ?_ ?_)
      | (with_reducible refine LeO.bind ?_ (fun _ => ?_))
      | exact ih0 _ _ _
      | exact ih1 _ _ _ _ _
      | exact ih2 _ _ _ _ _ _ _
      | exact LeO.none _
      | refine LeO.ite ?_ ?_
      | refine LeO.bind ?_ (fun _ => ?_)
theorem impl_hoffmanSingleton.mono : ∀ k, LeO (impl_hoffmanSingleton.f k ) (impl_hoffmanSingleton.f (k + 1) ) := by
  intro  k
  obtain ⟨ih0, ih1, ih2⟩ := impl_hoffmanSingleton.mono_l k
  unfold impl_hoffmanSingleton.f
  repeat' first
      | (with_reducible exact ih0 _ _ _)
      | (with_reducible exact ih1 _ _ _ _ _)
      | (with_reducible exact ih2 _ _ _ _ _ _ _)
      | (with_reducible exact LeO.refl _)
      | (with_reducible exact LeO.none _)
      | (with_reducible refine LeO.ite ?_ ?_)
      | (with_reducible refine LeO.bind ?_ (fun _ => ?_))
      | exact ih0 _ _ _
      | exact ih1 _ _ _ _ _
      | exact ih2 _ _ _ _ _ _ _
      | exact LeO.none _
      | refine LeO.ite ?_ ?_
      | refine LeO.bind ?_ (fun _ => ?_)
set_option maxHeartbeats 8000000 in
set_option maxRecDepth 100000 in
theorem impl_hoffmanSingleton.calls (k : Nat)  (r1 : Int) (r2 : List Int) (w : World) (h : impl_hoffmanSingleton.f k  = some (r1, r2)) :
    Calls Try.prog 73 #[] w fun e w' => ∃ v1_ : Value, e = .returned (.agg #[.int .i64 r1, v1_]) ∧ Kd.R (Kd.int .i64) 2 w' w.heap.size (fun _ => True) v1_ r2 ∧ Below w.heap.size w w' := by
  have hu34 := Try.underlying34
  have HB := Aside0.mk (Below.refl w.heap.size w)
  have H : ((impl_empty.f 50).bind fun bt323 => (impl_hoffmanSingleton.l0 k 0 bt323.1 bt323.2)) = some (r1, r2) := h
  clear h
  replace H := Option.bind_eq_some_iff.mp H
  obtain ⟨⟨t323, t324⟩, A10, H⟩ := H
  replace H : (impl_hoffmanSingleton.l0 k 0 t323 t324) = some (r1, r2) := H
  have A1 := Aside0.mk A10
  clear A10
  have H' := Aside0.mk H
  clear H
  go_enter Try.func73, Try.ntmps73
  go_wp2_with (first | ((with_reducible refine gate_dst (N := 0) rfl ?_); refine box_event ?hg (N := 0) ?hd (cs := #[.int .i64 0, .slice none 0 0]) (t := 34) ?hr ?_; (case hd => rfl); (case hg => rfl); (case hr => first | (go_simp; done) | (go_simp; rfl)); intro gb322 hg w2 hbox hb; have n0_ := Aside0.mk (below_step (by repeat (first | (with_reducible first | exact HB.out | apply below_alloc | apply pw_below_drewN | apply below_drew1) | exact HB.out)) hb); have n1_ := Aside0.mk (hbox); have n2_ := Aside0.mk ((by rw [hg]; exact (below_size (by repeat (first | (with_reducible first | exact HB.out | apply below_alloc | apply pw_below_drewN | apply below_drew1) | exact HB.out))) : w.heap.size ≤ gb322)); have n3_ := Aside0.mk ((by rw [hg]; exact (below_size (by repeat (first | (with_reducible first | exact HB.out | apply below_alloc | apply pw_below_drewN | apply below_drew1) | exact HB.out))) : w.heap.size ≤ gb322)); clear HB; have HB := n0_; have BK322 := n1_; have GW322 := n2_; have GE322 := n3_; clear n0_ n1_ n2_ n3_; clear hb hbox hg) | ((with_reducible refine gate_callee (f := 51) rfl ?_); refine goesL_ (some 5) rfl rfl Try.func51 (by kernel_rfl) rfl #[.int .i64 50] rfl (by (try simp only [List.map_toArray, List.map_cons, List.map_nil]); first | done | rfl | (simp only [List.length_drop, List.length_take]; rfl)) ?_; (with_reducible refine (impl_empty.calls 50 t323 t324 _ A1.out).mono ?_); rintro e w3 ⟨v325, rfl, ho0, hb⟩; refine ⟨_, rfl, ?_⟩; have n0_ := Aside0.mk (Kd.R_lower ho0 (below_size (by repeat (first | (with_reducible first | exact HB.out | apply below_alloc | apply pw_below_drewN | apply below_drew1 | refine below_set ?_ GE322.out) | exact HB.out)))); have n1_ := Aside0.mk (blk_below (g := gb322) (o := .cells #[.int .i64 0, .slice none 0 0] 34 (0, 0)) (by (with_reducible repeat (first | refine blk_drewN ?_ _ | refine blk_drew ?_ | refine blk_alloc ?_ _)); exact BK322.out) hb); have n2_ := Aside0.mk (below_step (by repeat (first | (with_reducible first | exact HB.out | apply below_alloc | apply pw_below_drewN | apply below_drew1 | refine below_set ?_ GE322.out) | exact HB.out)) hb); clear BK322; clear HB; have HO326 := n0_; have BK322 := n1_; have HB := n2_; clear n0_ n1_ n2_; (try clear hb); (try clear hb2); (try clear hk); (try clear hi); (try clear ho0)) | ((with_reducible refine gate_dst (N := 1) rfl ?_); refine box_event ?hg (N := 1) ?hd (cs := #[.int .i64 0, .slice none 0 0]) (t := 34) ?hr ?_; (case hd => rfl); (case hg => rfl); (case hr => first | (go_simp; done) | (go_simp; rfl)); intro gb327 hg w4 hbox hb; have n0_ := Aside0.mk (Kd.R_below (by (with_reducible repeat (first | apply Kd.R_alloc | apply Kd.R_drewN | apply Kd.R_drew)); exact HO326.out) hb); have n1_ := Aside0.mk (blk_below (g := gb322) (o := .cells #[.int .i64 0, .slice none 0 0] 34 (0, 0)) (by (with_reducible repeat (first | refine blk_drewN ?_ _ | refine blk_drew ?_ | refine blk_alloc ?_ _)); exact BK322.out) hb); have n2_ := Aside0.mk (below_step (by repeat (first | (with_reducible first | exact HB.out | apply below_alloc | apply pw_below_drewN | apply below_drew1 | refine below_set ?_ GE322.out) | exact HB.out)) hb); have n3_ := Aside0.mk (hbox); have n4_ := Aside0.mk ((by rw [hg]; exact (below_size (by repeat (first | (with_reducible first | exact HB.out | apply below_alloc | apply pw_below_drewN | apply below_drew1 | refine below_set ?_ GE322.out) | exact HB.out))) : w.heap.size ≤ gb327)); have n5_ := Aside0.mk ((by rw [hg]; exact (below_size (by repeat (first | (with_reducible first | exact HB.out | apply below_alloc | apply pw_below_drewN | apply below_drew1 | refine below_set ?_ GE322.out) | exact HB.out))) : w.heap.size ≤ gb327)); have n6_ := Aside0.mk ((by rw [hg]; exact Nat.ne_of_lt (blk_lt (g := gb322) (o := .cells #[.int .i64 0, .slice none 0 0] 34 (0, 0)) (by (with_reducible repeat (first | refine blk_drewN ?_ _ | refine blk_drew ?_ | refine blk_alloc ?_ _)); exact BK322.out)) : gb322 ≠ gb327)); have n7_ := Aside0.mk ((by rw [hg]; exact Nat.ne_of_gt (blk_lt (g := gb322) (o := .cells #[.int .i64 0, .slice none 0 0] 34 (0, 0)) (by (with_reducible repeat (first | refine blk_drewN ?_ _ | refine blk_drew ?_ | refine blk_alloc ?_ _)); exact BK322.out)) : gb327 ≠ gb322)); clear HO326; clear BK322; clear HB; have HO326 := n0_; have BK322 := n1_; have HB := n2_; have BK327 := n3_; have GW327 := n4_; have GE327 := n5_; have NB322_327 := n6_; have NB327_322 := n7_; clear n0_ n1_ n2_ n3_ n4_ n5_ n6_ n7_; clear hb hbox hg; have hnb5 := NB327_322.out; have hnc5 := NB322_327.out; have hcz6_0 : w4.cell? ⟨gb327, 0, none⟩ = some (.int .i64 0) := (blk_cell BK327.out 0).trans rfl; have hcz6_1 : w4.cell? ⟨gb327, 1, none⟩ = some (.slice none 0 0) := (blk_cell BK327.out 1).trans rfl; have hfz6_0 := blk_frozen BK327.out 0; have hfz6_1 := blk_frozen BK327.out 1; obtain ⟨Ao7, co7, eo7⟩ := Kd.R_slice HO326.out; subst eo7))
  go_loopg [6] k (fun kq v6 w' => ∃ (x6_1 : Int) (x328001_1 : List Int) (u328001 : Value), v6 = .int .i64 x6_1 ∧ Aside0 (impl_hoffmanSingleton.l0 kq x6_1 t323 x328001_1 = some (r1, r2)) ∧ Aside0 (kq ≤ k) ∧ Aside0 (Kd.R (Kd.int .i64) 2 w' w.heap.size (fun _ => True) u328001 x328001_1) ∧ Aside0 (w'.heap[gb322]? = some (.cells #[.int .i64 0, (.slice none 0 0)] 34 (0, 0))) ∧ Aside0 (w'.heap[gb327]? = some (.cells #[.int .i64 t323, u328001] 34 (0, 0))) ∧ Aside0 (Below w.heap.size w w'))
  case atStart => exact ⟨(0), (t324), (.slice Ao7 t324.length co7), (by first | rfl | (simp; done) | (simp [*]; done)), H', ⟨Nat.le_refl _⟩, ⟨by (with_reducible repeat (first | apply Kd.R_alloc | apply Kd.R_drewN | apply Kd.R_drew)); exact Kd.R_mono (Kd.R_far (p := ⟨gb327, 1, none⟩) (Kd.R_far (p := ⟨gb327, 0, none⟩) (Kd.R_types HO326.out BK327.out (by decide)) (fun _ hk => hk.2) (.int .i64 t323)) (fun _ hk => hk.2) (.slice Ao7 t324.length co7)) (fun _ hk => trivial)⟩, ⟨by (with_reducible repeat (first | refine blk_drewN ?_ _ | refine blk_drew ?_ | refine blk_alloc ?_ _)); refine blk_far ?_ NB322_327.out _; (with_reducible repeat (first | refine blk_drewN ?_ _ | refine blk_drew ?_ | refine blk_alloc ?_ _)); refine blk_far ?_ NB322_327.out _; (with_reducible repeat (first | refine blk_drewN ?_ _ | refine blk_drew ?_ | refine blk_alloc ?_ _)); exact BK322.out⟩, ⟨by (with_reducible repeat (first | refine blk_drewN ?_ _ | refine blk_drew ?_ | refine blk_alloc ?_ _)); refine blk_put (cs := #[.int .i64 t323, .slice none 0 0]) ?_ 1 _ rfl; (with_reducible repeat (first | refine blk_drewN ?_ _ | refine blk_drew ?_ | refine blk_alloc ?_ _)); refine blk_put (cs := #[.int .i64 0, .slice none 0 0]) ?_ 0 _ rfl; (with_reducible repeat (first | refine blk_drewN ?_ _ | refine blk_drew ?_ | refine blk_alloc ?_ _)); exact BK327.out⟩, ⟨by repeat (first | (with_reducible first | exact HB.out | apply below_alloc | apply pw_below_drewN | apply below_drew1 | refine below_set ?_ GE322.out | refine below_set ?_ GE327.out) | exact HB.out)⟩⟩
  case round =>
    clear H'
    try clear p2
    try clear c5
    try clear c7
    try clear hcz6_0
    try clear hcz6_1
    try clear hfz6_0
    try clear hfz6_1
    obtain ⟨x6_1, x328001_1, u328001, rfl, HA, HK1, HO_328001, BK322, BK327, HB⟩ := hrel
    cases gk with
    | zero => exact absurd HA.out (by simp [impl_hoffmanSingleton.l0])
    | succ k1 =>
      have H := HA.out
      clear HA
      simp only [impl_hoffmanSingleton.l0] at H
      by_cases c8 : x6_1 < 5
      · rw [if_pos c8] at H
        have c8b0 : decide (x6_1 < 5) = true := decide_eq_true c8
        clear c8
        have H' := Aside0.mk H
        clear H
        go_wp2
        go_loopg [9] k1 (fun kq v9 w' => ∃ (x9_2 : Int) (x328001_2 : List Int) (u328001 : Value), v9 = .int .i64 x9_2 ∧ Aside0 (impl_hoffmanSingleton.l1 kq x6_1 x6_1 x9_2 t323 x328001_2 = some (r1, r2)) ∧ Aside0 (kq ≤ k1) ∧ Aside0 (Kd.R (Kd.int .i64) 2 w' w.heap.size (fun _ => True) u328001 x328001_2) ∧ Aside0 (w'.heap[gb322]? = some (.cells #[.int .i64 0, (.slice none 0 0)] 34 (0, 0))) ∧ Aside0 (w'.heap[gb327]? = some (.cells #[.int .i64 t323, u328001] 34 (0, 0))) ∧ Aside0 (Below w.heap.size w w'))
        case atStart => exact ⟨(0), (x328001_1), (u328001), (by first | rfl | (simp; done) | (simp [*]; done)), H', ⟨Nat.le_refl _⟩, ⟨by (with_reducible repeat (first | apply Kd.R_alloc | apply Kd.R_drewN | apply Kd.R_drew)); exact HO_328001.out⟩, ⟨by (with_reducible repeat (first | refine blk_drewN ?_ _ | refine blk_drew ?_ | refine blk_alloc ?_ _)); exact BK322.out⟩, ⟨by (with_reducible repeat (first | refine blk_drewN ?_ _ | refine blk_drew ?_ | refine blk_alloc ?_ _)); exact BK327.out⟩, ⟨by repeat (first | (with_reducible first | exact HB.out | apply below_alloc | apply pw_below_drewN | apply below_drew1 | refine below_set ?_ GE322.out | refine below_set ?_ GE327.out) | exact HB.out)⟩⟩
        case round =>
          clear H'
          try clear p2
          try clear c5
          try clear c7
          try clear c8
          try clear c8b0
          try clear hcz6_0
          try clear hcz6_1
          try clear hfz6_0
          try clear hfz6_1
          try clear p2
          obtain ⟨x9_2, x328001_2, u328001, rfl, HA, HK2, HO_328001, BK322, BK327, HB⟩ := hrel
          cases gk with
          | zero => exact absurd HA.out (by simp [impl_hoffmanSingleton.l1])
          | succ k2 =>
            have H := HA.out
            clear HA
            simp only [impl_hoffmanSingleton.l1] at H
            by_cases c9 : x9_2 < 5
            · rw [if_pos c9] at H
              have c9b0 : decide (x9_2 < 5) = true := decide_eq_true c9
              clear c9
              replace H := Option.bind_eq_some_iff.mp H
              obtain ⟨t328, A100, H⟩ := H
              replace H : ((impl_Graph_put.f t323 t328 (wrap64 ((wrap64 (25 + (wrap64 (5 * x6_1)))) + x9_2)) (wrap64 ((wrap64 (25 + (wrap64 (5 * x6_1)))) + (Int.tmod (wrap64 (x9_2 + 2)) 5)))).bind fun t329 => (impl_hoffmanSingleton.l2 k2 x6_1 x9_2 x6_1 x9_2 0 t323 t329)) = some (r1, r2) := H
              have A10 := Aside0.mk A100
              clear A100
              replace H := Option.bind_eq_some_iff.mp H
              obtain ⟨t329, A110, H⟩ := H
              replace H : (impl_hoffmanSingleton.l2 k2 x6_1 x9_2 x6_1 x9_2 0 t323 t329) = some (r1, r2) := H
              have A11 := Aside0.mk A110
              clear A110
              have H' := Aside0.mk H
              clear H
              have hnb12 := NB327_322.out
              have hnc12 := NB322_327.out
              have hcz13_0 : wr.cell? ⟨gb327, 0, none⟩ = some (.int .i64 t323) := (blk_cell BK327.out 0).trans rfl
              have hcz13_1 : wr.cell? ⟨gb327, 1, none⟩ = some (u328001) := (blk_cell BK327.out 1).trans rfl
              have hfz13_0 := blk_frozen BK327.out 0
              have hfz13_1 := blk_frozen BK327.out 1
              obtain ⟨Ao14, co14, eo14⟩ := Kd.R_slice HO_328001.out
              subst eo14
              go_wp2_with (first | ((with_reducible refine gate_callee (f := 52) rfl ?_); refine goesL_ (some 23) rfl rfl Try.func52 (by kernel_rfl) rfl #[.agg #[.int .i64 t323, .slice Ao14 x328001_2.length co14], .int .i64 (wrap64 ((wrap64 (5 * x6_1)) + x9_2)), .int .i64 (wrap64 ((wrap64 (5 * x6_1)) + (Int.tmod (wrap64 (x9_2 + 1)) 5)))] rfl (by (try simp only [List.map_toArray, List.map_cons, List.map_nil]); first | done | rfl | (simp only [List.length_drop, List.length_take]; rfl)) ?_; (with_reducible refine (impl_Graph_put.calls t323 (fun k_ => some k_ = (.slice Ao14 x328001_2.length co14 : Value).ownBlock) (.slice Ao14 x328001_2.length co14) x328001_2 (wrap64 ((wrap64 (5 * x6_1)) + x9_2)) (wrap64 ((wrap64 (5 * x6_1)) + (Int.tmod (wrap64 (x9_2 + 1)) 5))) t328 w _ ?side1 ?side2 A10.out).mono ?_); (case side1 => repeat (first | (with_reducible first | exact HB.out | apply below_alloc | apply pw_below_drewN | apply below_drew1 | refine below_set ?_ GE322.out | refine below_set ?_ GE327.out) | exact HB.out)); (case side2 => exact Kd.R_tight rfl HO_328001.out); rintro e w15 ⟨rfl, hy0, hb, hkp⟩; refine ⟨_, rfl, ?_⟩; have n0_ := Aside0.mk (Kd.R_reok rfl hy0 (fun k_ e_ => HO_328001.out.1 k_ e_)); have n1_ := Aside0.mk (blk_kept (by (with_reducible repeat (first | refine blk_drewN ?_ _ | refine blk_drew ?_ | refine blk_alloc ?_ _)); exact BK322.out) hkp (fun hs_ => (fun e_ => (Kd.R_ne HO_328001.out BK322.out (by decide)) e_) hs_)); have n2_ := Aside0.mk (blk_kept (by (with_reducible repeat (first | refine blk_drewN ?_ _ | refine blk_drew ?_ | refine blk_alloc ?_ _)); exact BK327.out) hkp (fun hs_ => (fun e_ => (Kd.R_ne HO_328001.out BK327.out (by decide)) e_) hs_)); have n3_ := Aside0.mk (hb); clear HO_328001; clear BK322; clear BK327; clear HB; have HO_328001 := n0_; have BK322 := n1_; have BK327 := n2_; have HB := n3_; clear n0_ n1_ n2_ n3_; (try clear hb); (try clear hkp); (try clear hy0); have hcz16_0 : w15.cell? ⟨gb327, 0, none⟩ = some (.int .i64 t323) := (blk_cell BK327.out 0).trans rfl; have hcz16_1 : w15.cell? ⟨gb327, 1, none⟩ = some (.slice Ao14 x328001_2.length co14) := (blk_cell BK327.out 1).trans rfl; have hfz16_0 := blk_frozen BK327.out 0; have hfz16_1 := blk_frozen BK327.out 1) | ((with_reducible refine gate_callee (f := 52) rfl ?_); refine goesL_ (some 37) rfl rfl Try.func52 (by kernel_rfl) rfl #[.agg #[.int .i64 t323, .slice Ao14 x328001_2.length co14], .int .i64 (wrap64 ((wrap64 (25 + (wrap64 (5 * x6_1)))) + x9_2)), .int .i64 (wrap64 ((wrap64 (25 + (wrap64 (5 * x6_1)))) + (Int.tmod (wrap64 (x9_2 + 2)) 5)))] rfl (by (try simp only [List.map_toArray, List.map_cons, List.map_nil]); first | done | rfl | (simp only [List.length_drop, List.length_take]; rfl)) ?_; (with_reducible refine (impl_Graph_put.calls t323 (fun k_ => some k_ = (.slice Ao14 x328001_2.length co14 : Value).ownBlock) (.slice Ao14 x328001_2.length co14) t328 (wrap64 ((wrap64 (25 + (wrap64 (5 * x6_1)))) + x9_2)) (wrap64 ((wrap64 (25 + (wrap64 (5 * x6_1)))) + (Int.tmod (wrap64 (x9_2 + 2)) 5))) t329 w _ ?side1 ?side2 A11.out).mono ?_); (case side1 => repeat (first | (with_reducible first | exact HB.out | apply below_alloc | apply pw_below_drewN | apply below_drew1 | refine below_set ?_ GE322.out | refine below_set ?_ GE327.out) | exact HB.out)); (case side2 => exact Kd.R_tight rfl HO_328001.out); rintro e w17 ⟨rfl, hy0, hb, hkp⟩; refine ⟨_, rfl, ?_⟩; have n0_ := Aside0.mk (Kd.R_reok rfl hy0 (fun k_ e_ => HO_328001.out.1 k_ e_)); have n1_ := Aside0.mk (blk_kept (by (with_reducible repeat (first | refine blk_drewN ?_ _ | refine blk_drew ?_ | refine blk_alloc ?_ _)); exact BK322.out) hkp (fun hs_ => (fun e_ => (Kd.R_ne HO_328001.out BK322.out (by decide)) e_) hs_)); have n2_ := Aside0.mk (blk_kept (by (with_reducible repeat (first | refine blk_drewN ?_ _ | refine blk_drew ?_ | refine blk_alloc ?_ _)); exact BK327.out) hkp (fun hs_ => (fun e_ => (Kd.R_ne HO_328001.out BK327.out (by decide)) e_) hs_)); have n3_ := Aside0.mk (hb); clear HO_328001; clear BK322; clear BK327; clear HB; have HO_328001 := n0_; have BK322 := n1_; have BK327 := n2_; have HB := n3_; clear n0_ n1_ n2_ n3_; (try clear hb); (try clear hkp); (try clear hy0)))
              go_loopg [38] k2 (fun kq v38 w' => ∃ (x38_3 : Int) (x328001_3 : List Int) (u328001 : Value), v38 = .int .i64 x38_3 ∧ Aside0 (impl_hoffmanSingleton.l2 kq x6_1 x9_2 x6_1 x9_2 x38_3 t323 x328001_3 = some (r1, r2)) ∧ Aside0 (kq ≤ k2) ∧ Aside0 (Kd.R (Kd.int .i64) 2 w' w.heap.size (fun _ => True) u328001 x328001_3) ∧ Aside0 (w'.heap[gb322]? = some (.cells #[.int .i64 0, (.slice none 0 0)] 34 (0, 0))) ∧ Aside0 (w'.heap[gb327]? = some (.cells #[.int .i64 t323, u328001] 34 (0, 0))) ∧ Aside0 (Below w.heap.size w w'))
              case atStart => exact ⟨(0), (t329), (.slice Ao14 x328001_2.length co14), (by first | rfl | (simp; done) | (simp [*]; done)), H', ⟨Nat.le_refl _⟩, ⟨by (with_reducible repeat (first | apply Kd.R_alloc | apply Kd.R_drewN | apply Kd.R_drew)); exact HO_328001.out⟩, ⟨by (with_reducible repeat (first | refine blk_drewN ?_ _ | refine blk_drew ?_ | refine blk_alloc ?_ _)); exact BK322.out⟩, ⟨by (with_reducible repeat (first | refine blk_drewN ?_ _ | refine blk_drew ?_ | refine blk_alloc ?_ _)); exact BK327.out⟩, ⟨by repeat (first | (with_reducible first | exact HB.out | apply below_alloc | apply pw_below_drewN | apply below_drew1 | refine below_set ?_ GE322.out | refine below_set ?_ GE327.out) | exact HB.out)⟩⟩
              case round =>
                clear H'
                try clear c1
                try clear p2
                try clear c5
                try clear p6
                try clear c7
                try clear c8
                try clear c8b0
                try clear c9
                try clear c9b0
                try clear c12
                try clear hcz13_0
                try clear hcz13_1
                try clear hcz16_0
                try clear hcz16_1
                try clear hcz6_0
                try clear hcz6_1
                try clear hfz13_0
                try clear hfz13_1
                try clear hfz16_0
                try clear hfz16_1
                try clear hfz6_0
                try clear hfz6_1
                try clear p2
                obtain ⟨x38_3, x328001_3, u328001, rfl, HA, HK3, HO_328001, BK322, BK327, HB⟩ := hrel
                cases gk with
                | zero => exact absurd HA.out (by simp [impl_hoffmanSingleton.l2])
                | succ k3 =>
                  have H := HA.out
                  clear HA
                  simp only [impl_hoffmanSingleton.l2] at H
                  by_cases c18 : x38_3 < 5
                  · rw [if_pos c18] at H
                    have c18b0 : decide (x38_3 < 5) = true := decide_eq_true c18
                    clear c18
                    replace H := Option.bind_eq_some_iff.mp H
                    obtain ⟨t330, A190, H⟩ := H
                    replace H : (impl_hoffmanSingleton.l2 k3 x6_1 x9_2 x6_1 x9_2 (wrap64 (x38_3 + 1)) t323 t330) = some (r1, r2) := H
                    have A19 := Aside0.mk A190
                    clear A190
                    have H' := Aside0.mk H
                    clear H
                    have hnb20 := NB327_322.out
                    have hnc20 := NB322_327.out
                    have hcz21_0 : wr.cell? ⟨gb327, 0, none⟩ = some (.int .i64 t323) := (blk_cell BK327.out 0).trans rfl
                    have hcz21_1 : wr.cell? ⟨gb327, 1, none⟩ = some (u328001) := (blk_cell BK327.out 1).trans rfl
                    have hfz21_0 := blk_frozen BK327.out 0
                    have hfz21_1 := blk_frozen BK327.out 1
                    obtain ⟨Ao22, co22, eo22⟩ := Kd.R_slice HO_328001.out
                    subst eo22
                    go_wp2_with (first | ((with_reducible refine gate_callee (f := 52) rfl ?_); refine goesL_ (some 56) rfl rfl Try.func52 (by kernel_rfl) rfl #[.agg #[.int .i64 t323, .slice Ao22 x328001_3.length co22], .int .i64 (wrap64 ((wrap64 (5 * x6_1)) + x9_2)), .int .i64 (wrap64 ((wrap64 (25 + (wrap64 (5 * x38_3)))) + (Int.tmod (wrap64 ((wrap64 (x6_1 * x38_3)) + x9_2)) 5)))] rfl (by (try simp only [List.map_toArray, List.map_cons, List.map_nil]); first | done | rfl | (simp only [List.length_drop, List.length_take]; rfl)) ?_; (with_reducible refine (impl_Graph_put.calls t323 (fun k_ => some k_ = (.slice Ao22 x328001_3.length co22 : Value).ownBlock) (.slice Ao22 x328001_3.length co22) x328001_3 (wrap64 ((wrap64 (5 * x6_1)) + x9_2)) (wrap64 ((wrap64 (25 + (wrap64 (5 * x38_3)))) + (Int.tmod (wrap64 ((wrap64 (x6_1 * x38_3)) + x9_2)) 5))) t330 w _ ?side1 ?side2 A19.out).mono ?_); (case side1 => repeat (first | (with_reducible first | exact HB.out | apply below_alloc | apply pw_below_drewN | apply below_drew1 | refine below_set ?_ GE322.out | refine below_set ?_ GE327.out) | exact HB.out)); (case side2 => exact Kd.R_tight rfl HO_328001.out); rintro e w23 ⟨rfl, hy0, hb, hkp⟩; refine ⟨_, rfl, ?_⟩; have n0_ := Aside0.mk (Kd.R_reok rfl hy0 (fun k_ e_ => HO_328001.out.1 k_ e_)); have n1_ := Aside0.mk (blk_kept (by (with_reducible repeat (first | refine blk_drewN ?_ _ | refine blk_drew ?_ | refine blk_alloc ?_ _)); exact BK322.out) hkp (fun hs_ => (fun e_ => (Kd.R_ne HO_328001.out BK322.out (by decide)) e_) hs_)); have n2_ := Aside0.mk (blk_kept (by (with_reducible repeat (first | refine blk_drewN ?_ _ | refine blk_drew ?_ | refine blk_alloc ?_ _)); exact BK327.out) hkp (fun hs_ => (fun e_ => (Kd.R_ne HO_328001.out BK327.out (by decide)) e_) hs_)); have n3_ := Aside0.mk (hb); clear HO_328001; clear BK322; clear BK327; clear HB; have HO_328001 := n0_; have BK322 := n1_; have BK327 := n2_; have HB := n3_; clear n0_ n1_ n2_ n3_; (try clear hb); (try clear hkp); (try clear hy0)))
                    go_roundg k3
                    case measure => have := HK1.out; have := HK2.out; have := HK3.out; omega
                    case rel => exact ⟨(wrap64 (x38_3 + 1)), (t330), (.slice Ao22 x328001_3.length co22), (by first | rfl | (simp; done) | (simp [*]; done)), H', ⟨by have := HK1.out; have := HK2.out; have := HK3.out; omega⟩, ⟨by (with_reducible repeat (first | apply Kd.R_alloc | apply Kd.R_drewN | apply Kd.R_drew)); exact HO_328001.out⟩, ⟨by (with_reducible repeat (first | refine blk_drewN ?_ _ | refine blk_drew ?_ | refine blk_alloc ?_ _)); exact BK322.out⟩, ⟨by (with_reducible repeat (first | refine blk_drewN ?_ _ | refine blk_drew ?_ | refine blk_alloc ?_ _)); exact BK327.out⟩, ⟨by repeat (first | (with_reducible first | exact HB.out | apply below_alloc | apply pw_below_drewN | apply below_drew1 | refine below_set ?_ GE322.out | refine below_set ?_ GE327.out) | exact HB.out)⟩⟩
                  · rw [if_neg c18] at H
                    have c18b0 : decide (x38_3 < 5) = false := decide_eq_false c18
                    clear c18
                    have H' := Aside0.mk H
                    clear H
                    go_wp2
                    go_roundg k3
                    case measure => have := HK1.out; have := HK2.out; have := HK3.out; omega
                    case rel => exact ⟨(wrap64 (x9_2 + 1)), (x328001_3), (u328001), (by first | rfl | (simp; done) | (simp [*]; done)), H', ⟨by have := HK1.out; have := HK2.out; have := HK3.out; omega⟩, ⟨by (with_reducible repeat (first | apply Kd.R_alloc | apply Kd.R_drewN | apply Kd.R_drew)); exact HO_328001.out⟩, ⟨by (with_reducible repeat (first | refine blk_drewN ?_ _ | refine blk_drew ?_ | refine blk_alloc ?_ _)); exact BK322.out⟩, ⟨by (with_reducible repeat (first | refine blk_drewN ?_ _ | refine blk_drew ?_ | refine blk_alloc ?_ _)); exact BK327.out⟩, ⟨by repeat (first | (with_reducible first | exact HB.out | apply below_alloc | apply pw_below_drewN | apply below_drew1 | refine below_set ?_ GE322.out | refine below_set ?_ GE327.out) | exact HB.out)⟩⟩
            · rw [if_neg c9] at H
              have c9b0 : decide (x9_2 < 5) = false := decide_eq_false c9
              clear c9
              have H' := Aside0.mk H
              clear H
              go_wp2
              go_roundg k2
              case measure => have := HK1.out; have := HK2.out; omega
              case rel => exact ⟨(wrap64 (x6_1 + 1)), (x328001_2), (u328001), (by first | rfl | (simp; done) | (simp [*]; done)), H', ⟨by have := HK1.out; have := HK2.out; omega⟩, ⟨by (with_reducible repeat (first | apply Kd.R_alloc | apply Kd.R_drewN | apply Kd.R_drew)); exact HO_328001.out⟩, ⟨by (with_reducible repeat (first | refine blk_drewN ?_ _ | refine blk_drew ?_ | refine blk_alloc ?_ _)); exact BK322.out⟩, ⟨by (with_reducible repeat (first | refine blk_drewN ?_ _ | refine blk_drew ?_ | refine blk_alloc ?_ _)); exact BK327.out⟩, ⟨by repeat (first | (with_reducible first | exact HB.out | apply below_alloc | apply pw_below_drewN | apply below_drew1 | refine below_set ?_ GE322.out | refine below_set ?_ GE327.out) | exact HB.out)⟩⟩
      · rw [if_neg c8] at H
        have c8b0 : decide (x6_1 < 5) = false := decide_eq_false c8
        clear c8
        simp only [Option.some.injEq, Prod.mk.injEq] at H
        obtain ⟨rfl, rfl⟩ := H
        have hnb24 := NB327_322.out
        have hnc24 := NB322_327.out
        have hcz25_0 : wr.cell? ⟨gb327, 0, none⟩ = some (.int .i64 t323) := (blk_cell BK327.out 0).trans rfl
        have hcz25_1 : wr.cell? ⟨gb327, 1, none⟩ = some (u328001) := (blk_cell BK327.out 1).trans rfl
        have hfz25_0 := blk_frozen BK327.out 0
        have hfz25_1 := blk_frozen BK327.out 1
        have hcz26_0 : wr.cell? ⟨gb322, 0, none⟩ = some (.int .i64 0) := (blk_cell BK322.out 0).trans rfl
        have hcz26_1 : wr.cell? ⟨gb322, 1, none⟩ = some (.slice none 0 0) := (blk_cell BK322.out 1).trans rfl
        have hfz26_0 := blk_frozen BK322.out 0
        have hfz26_1 := blk_frozen BK322.out 1
        obtain ⟨Ao27, co27, eo27⟩ := Kd.R_slice HO_328001.out
        subst eo27
        go_wp2
        refine bodyPost_ret (results_cell_row rfl _ _ gb322 34 #[.int .i64 t323, .slice Ao27 x328001_1.length co27] (0, 0) _ rfl (by (with_reducible repeat (first | refine blk_drewN ?_ _ | refine blk_drew ?_ | refine blk_alloc ?_ _)); refine blk_put (cs := #[.int .i64 t323, .slice none 0 0]) ?_ 1 _ rfl; (with_reducible repeat (first | refine blk_drewN ?_ _ | refine blk_drew ?_ | refine blk_alloc ?_ _)); refine blk_put (cs := #[.int .i64 0, .slice none 0 0]) ?_ 0 _ rfl; (with_reducible repeat (first | refine blk_drewN ?_ _ | refine blk_drew ?_ | refine blk_alloc ?_ _)); exact BK322.out) Try.underlying34 rfl (by kernel_rfl)) rfl ?_
        exact ⟨_, by first | rfl | (simp [errW_none, errW_some] <;> rfl) | (simp [*, errW_none, errW_some] <;> rfl), by (with_reducible repeat (first | apply Kd.R_alloc | apply Kd.R_drewN | apply Kd.R_drew)); exact Kd.R_mono (Kd.R_far (p := ⟨gb322, 1, none⟩) (Kd.R_far (p := ⟨gb322, 0, none⟩) (Kd.R_types HO_328001.out BK322.out (by decide)) (fun _ hk => hk.2) (.int .i64 t323)) (fun _ hk => hk.2) (.slice Ao27 x328001_1.length co27)) (fun _ hk => trivial), by repeat (first | (with_reducible first | exact HB.out | apply below_alloc | apply pw_below_drewN | apply below_drew1 | refine below_set ?_ GE322.out | refine below_set ?_ GE327.out) | exact HB.out)⟩

end Go.Proofs.Ythnjnhdalpcfpaa.XFnExactNamedGraph
