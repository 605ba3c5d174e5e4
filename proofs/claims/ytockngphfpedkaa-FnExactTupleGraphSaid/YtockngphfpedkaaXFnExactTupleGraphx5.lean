-- Written by this project's own program (mprint.py) by means of the kit's printer: with contracts of its own for the functions that the printer leaves out.
import Derived.Test.YtockngphfpedkaaXFnExactTupleGraphx0
import Derived.Test.YtockngphfpedkaaXFnExactTupleGraphx2
import Derived.Test.YtockngphfpedkaaXFnExactTupleGraphx3
import Derived.Test.YtockngphfpedkaaXFnExactTupleGraphx4
namespace Go.Proofs.Ytockngphfpedkaa.XFnExactTupleGraph
open Go.RowKit Go.Proofs.YtockngphfpedkaaW.PrintWords Go.Proofs.YtockngphfpedkaaW.PrintLast Go.Proofs.YtockngphfpedkaaW.PrintMore
attribute [local go_sem] max2_int min2_int max_two min_two max_three min_three max_four min_four   -- for this text's walks alone
set_option linter.unusedVariables false
set_option linter.unusedSimpArgs false

/-! ### impl_empty: function 48 -/
def impl_empty.f (a0 : Int) : Option (Int × List Int) := if 0 ≤ a0 then (if (a0 : Int).toNat ≤ 35184372088832 then (some (a0, (List.replicate (a0 : Int).toNat 0))) else (none)) else (none)
set_option maxHeartbeats 8000000 in
set_option maxRecDepth 100000 in
theorem impl_empty.calls (a0 : Int) (r1 : Int) (r2 : List Int) (w : World) (h : impl_empty.f a0 = some (r1, r2)) :
    Calls Try.prog 48 #[.int .i64 a0] w fun e w' => ∃ v1_ : Value, e = .returned (.agg #[.int .i64 r1, v1_]) ∧ Kd.R (Kd.int .i64) 2 w' w.heap.size (fun _ => True) v1_ r2 ∧ Below w.heap.size w w' := by
  have hu34 := Try.underlying34
  have HB := Aside0.mk (Below.refl w.heap.size w)
  have H : (if 0 ≤ a0 then (if (a0 : Int).toNat ≤ 35184372088832 then (some (a0, (List.replicate (a0 : Int).toNat 0))) else (none)) else (none)) = some (r1, r2) := h
  clear h
  by_cases c2 : 0 ≤ a0
  · rw [if_pos c2] at H
    have c2b0 := eq_true c2
    have c2b1 : decide (0 ≤ a0) = true := decide_eq_true c2
    clear c2
    by_cases c3 : (a0 : Int).toNat ≤ 35184372088832
    · rw [if_pos c3] at H
      have c3b0 := eq_true c3
      have c3b1 : decide ((a0 : Int).toNat ≤ 35184372088832) = true := decide_eq_true c3
      clear c3
      obtain ⟨y177, hy177⟩ : ∃ y_ : List Int, y_ = (List.replicate (a0 : Int).toNat 0) := ⟨_, rfl⟩
      replace H : (some (a0, y177)) = some (r1, r2) := by first | (rw [hy177]; with_reducible exact H) | (have H2_ := (Option.bind_some _ _).symm.trans H; rw [hy177]; with_reducible exact H2_) | (have H2_ := (Option.bind_some _ _).symm.trans H; with_reducible exact H2_) | with_reducible exact H | (rw [hy177]; exact H) | exact H
      have Ny177 := Aside0.mk hy177
      clear hy177
      simp only [Option.some.injEq, Prod.mk.injEq] at H
      obtain ⟨rfl, rfl⟩ := H
      go_enter Try.func48, Try.ntmps48
      go_wp2_with (first | ((with_reducible refine gate_dst (N := 2) rfl ?_); refine box_event ?hg (N := 2) ?hd (cs := #[.int .i64 0, .slice none 0 0]) (t := 34) ?hr ?_; (case hd => rfl); (case hg => rfl); (case hr => first | (go_simp; done) | (go_simp; rfl)); intro gb176 hg w4 hbox hb; have n0_ := Aside0.mk (below_step (by repeat (first | (with_reducible first | exact HB.out | apply below_alloc | apply pw_below_drewN | apply below_drew1) | exact HB.out)) hb); have n1_ := Aside0.mk (hbox); have n2_ := Aside0.mk ((by rw [hg]; exact (below_size (by repeat (first | (with_reducible first | exact HB.out | apply below_alloc | apply pw_below_drewN | apply below_drew1) | exact HB.out))) : w.heap.size ≤ gb176)); have n3_ := Aside0.mk ((by rw [hg]; exact (below_size (by repeat (first | (with_reducible first | exact HB.out | apply below_alloc | apply pw_below_drewN | apply below_drew1) | exact HB.out))) : w.heap.size ≤ gb176)); clear HB; have HB := n0_; have BK176 := n1_; have GW176 := n2_; have GE176 := n3_; clear n0_ n1_ n2_ n3_; clear hb hbox hg) | ((with_reducible refine gate_dst (N := 5) rfl ?_); refine Kd.R_make (Kd.int .i64) _ 2 rfl (N := 5) rfl 22 _ _ rfl a0 rfl rfl Try.underlying22 (.int .i64 0) 8 info2 rfl (by decide) (by omega) 0 (ok := fun _ => True) (okp := fun _ => True) rfl (fun _ hk => hk) trivial (of_decide_eq_true (by first | (with_reducible assumption) | assumption)) (Nat.le_trans (Nat.mul_le_mul_right _ (of_decide_eq_true (by first | (with_reducible assumption) | assumption) : a0.toNat ≤ 35184372088832)) (by omega)) (Below.refl _ _) (Nat.le_refl _) ?_; intro v178 w5 ho6 hb hg_ hnew_; clear hg_ hnew_; (first | rw [← Ny177.out] at ho6 | (simp only [Int.reduceToNat] at ho6; rw [← Ny177.out] at ho6)); have n0_ := Aside0.mk (Kd.R_lower ho6 (below_size (by repeat (first | (with_reducible first | exact HB.out | apply below_alloc | apply pw_below_drewN | apply below_drew1 | refine below_set ?_ GE176.out) | exact HB.out)))); have n1_ := Aside0.mk (blk_below (g := gb176) (o := .cells #[.int .i64 0, .slice none 0 0] 34 (0, 0)) (by (with_reducible repeat (first | refine blk_drewN ?_ _ | refine blk_drew ?_ | refine blk_alloc ?_ _)); exact BK176.out) hb); have n2_ := Aside0.mk (below_step (by repeat (first | (with_reducible first | exact HB.out | apply below_alloc | apply pw_below_drewN | apply below_drew1 | refine below_set ?_ GE176.out) | exact HB.out)) hb); clear BK176; clear HB; have HO179 := n0_; have BK176 := n1_; have HB := n2_; clear n0_ n1_ n2_; clear hb ho6; obtain ⟨Ao7, co7, eo7⟩ := Kd.R_slice HO179.out; subst eo7; have hcz8_0 : w5.cell? ⟨gb176, 0, none⟩ = some (.int .i64 0) := (blk_cell BK176.out 0).trans rfl; have hcz8_1 : w5.cell? ⟨gb176, 1, none⟩ = some (.slice none 0 0) := (blk_cell BK176.out 1).trans rfl; have hfz8_0 := blk_frozen BK176.out 0; have hfz8_1 := blk_frozen BK176.out 1))
      refine bodyPost_ret (results_cell_row rfl _ _ gb176 34 #[.int .i64 a0, .slice Ao7 y177.length co7] (0, 0) _ rfl (by (with_reducible repeat (first | refine blk_drewN ?_ _ | refine blk_drew ?_ | refine blk_alloc ?_ _)); refine blk_put (cs := #[.int .i64 a0, .slice none 0 0]) ?_ 1 _ rfl; (with_reducible repeat (first | refine blk_drewN ?_ _ | refine blk_drew ?_ | refine blk_alloc ?_ _)); refine blk_put (cs := #[.int .i64 0, .slice none 0 0]) ?_ 0 _ rfl; (with_reducible repeat (first | refine blk_drewN ?_ _ | refine blk_drew ?_ | refine blk_alloc ?_ _)); exact BK176.out) Try.underlying34 rfl (by kernel_rfl)) rfl ?_
      exact ⟨_, by first | rfl | (simp [errW_none, errW_some] <;> rfl) | (simp [*, errW_none, errW_some] <;> rfl), by (with_reducible repeat (first | apply Kd.R_alloc | apply Kd.R_drewN | apply Kd.R_drew)); exact Kd.R_mono (Kd.R_far (p := ⟨gb176, 1, none⟩) (Kd.R_far (p := ⟨gb176, 0, none⟩) (Kd.R_types HO179.out BK176.out (by decide)) (fun _ hk => hk.2) (.int .i64 a0)) (fun _ hk => hk.2) (.slice Ao7 y177.length co7)) (fun _ hk => trivial), by repeat (first | (with_reducible first | exact HB.out | apply below_alloc | apply pw_below_drewN | apply below_drew1 | refine below_set ?_ GE176.out) | exact HB.out)⟩
    · rw [if_neg c3] at H
      exact absurd H (by simp)
  · rw [if_neg c2] at H
    exact absurd H (by simp)

/-! ### impl_Graph_put: function 49 -/
def impl_Graph_put.f (a0_0 : Int) (l0_1 : List Int) (a1 : Int) (a2 : Int) : Option (List Int) := if a1 = a2 then (some l0_1) else (if 0 ≤ a1 then (if a1 < (l0_1.length : Int) then (if 0 ≤ a2 then ((some (l0_1.set (a1 : Int).toNat (Go.bits .or .i64 (rd l0_1 a1) (shl .i64 1 a2)) : List Int)).bind fun y182 => (if a2 < (l0_1.length : Int) then (some (y182.set (a2 : Int).toNat (Go.bits .or .i64 (rd y182 a2) (shl .i64 1 a1)))) else (none))) else (none)) else (none)) else (none))
def impl_Graph_put.T2 : Bool × List (List Nat × List Nat) := (true, [([], []), ([0], [0]), ([], []), ([1, 2], [1, 2]), ([3], [3]), ([], []), ([5], [5]), ([4, 6], [4, 6]), ([1, 2, 0, 1, 2, 3, 4, 5, 6, 7], [1, 2]), ([8, 7, 0, 1, 2, 3, 4, 5, 6, 7], [7, 8])])
def impl_Graph_put.B2 : List Nat := [0, 1, 0, 7, 15, 0, 32, 127, 255, 511]
theorem impl_Graph_put.tab2 : rtab .any (opsOf Try.f49 2) = impl_Graph_put.T2 := by kernel_rfl
theorem impl_Graph_put.bits2 : waitsOk impl_Graph_put.T2.2 impl_Graph_put.B2 = true := by kernel_rfl
def impl_Graph_put.T3 : Bool × List (List Nat × List Nat) := (true, [([], []), ([0], [0]), ([], []), ([1, 2], [1, 2]), ([3], [3]), ([], []), ([5], [5]), ([4, 6], [4, 6]), ([1, 2, 0, 1, 2, 3, 4, 5, 6, 7], [1, 2]), ([8, 7, 0, 1, 2, 3, 4, 5, 6, 7], [7, 8])])
def impl_Graph_put.B3 : List Nat := [0, 1, 0, 7, 15, 0, 32, 127, 255, 511]
theorem impl_Graph_put.tab3 : rtab .any (opsOf Try.f49 3) = impl_Graph_put.T3 := by kernel_rfl
theorem impl_Graph_put.bits3 : waitsOk impl_Graph_put.T3.2 impl_Graph_put.B3 = true := by kernel_rfl
set_option maxHeartbeats 8000000 in
set_option maxRecDepth 100000 in
theorem impl_Graph_put.calls (a0_0 : Int) (P0_1_ : Nat → Prop) (u9000_ : Value) (l0_1 : List Int) (a1 : Int) (a2 : Int) (r : List Int) (w0 w : World) (hB : Below w0.heap.size w0 w) (ho0_1 : Kd.R (Kd.int .i64) 2 w w0.heap.size P0_1_ u9000_ l0_1) (h : impl_Graph_put.f a0_0 l0_1 a1 a2 = some r) :
    Calls Try.prog 49 #[.agg #[.int .i64 a0_0, u9000_], .int .i64 a1, .int .i64 a2] w fun e w' => e = .returned (.tuple #[]) ∧ Kd.R (Kd.int .i64) 2 w' w0.heap.size (fun k_ => (P0_1_ k_ ∨ w.heap.size ≤ k_)) u9000_ r ∧ Below w0.heap.size w0 w' ∧ Kept w w' (fun k_ => P0_1_ k_) := by
  have hu34 := Try.underlying34
  have HO0_1 := Aside0.mk (show Kd.R (Kd.int .i64) 2 w w0.heap.size (fun k_ => (P0_1_ k_ ∨ w.heap.size ≤ k_)) u9000_ l0_1 from Kd.R_mono ho0_1 (fun k_ hk => (.inl hk)))
  have HK := Aside0.mk (Kept.refl w (fun k_ => P0_1_ k_))
  have HW0 := Aside0.mk hB.size
  have HB := Aside0.mk hB
  clear hB
  have H : (if a1 = a2 then (some l0_1) else (if 0 ≤ a1 then (if a1 < (l0_1.length : Int) then (if 0 ≤ a2 then ((some (l0_1.set (a1 : Int).toNat (Go.bits .or .i64 (rd l0_1 a1) (shl .i64 1 a2)) : List Int)).bind fun y182 => (if a2 < (l0_1.length : Int) then (some (y182.set (a2 : Int).toNat (Go.bits .or .i64 (rd y182 a2) (shl .i64 1 a1)))) else (none))) else (none)) else (none)) else (none))) = some r := h
  clear h
  by_cases c4 : a1 = a2
  · rw [if_pos c4] at H
    have c4b0 : (a1 == a2) = true := beq_iff_eq.mpr c4
    have c4b1 : (a1 != a2) = false := bne_eq_false_iff_eq.mpr c4
    clear c4
    obtain rfl := Option.some.inj H
    obtain ⟨Ao5, co5, eo5⟩ := Kd.R_slice HO0_1.out
    subst eo5
    go_enter Try.func49, Try.ntmps49
    go_wp2_with (first | ((with_reducible refine gate_dst (N := 3) rfl ?_); refine box_event ?hg (N := 3) ?hd (cs := #[.int .i64 a0_0, .slice Ao5 l0_1.length co5]) (t := 34) ?hr ?_; (case hd => rfl); (case hg => rfl); (case hr => first | (go_simp; done) | (go_simp; rfl)); intro gb180 hg w6 hbox hb; have n0_ := Aside0.mk (Kd.R_below (by (with_reducible repeat (first | apply Kd.R_alloc | apply Kd.R_drewN | apply Kd.R_drew)); exact HO0_1.out) hb); have n1_ := Aside0.mk (Kept.below (S := (fun k_ => P0_1_ k_)) (by repeat (first | (with_reducible first | exact HK.out | apply Kept.alloc | apply Kept.drewN | apply Kept.drew) | exact HK.out)) hb); have n2_ := Aside0.mk (below_step (by repeat (first | (with_reducible first | exact HB.out | apply below_alloc | apply pw_below_drewN | apply below_drew1) | exact HB.out)) hb); have n3_ := Aside0.mk (hbox); have n4_ := Aside0.mk ((by rw [hg]; exact (by first | exact HK.out.1 | exact (show Kept w _ (fun k_ => P0_1_ k_) from by repeat (first | (with_reducible first | exact HK.out | apply Kept.alloc | apply Kept.drewN | apply Kept.drew) | exact HK.out)).1) : w.heap.size ≤ gb180)); have n5_ := Aside0.mk ((by rw [hg]; exact (below_size (by repeat (first | (with_reducible first | exact HB.out | apply below_alloc | apply pw_below_drewN | apply below_drew1) | exact HB.out))) : w0.heap.size ≤ gb180)); clear HO0_1; clear HK; clear HB; have HO0_1 := n0_; have HK := n1_; have HB := n2_; have BK180 := n3_; have GW180 := n4_; have GE180 := n5_; clear n0_ n1_ n2_ n3_ n4_ n5_; clear hb hbox hg))
    first | go_end0 | ((try simp only [Exit.inBlock, Exit.then]); refine bodyPost_ret (results_none rfl _ _ _) rfl ?_)
    exact ⟨by first | rfl | (simp [errW_none, errW_some] <;> rfl) | (simp [*, errW_none, errW_some] <;> rfl), by (with_reducible repeat (first | apply Kd.R_alloc | apply Kd.R_drewN | apply Kd.R_drew)); exact HO0_1.out, by repeat (first | (with_reducible first | exact HB.out | apply below_alloc | apply pw_below_drewN | apply below_drew1 | refine below_set ?_ GE180.out) | exact HB.out), by repeat (first | (with_reducible first | exact HK.out | apply Kept.alloc | apply Kept.drewN | apply Kept.drew | refine Kept.setCell ?_ (.inr GW180.out) _) | exact HK.out)⟩
  · rw [if_neg c4] at H
    have c4b0 : (a1 == a2) = false := beq_eq_false_iff_ne.mpr c4
    have c4b1 : (a1 != a2) = true := bne_iff_ne.mpr c4
    by_cases c7 : 0 ≤ a1
    · rw [if_pos c7] at H
      have c7b0 : decide (0 ≤ a1) = true := decide_eq_true c7
      clear c7
      by_cases c8 : a1 < (l0_1.length : Int)
      · rw [if_pos c8] at H
        have c8b0 : decide (a1 < (l0_1.length : Int)) = true := decide_eq_true c8
        clear c8
        by_cases c9 : 0 ≤ a2
        · rw [if_pos c9] at H
          have c9b0 := eq_true c9
          have c9b1 : decide (0 ≤ a2) = true := decide_eq_true c9
          clear c9
          obtain ⟨ji10, hji10⟩ : ∃ j_ : Int, (shl .i64 1 a2) = j_ := ⟨_, rfl⟩
          replace H : ((some (l0_1.set (a1 : Int).toNat (Go.bits .or .i64 (rd l0_1 a1) (ji10)) : List Int)).bind fun y182 => (if a2 < (l0_1.length : Int) then (some (y182.set (a2 : Int).toNat (Go.bits .or .i64 (rd y182 a2) (shl .i64 1 a1)))) else (none))) = some r := by first | (rw [hji10] at H; exact H) | (simp only [hji10] at H ⊢; exact H)
          have hji10_ : (IntKind.i64.wrap (1 * 2 ^ min a2.toNat 64)) = ji10 := hji10
          have hji10z : a2 ≤ 64 → (IntKind.i64.wrap (1 * 2 ^ a2.toNat)) = ji10 := shl_small hji10
          have hji10u : (IntKind.i64.wrap (2 ^ min a2.toNat 64)) = ji10 := by have h_ := hji10_; rw [Int.one_mul] at h_; exact h_
          have hji10v : a2 ≤ 64 → (IntKind.i64.wrap (2 ^ a2.toNat)) = ji10 := fun hle_ => by have h_ := hji10z hle_; rw [Int.one_mul] at h_; exact h_
          have hji10y : (wrap64 (1 * 2 ^ min a2.toNat 64)) = ji10 := (i64_w _).symm.trans hji10_
          have hji10x : a2 ≤ 64 → (wrap64 (1 * 2 ^ a2.toNat)) = ji10 := fun h_ => (i64_w _).symm.trans (hji10z h_)
          obtain ⟨y182, hy182⟩ : ∃ y_ : List Int, y_ = (l0_1.set (a1 : Int).toNat (Go.bits .or .i64 (rd l0_1 a1) (ji10))) := ⟨_, rfl⟩
          replace H : (if a2 < (l0_1.length : Int) then (some (y182.set (a2 : Int).toNat (Go.bits .or .i64 (rd y182 a2) (shl .i64 1 a1)))) else (none)) = some r := by first | (rw [hy182]; with_reducible exact H) | (have H2_ := (Option.bind_some _ _).symm.trans H; rw [hy182]; with_reducible exact H2_) | (have H2_ := (Option.bind_some _ _).symm.trans H; with_reducible exact H2_) | with_reducible exact H | (rw [hy182]; exact H) | exact H
          have Ny182 := Aside0.mk hy182
          clear hy182
          by_cases c12 : a2 < (l0_1.length : Int)
          · rw [if_pos c12] at H
            have c12b0 : decide (a2 < (l0_1.length : Int)) = true := decide_eq_true c12
            clear c12
            have c13b0 := eq_true (of_decide_eq_true (by first | (with_reducible assumption) | assumption) : 0 ≤ a1)
            obtain ⟨ji14, hji14⟩ : ∃ j_ : Int, (shl .i64 1 a1) = j_ := ⟨_, rfl⟩
            replace H : (some (y182.set (a2 : Int).toNat (Go.bits .or .i64 (rd y182 a2) (ji14)))) = some r := by first | (rw [hji14] at H; exact H) | (simp only [hji14] at H ⊢; exact H)
            have hji14_ : (IntKind.i64.wrap (1 * 2 ^ min a1.toNat 64)) = ji14 := hji14
            have hji14z : a1 ≤ 64 → (IntKind.i64.wrap (1 * 2 ^ a1.toNat)) = ji14 := shl_small hji14
            have hji14u : (IntKind.i64.wrap (2 ^ min a1.toNat 64)) = ji14 := by have h_ := hji14_; rw [Int.one_mul] at h_; exact h_
            have hji14v : a1 ≤ 64 → (IntKind.i64.wrap (2 ^ a1.toNat)) = ji14 := fun hle_ => by have h_ := hji14z hle_; rw [Int.one_mul] at h_; exact h_
            have hji14y : (wrap64 (1 * 2 ^ min a1.toNat 64)) = ji14 := (i64_w _).symm.trans hji14_
            have hji14x : a1 ≤ 64 → (wrap64 (1 * 2 ^ a1.toNat)) = ji14 := fun h_ => (i64_w _).symm.trans (hji14z h_)
            obtain ⟨y184, hy184⟩ : ∃ y_ : List Int, y_ = (y182.set (a2 : Int).toNat (Go.bits .or .i64 (rd y182 a2) (ji14))) := ⟨_, rfl⟩
            replace H : (some y184) = some r := by first | (rw [hy184]; with_reducible exact H) | (have H2_ := (Option.bind_some _ _).symm.trans H; rw [hy184]; with_reducible exact H2_) | (have H2_ := (Option.bind_some _ _).symm.trans H; with_reducible exact H2_) | with_reducible exact H | (rw [hy184]; exact H) | exact H
            have Ny184 := Aside0.mk hy184
            clear hy184
            obtain rfl := Option.some.inj H
            obtain ⟨Ao16, co16, eo16⟩ := Kd.R_slice HO0_1.out
            subst eo16
            go_enter Try.func49, Try.ntmps49
            try go_wp2_with (first | ((with_reducible refine gate_dst (N := 3) rfl ?_); refine box_event ?hg (N := 3) ?hd (cs := #[.int .i64 a0_0, .slice Ao16 l0_1.length co16]) (t := 34) ?hr ?_; (case hd => rfl); (case hg => rfl); (case hr => first | (go_simp; done) | (go_simp; rfl)); intro gb180 hg w17 hbox hb; have n0_ := Aside0.mk (Kd.R_below (by (with_reducible repeat (first | apply Kd.R_alloc | apply Kd.R_drewN | apply Kd.R_drew)); exact HO0_1.out) hb); have n1_ := Aside0.mk (Kept.below (S := (fun k_ => P0_1_ k_)) (by repeat (first | (with_reducible first | exact HK.out | apply Kept.alloc | apply Kept.drewN | apply Kept.drew) | exact HK.out)) hb); have n2_ := Aside0.mk (below_step (by repeat (first | (with_reducible first | exact HB.out | apply below_alloc | apply pw_below_drewN | apply below_drew1) | exact HB.out)) hb); have n3_ := Aside0.mk (hbox); have n4_ := Aside0.mk ((by rw [hg]; exact (by first | exact HK.out.1 | exact (show Kept w _ (fun k_ => P0_1_ k_) from by repeat (first | (with_reducible first | exact HK.out | apply Kept.alloc | apply Kept.drewN | apply Kept.drew) | exact HK.out)).1) : w.heap.size ≤ gb180)); have n5_ := Aside0.mk ((by rw [hg]; exact (below_size (by repeat (first | (with_reducible first | exact HB.out | apply below_alloc | apply pw_below_drewN | apply below_drew1) | exact HB.out))) : w0.heap.size ≤ gb180)); clear HO0_1; clear HK; clear HB; have HO0_1 := n0_; have HK := n1_; have HB := n2_; have BK180 := n3_; have GW180 := n4_; have GE180 := n5_; clear n0_ n1_ n2_ n3_ n4_ n5_; clear hb hbox hg))
            have n0_ := Aside0.mk (Kd.R_drew HO0_1.out)
            have n1_ := Aside0.mk (blk_drew BK180.out)
            have n2_ := Aside0.mk (Kept.drew HK.out)
            have n3_ := Aside0.mk (below_drew1 HB.out)
            clear HO0_1
            clear BK180
            clear HK
            clear HB
            have HO0_1 := n0_
            have BK180 := n1_
            have HK := n2_
            have HB := n3_
            clear n0_ n1_ n2_ n3_
            have p181 : 0 ≤ (a1 : Int) := of_decide_eq_true (by first | (with_reducible assumption) | assumption)
            have q181 : a1 < (l0_1.length : Int) := of_decide_eq_true (by first | (with_reducible assumption) | assumption)
            obtain ⟨ad181, e181, hx181_0⟩ := Kd.at_int (Kd.R_reads' HO0_1.out).2.2 a1 p181 q181
            cases e181
            replace p181 := eq_true p181
            replace q181 := eq_true q181
            have p11 : 0 ≤ (a1 : Int) := of_decide_eq_true (by first | (with_reducible assumption) | assumption)
            have q11 : (a1 : Int) < ((l0_1.length : Int) : Int) := of_decide_eq_true (by first | (with_reducible assumption) | assumption)
            obtain ⟨go11, co11, eo11, gb11, gl11, cl11, HG11⟩ := Kd.R_form HO0_1.out (by omega)
            (first | cases eo11 | (injection eo11 with ea_ en_ ec_; (first | subst ea_ | (injection ea_ with ea_; subst ea_)); subst ec_; clear en_))
            have GB11 := Aside0.mk gb11
            have GG11 := Aside0.mk HG11
            clear gb11 gl11 HG11
            have HMgo11 := Aside0.mk (show (P0_1_ go11 ∨ w.heap.size ≤ go11) from (HO0_1.out.1 _ rfl))
            (first | simp only [add_plain] at hx181_0 | skip)
            obtain ⟨hx11_0, hf11_0⟩ := Kd.R_celln 0 HO0_1.out (a1 : Int) p11 q11
            replace p11 := eq_true p11
            replace q11 := eq_true q11
            have HP19 := Kd.R_putn HO0_1.out (a1 : Int) (Go.bits .or .i64 (rd l0_1 a1) (ji10))
            rw [← Ny182.out] at HP19
            have HQ19 := Aside0.mk HP19
            clear HP19
            refine start_ (n := 10) (S := fun w' => w'.cell? ⟨gb180, 0, none⟩ = some (.int .i64 a0_0) ∧ w'.cell? ⟨gb180, 1, none⟩ = some (.slice (some ⟨go11, 0, none⟩) l0_1.length co16) ∧ w'.cell? ⟨go11, (a1).toNat, none⟩ = some (.int .i64 (rd l0_1 a1))) (ds := [9]) #[false, false, false, false, false, false, false, false, false, false] (by kernel_rfl) rfl rfl ⟨(blk_cell BK180.out 0).trans rfl, (blk_cell BK180.out 1).trans rfl, hx181_0⟩ (fun hHeld => ?_); refine with_tabW impl_Graph_put.tab2 impl_Graph_put.bits2 (fun HT_ HW_ => ?_)
            generalize w17.drew = w18 at HO0_1 BK180 HK HB GG11 HQ19 hf11_0 hx11_0 hx181_0 hHeld ⊢
            refine pure_ (i := 0) (N := some 9) (v := ?_) (a' := ?_) #[true, false, false, false, false, false, false, false, false, false] rfl rfl (any_of HT_.out (by kernel_rfl)) (fun _ _ _ h => h) (Or.inl ⟨by rfl, ?_⟩) ?_ ?_
            rotate_left
            · intro w'
              go_simp
              with_reducible rfl
            rotate_left
            · simp only [Act.put, List.setIfInBounds_toArray, List.set_cons_zero, List.set_cons_succ, i64_w, i32_w]
              rfl
            refine pure_ (i := 2) (N := some 11) (v := ?_) (a' := ?_) #[true, false, true, false, false, false, false, false, false, false] rfl rfl (any_of HT_.out (by kernel_rfl)) (fun _ _ _ h => h) (Or.inl ⟨by rfl, ?_⟩) ?_ ?_
            rotate_left
            · intro w'
              go_simp
              with_reducible rfl
            rotate_left
            · simp only [Act.put, List.setIfInBounds_toArray, List.set_cons_zero, List.set_cons_succ, i64_w, i32_w]
              rfl
            refine pure_ (i := 5) (N := some 14) (v := ?_) (a' := ?_) #[true, false, true, false, false, true, false, false, false, false] rfl rfl (any_of HT_.out (by kernel_rfl)) (fun _ _ _ h => h) (Or.inl ⟨by rfl, ?_⟩) ?_ ?_
            rotate_left
            · intro w'
              go_simp
              with_reducible rfl
            rotate_left
            · simp only [Act.put, List.setIfInBounds_toArray, List.set_cons_zero, List.set_cons_succ, i64_w, i32_w]
              rfl
            refine pure_ (i := 6) (N := some 15) (v := ?_) (a' := ?_) #[true, false, true, false, false, true, true, false, false, false] rfl rfl (any_of HT_.out (by kernel_rfl)) (fun _ _ _ h => h) (Or.inl ⟨by rfl, ?_⟩) ?_ ?_
            rotate_left
            · intro w'
              go_simp
              with_reducible rfl
            rotate_left
            · simp only [Act.put, List.setIfInBounds_toArray, List.set_cons_zero, List.set_cons_succ, i64_w, i32_w]
              rfl
            refine take_ (i := 1) (N := some 10) (v := ?_) (a' := ?_) #[true, true, true, false, false, true, true, false, false, false] rfl rfl (take_ofW HT_.out HW_.out (by kernel_rfl)) (fun _ _ _ h => h) (Or.inl ⟨by rfl, ?_⟩) hHeld ?_ ?_
            rotate_left
            · rintro w' ⟨s0, s1, s2⟩
              go_simp
              with_reducible rfl
            rotate_left
            · simp only [Act.put, List.setIfInBounds_toArray, List.set_cons_zero, List.set_cons_succ, i64_w, i32_w]
              rfl
            refine pure_ (i := 3) (N := some 12) (v := ?_) (a' := ?_) #[true, true, true, true, false, true, true, false, false, false] rfl rfl (any_of HT_.out (by kernel_rfl)) (fun _ _ _ h => h) (Or.inl ⟨by rfl, ?_⟩) ?_ ?_
            rotate_left
            · intro w'
              go_simp
              with_reducible rfl
            rotate_left
            · simp only [Act.put, List.setIfInBounds_toArray, List.set_cons_zero, List.set_cons_succ, i64_w, i32_w]
              rfl
            refine take_ (i := 4) (N := some 13) (v := ?_) (a' := ?_) #[true, true, true, true, true, true, true, false, false, false] rfl rfl (take_ofW HT_.out HW_.out (by kernel_rfl)) (fun _ _ _ h => h) (Or.inl ⟨by rfl, ?_⟩) hHeld ?_ ?_
            rotate_left
            · rintro w' ⟨s0, s1, s2⟩
              go_simp
              with_reducible rfl
            rotate_left
            · simp only [Act.put, List.setIfInBounds_toArray, List.set_cons_zero, List.set_cons_succ, i64_w, i32_w]
              rfl
            refine pure_ (i := 7) (N := some 16) (v := ?_) (a' := ?_) #[true, true, true, true, true, true, true, true, false, false] rfl rfl (any_of HT_.out (by kernel_rfl)) (fun _ _ _ h => h) (Or.inl ⟨by rfl, ?_⟩) ?_ ?_
            rotate_left
            · intro w'
              go_simp
              with_reducible rfl
            rotate_left
            · simp only [Act.put, List.setIfInBounds_toArray, List.set_cons_zero, List.set_cons_succ, i64_w, i32_w]
              rfl
            refine pure_ (i := 8) (N := some 17) (v := ?_) (a' := ?_) #[true, true, true, true, true, true, true, true, true, false] rfl rfl (any_of HT_.out (by kernel_rfl)) (fun _ _ _ h => h) (Or.inl ⟨by rfl, ?_⟩) ?_ ?_
            rotate_left
            · intro w'
              go_simp
              with_reducible rfl
            rotate_left
            · simp only [Act.put, List.setIfInBounds_toArray, List.set_cons_zero, List.set_cons_succ, i64_w, i32_w]
              rfl
            refine last_ (i := 9) (N := none) #[true, true, true, true, true, true, true, true, true, true] rfl rfl (one_of HT_.out (by kernel_rfl)) (by decide) (fun K hK => ?_)
            refine skip_ (w1 := ?_) (by rfl) rfl ?_ ?_
            rotate_left
            · go_simp
              rfl
            refine hK.out _ _ ?_
            clear hK K
            refine done_ (done_of HT_.out (by kernel_rfl)) ?_
            try go_wp2
            have n0_ : Aside0 (Kd.R (Kd.int .i64) 2 (w18.setCell ⟨go11, (a1 : Int).toNat, none⟩ (.int .i64 (Go.bits .or .i64 (rd l0_1 a1) (ji10)))) w0.heap.size (fun k_ => (P0_1_ k_ ∨ w.heap.size ≤ k_)) (.slice (some ⟨go11, 0, none⟩) l0_1.length co16) y182) := ⟨by (with_reducible repeat (first | apply Kd.R_alloc | apply Kd.R_drewN | apply Kd.R_drew)); exact HQ19.out⟩
            have n1_ : Aside0 ((w18.setCell ⟨go11, (a1 : Int).toNat, none⟩ (.int .i64 (Go.bits .or .i64 (rd l0_1 a1) (ji10)))).heap[gb180]? = some (.cells #[.int .i64 a0_0, .slice (some ⟨go11, 0, none⟩) l0_1.length co16] 34 (0, 0))) := ⟨by (with_reducible repeat (first | refine blk_drewN ?_ _ | refine blk_drew ?_ | refine blk_alloc ?_ _)); refine blk_far ?_ (by have h_ := Kd.R_ne HO0_1.out BK180.out (by decide); intro e_; exact h_ (by rw [e_]; rfl)) _; (with_reducible repeat (first | refine blk_drewN ?_ _ | refine blk_drew ?_ | refine blk_alloc ?_ _)); exact BK180.out⟩
            have n2_ : Aside0 (Kept w (w18.setCell ⟨go11, (a1 : Int).toNat, none⟩ (.int .i64 (Go.bits .or .i64 (rd l0_1 a1) (ji10)))) (fun k_ => P0_1_ k_)) := ⟨by repeat (first | (with_reducible first | exact HK.out | apply Kept.alloc | apply Kept.drewN | apply Kept.drew | refine Kept.setCell ?_ HMgo11.out _ | refine Kept.setCell ?_ (.inr GW180.out) _) | exact HK.out)⟩
            have n3_ : Aside0 (Below w0.heap.size w0 (w18.setCell ⟨go11, (a1 : Int).toNat, none⟩ (.int .i64 (Go.bits .or .i64 (rd l0_1 a1) (ji10))))) := ⟨by repeat (first | (with_reducible first | exact HB.out | apply below_alloc | apply pw_below_drewN | apply below_drew1 | refine below_set ?_ GB11.out | refine below_set ?_ GE180.out) | exact HB.out)⟩
            (try clear HO0_1)
            (try clear BK180)
            (try clear HK)
            (try clear HB)
            generalize (w18.setCell ⟨go11, (a1 : Int).toNat, none⟩ (.int .i64 (Go.bits .or .i64 (rd l0_1 a1) (ji10)))) = w20 at n0_ n1_ n2_ n3_ ⊢
            have HO0_1 := n0_
            have BK180 := n1_
            have HK := n2_
            have HB := n3_
            clear n0_ n1_ n2_ n3_
            have n0_ := Aside0.mk (Kd.R_drew HO0_1.out)
            have n1_ := Aside0.mk (blk_drew BK180.out)
            have n2_ := Aside0.mk (Kept.drew HK.out)
            have n3_ := Aside0.mk (below_drew1 HB.out)
            clear HO0_1
            clear BK180
            clear HK
            clear HB
            have HO0_1 := n0_
            have BK180 := n1_
            have HK := n2_
            have HB := n3_
            clear n0_ n1_ n2_ n3_
            have p183 : 0 ≤ (a2 : Int) := of_decide_eq_true (by first | (with_reducible assumption) | assumption)
            have q183 : a2 < (y182.length : Int) := (by have h_ : (a2 : Int) < ((l0_1.length : Int) : Int) := of_decide_eq_true (by first | (with_reducible assumption) | assumption); first | (have e_ := (Kd.R_reads' HO0_1.out).1; omega) | simpa only [Ny182.out, List.length_set] using h_)
            have ql183 : ((a2 : Int) < ((l0_1.length : Int) : Int)) = True := eq_true (of_decide_eq_true (by first | (with_reducible assumption) | assumption))
            obtain ⟨ad183, e183, hx183_0⟩ := Kd.at_int (Kd.R_reads' HO0_1.out).2.2 a2 p183 q183
            obtain rfl : (⟨go11, 0, none⟩ : Addr) = ad183 := (by injection e183)
            (first | simp only [add_plain] at hx183_0 | simp only [add_at] at hx183_0 | simp only [Addr.add, Nat.zero_add] at hx183_0 | skip)
            replace p183 := eq_true p183
            replace q183 := eq_true q183
            have p15 : 0 ≤ (a2 : Int) := of_decide_eq_true (by first | (with_reducible assumption) | assumption)
            have q15 : (a2 : Int) < ((l0_1.length : Int) : Int) := of_decide_eq_true (by first | (with_reducible assumption) | assumption)
            obtain ⟨hx15_0, hf15_0⟩ := Kd.R_celln 0 HO0_1.out (a2 : Int) p15 q15
            replace p15 := eq_true p15
            replace q15 := eq_true q15
            have HP22 := Kd.R_putn HO0_1.out (a2 : Int) (Go.bits .or .i64 (rd y182 a2) (ji14))
            rw [← Ny184.out] at HP22
            have HQ22 := Aside0.mk HP22
            clear HP22
            refine start_ (n := 10) (S := fun w' => w'.cell? ⟨gb180, 0, none⟩ = some (.int .i64 a0_0) ∧ w'.cell? ⟨gb180, 1, none⟩ = some (.slice (some ⟨go11, 0, none⟩) l0_1.length co16) ∧ w'.cell? ⟨go11, (a2).toNat, none⟩ = some (.int .i64 (rd y182 a2))) (ds := [9]) #[false, false, false, false, false, false, false, false, false, false] (by kernel_rfl) rfl rfl ⟨(blk_cell BK180.out 0).trans rfl, (blk_cell BK180.out 1).trans rfl, hx183_0⟩ (fun hHeld => ?_); refine with_tabW impl_Graph_put.tab3 impl_Graph_put.bits3 (fun HT_ HW_ => ?_)
            generalize w20.drew = w21 at HO0_1 BK180 HK HB HQ19 HQ22 hf15_0 hx15_0 hx183_0 hHeld ⊢
            refine pure_ (i := 0) (N := some 18) (v := ?_) (a' := ?_) #[true, false, false, false, false, false, false, false, false, false] rfl rfl (any_of HT_.out (by kernel_rfl)) (fun _ _ _ h => h) (Or.inl ⟨by rfl, ?_⟩) ?_ ?_
            rotate_left
            · intro w'
              go_simp
              with_reducible rfl
            rotate_left
            · simp only [Act.put, List.setIfInBounds_toArray, List.set_cons_zero, List.set_cons_succ, i64_w, i32_w]
              rfl
            refine pure_ (i := 2) (N := some 20) (v := ?_) (a' := ?_) #[true, false, true, false, false, false, false, false, false, false] rfl rfl (any_of HT_.out (by kernel_rfl)) (fun _ _ _ h => h) (Or.inl ⟨by rfl, ?_⟩) ?_ ?_
            rotate_left
            · intro w'
              go_simp
              with_reducible rfl
            rotate_left
            · simp only [Act.put, List.setIfInBounds_toArray, List.set_cons_zero, List.set_cons_succ, i64_w, i32_w]
              rfl
            refine pure_ (i := 5) (N := some 23) (v := ?_) (a' := ?_) #[true, false, true, false, false, true, false, false, false, false] rfl rfl (any_of HT_.out (by kernel_rfl)) (fun _ _ _ h => h) (Or.inl ⟨by rfl, ?_⟩) ?_ ?_
            rotate_left
            · intro w'
              go_simp
              with_reducible rfl
            rotate_left
            · simp only [Act.put, List.setIfInBounds_toArray, List.set_cons_zero, List.set_cons_succ, i64_w, i32_w]
              rfl
            refine pure_ (i := 6) (N := some 24) (v := ?_) (a' := ?_) #[true, false, true, false, false, true, true, false, false, false] rfl rfl (any_of HT_.out (by kernel_rfl)) (fun _ _ _ h => h) (Or.inl ⟨by rfl, ?_⟩) ?_ ?_
            rotate_left
            · intro w'
              go_simp
              with_reducible rfl
            rotate_left
            · simp only [Act.put, List.setIfInBounds_toArray, List.set_cons_zero, List.set_cons_succ, i64_w, i32_w]
              rfl
            refine take_ (i := 1) (N := some 19) (v := ?_) (a' := ?_) #[true, true, true, false, false, true, true, false, false, false] rfl rfl (take_ofW HT_.out HW_.out (by kernel_rfl)) (fun _ _ _ h => h) (Or.inl ⟨by rfl, ?_⟩) hHeld ?_ ?_
            rotate_left
            · rintro w' ⟨s0, s1, s2⟩
              go_simp
              with_reducible rfl
            rotate_left
            · simp only [Act.put, List.setIfInBounds_toArray, List.set_cons_zero, List.set_cons_succ, i64_w, i32_w]
              rfl
            refine pure_ (i := 3) (N := some 21) (v := ?_) (a' := ?_) #[true, true, true, true, false, true, true, false, false, false] rfl rfl (any_of HT_.out (by kernel_rfl)) (fun _ _ _ h => h) (Or.inl ⟨by rfl, ?_⟩) ?_ ?_
            rotate_left
            · intro w'
              go_simp
              with_reducible rfl
            rotate_left
            · simp only [Act.put, List.setIfInBounds_toArray, List.set_cons_zero, List.set_cons_succ, i64_w, i32_w]
              rfl
            refine take_ (i := 4) (N := some 22) (v := ?_) (a' := ?_) #[true, true, true, true, true, true, true, false, false, false] rfl rfl (take_ofW HT_.out HW_.out (by kernel_rfl)) (fun _ _ _ h => h) (Or.inl ⟨by rfl, ?_⟩) hHeld ?_ ?_
            rotate_left
            · rintro w' ⟨s0, s1, s2⟩
              go_simp
              with_reducible rfl
            rotate_left
            · simp only [Act.put, List.setIfInBounds_toArray, List.set_cons_zero, List.set_cons_succ, i64_w, i32_w]
              rfl
            refine pure_ (i := 7) (N := some 25) (v := ?_) (a' := ?_) #[true, true, true, true, true, true, true, true, false, false] rfl rfl (any_of HT_.out (by kernel_rfl)) (fun _ _ _ h => h) (Or.inl ⟨by rfl, ?_⟩) ?_ ?_
            rotate_left
            · intro w'
              go_simp
              with_reducible rfl
            rotate_left
            · simp only [Act.put, List.setIfInBounds_toArray, List.set_cons_zero, List.set_cons_succ, i64_w, i32_w]
              rfl
            refine pure_ (i := 8) (N := some 26) (v := ?_) (a' := ?_) #[true, true, true, true, true, true, true, true, true, false] rfl rfl (any_of HT_.out (by kernel_rfl)) (fun _ _ _ h => h) (Or.inl ⟨by rfl, ?_⟩) ?_ ?_
            rotate_left
            · intro w'
              go_simp
              with_reducible rfl
            rotate_left
            · simp only [Act.put, List.setIfInBounds_toArray, List.set_cons_zero, List.set_cons_succ, i64_w, i32_w]
              rfl
            refine last_ (i := 9) (N := none) #[true, true, true, true, true, true, true, true, true, true] rfl rfl (one_of HT_.out (by kernel_rfl)) (by decide) (fun K hK => ?_)
            refine skip_ (w1 := ?_) (by rfl) rfl ?_ ?_
            rotate_left
            · go_simp
              rfl
            refine hK.out _ _ ?_
            clear hK K
            refine done_ (done_of HT_.out (by kernel_rfl)) ?_
            try go_wp2
            first | go_end0 | ((try simp only [Exit.inBlock, Exit.then]); refine bodyPost_ret (results_none rfl _ _ _) rfl ?_)
            exact ⟨by first | rfl | (simp [errW_none, errW_some] <;> rfl) | (simp only [← hji10, ← hji14]; first | rfl | (simp [errW_none, errW_some] <;> rfl)) | (simp [*, errW_none, errW_some] <;> rfl), by (with_reducible repeat (first | apply Kd.R_alloc | apply Kd.R_drewN | apply Kd.R_drew)); exact HQ22.out, by repeat (first | (with_reducible first | exact HB.out | apply below_alloc | apply pw_below_drewN | apply below_drew1 | refine below_set ?_ GB11.out | refine below_set ?_ GE180.out) | exact HB.out), by repeat (first | (with_reducible first | exact HK.out | apply Kept.alloc | apply Kept.drewN | apply Kept.drew | refine Kept.setCell ?_ HMgo11.out _ | refine Kept.setCell ?_ (.inr GW180.out) _) | exact HK.out)⟩
          · rw [if_neg c12] at H
            exact absurd H (by simp)
        · rw [if_neg c9] at H
          exact absurd H (by simp)
      · rw [if_neg c8] at H
        exact absurd H (by simp)
    · rw [if_neg c7] at H
      exact absurd H (by simp)

/-! ### impl.made: by hand (it calls what it is handed) -/
def made_.l1 (is : Int → Int → Option Bool) (n a : Int) : Nat → Int → List Int → Option (List Int)
  | 0, _, _ => none
  | k + 1, b, rows => if b < n then ((is a b).bind fun t => if t = true then ((impl_Graph_put.f n rows a b).bind fun r => made_.l1 is n a k (wrap64 (b + 1)) r) else made_.l1 is n a k (wrap64 (b + 1)) rows) else some rows
def made_.l0 (is : Int → Int → Option Bool) (n : Int) : Nat → Int → List Int → Option (List Int)
  | 0, _, _ => none
  | k + 1, a, rows => if a < n then ((made_.l1 is n a k (wrap64 (a + 1)) rows).bind fun r => made_.l0 is n k (wrap64 (a + 1)) r) else some rows
def made_.f (is : Int → Int → Option Bool) (k : Nat) (n : Int) : Option (Int × List Int) := (impl_empty.f n).bind fun e => (made_.l0 is e.1 k 0 e.2).bind fun r => some (e.1, r)
theorem made_.mono1 (is : Int → Int → Option Bool) (n a : Int) : ∀ k, ∀ y0 y1, LeO (made_.l1 is n a k y0 y1) (made_.l1 is n a (k + 1) y0 y1)
  | 0 => fun _ _ r h => by simp [made_.l1] at h
  | k + 1 => by
    have ih0 := made_.mono1 is n a k
    intro y0 y1
    rw [made_.l1.eq_2, made_.l1.eq_2]
    repeat' first
      | (with_reducible exact ih0 _ _)
      | (with_reducible exact LeO.refl _)
      | (with_reducible refine LeO.ite ?_ ?_)
      | (with_reducible refine LeO.bind ?_ (fun _ => ?_))
      | exact ih0 _ _
      | refine LeO.ite ?_ ?_
      | refine LeO.bind ?_ (fun _ => ?_)
theorem made_.mono0 (is : Int → Int → Option Bool) (n : Int) : ∀ k, ∀ y0 y1, LeO (made_.l0 is n k y0 y1) (made_.l0 is n (k + 1) y0 y1)
  | 0 => fun _ _ r h => by simp [made_.l0] at h
  | k + 1 => by
    have ih0 := made_.mono0 is n k
    intro y0 y1
    rw [made_.l0.eq_2, made_.l0.eq_2]
    repeat' first
      | (with_reducible exact ih0 _ _)
      | (with_reducible exact made_.mono1 is n _ _ _ _)
      | (with_reducible exact LeO.refl _)
      | (with_reducible refine LeO.ite ?_ ?_)
      | (with_reducible refine LeO.bind ?_ (fun _ => ?_))
      | exact ih0 _ _
      | exact made_.mono1 is n _ _ _ _
      | refine LeO.ite ?_ ?_
      | refine LeO.bind ?_ (fun _ => ?_)
theorem made_.mono (is : Int → Int → Option Bool) : ∀ a0 k, LeO (made_.f is k a0) (made_.f is (k + 1) a0) := by
  intro a0 k
  unfold made_.f
  repeat' first
      | (with_reducible exact made_.mono0 is _ _ _ _)
      | (with_reducible exact LeO.refl _)
      | (with_reducible refine LeO.bind ?_ (fun _ => ?_))
      | exact made_.mono0 is _ _ _ _
      | refine LeO.bind ?_ (fun _ => ?_)
set_option maxHeartbeats 8000000 in
set_option maxRecDepth 100000 in
theorem made_.calls (F1 : FuncId) (fn1 : Func) (hf1 : Try.prog.funcs[F1]? = some fn1) (hn1 : (fn1.name == "runtime.NumGoroutine") = false) (hb1 : fn1.body.isSome = true) (is : Int → Int → Option Bool) (k : Nat) (n : Int) (r1 : Int) (r2 : List Int) (b0_ b1_ b2_ : Value) (w : World) (hcall : ∀ (a b : Int) (r : Bool) (W : World), Below w.heap.size w W → is a b = some r → Calls Try.prog F1 #[.int .i64 a, .int .i64 b, b0_, b1_, b2_] W fun e w' => e = .returned (.bool r) ∧ Below W.heap.size W w') (h : made_.f is k n = some (r1, r2)) :
    Calls Try.prog 38 #[.int .i64 n, .func (.func F1) #[] #[b0_, b1_, b2_]] w fun e w' => ∃ v1_ : Value, e = .returned (.agg #[.int .i64 r1, v1_]) ∧ Kd.R (Kd.int .i64) 2 w' w.heap.size (fun _ => True) v1_ r2 ∧ Below w.heap.size w w' := by
  have hu34 := Try.underlying34
  have HB := Aside0.mk (Below.refl w.heap.size w)
  have HC := Aside0.mk hcall
  clear hcall
  unfold made_.f at h
  obtain ⟨⟨t1, t2⟩, A1, h⟩ := Option.bind_eq_some_iff.mp h
  obtain ⟨R, A2, h⟩ := Option.bind_eq_some_iff.mp h
  simp only [Option.some.injEq, Prod.mk.injEq] at h
  obtain ⟨rfl, rfl⟩ := h
  have tn : t1 = n := by
    unfold impl_empty.f at A1
    repeat' (split at A1)
    all_goals first | (cases A1; done) | (simp only [Option.some.injEq, Prod.mk.injEq] at A1; exact A1.1.symm)
  subst tn
  have A3 := Aside0.mk A1
  have H' := Aside0.mk (show made_.l0 is t1 k 0 t2 = some R from A2)
  clear A1 A2
  go_enter Try.func38, Try.ntmps38
  go_wp2_with (first
    | ((with_reducible refine gate_dst (N := 4) rfl ?_); refine box_event ?hg (N := 4) ?hd (cs := #[.int .i64 0, .slice none 0 0]) (t := 34) ?hr ?_; (case hd => rfl); (case hg => rfl); (case hr => first | (go_simp; done) | (go_simp; rfl)); intro g4 hg w4 hbox hb; have n0_ := Aside0.mk (below_step HB.out hb); have B4 := Aside0.mk hbox; have G4 := Aside0.mk (by rw [hg]; exact below_size HB.out : w.heap.size ≤ g4); clear HB; have HB := n0_; clear n0_ hb hbox hg)
    | ((with_reducible refine gate_callee (f := 48) rfl ?_); refine goesL_ (some 9) rfl rfl Try.func48 (by kernel_rfl) rfl #[.int .i64 t1] rfl (by (try simp only [List.map_toArray, List.map_cons, List.map_nil]); first | done | rfl) ?_; (with_reducible refine (impl_empty.calls t1 t1 t2 _ A3.out).mono ?_); rintro e w5 ⟨v5, rfl, ho0, hb⟩; refine ⟨_, rfl, ?_⟩; have n0_ := Aside0.mk (Kd.R_lower ho0 (below_size HB.out)); have n1_ := Aside0.mk (blk_below B4.out hb); have n2_ := Aside0.mk (below_step HB.out hb); clear HB B4 hb ho0; have HX := n0_; have B4 := n1_; have HB := n2_; clear n0_ n1_ n2_)
    | ((with_reducible refine gate_dst (N := 5) rfl ?_); refine box_event ?hg (N := 5) ?hd (cs := #[.int .i64 0, .slice none 0 0]) (t := 34) ?hr ?_; (case hd => rfl); (case hg => rfl); (case hr => first | (go_simp; done) | (go_simp; rfl)); intro g5 hg w6 hbox hb; have n0_ := Aside0.mk (below_step HB.out hb); have n1_ := Aside0.mk (blk_below B4.out hb); have n2_ := Aside0.mk (Kd.R_below HX.out hb); have B5 := Aside0.mk hbox; have G5 := Aside0.mk (by rw [hg]; exact below_size HB.out : w.heap.size ≤ g5); have NB := Aside0.mk (by rw [hg]; exact Nat.ne_of_lt (blk_lt B4.out) : g4 ≠ g5); have NC := Aside0.mk (by rw [hg]; exact Nat.ne_of_gt (blk_lt B4.out) : g5 ≠ g4); clear HB B4 HX; have HB := n0_; have B4 := n1_; have HX := n2_; clear n0_ n1_ n2_ hb hbox hg; have hcz5_0 : w6.cell? ⟨g5, 0, none⟩ = some (.int .i64 0) := (blk_cell B5.out 0).trans rfl; have hcz5_1 : w6.cell? ⟨g5, 1, none⟩ = some (.slice none 0 0) := (blk_cell B5.out 1).trans rfl; have hfz5_0 := blk_frozen B5.out 0; have hfz5_1 := blk_frozen B5.out 1; obtain ⟨A5, c5, e5⟩ := Kd.R_slice HX.out; subst e5))
  go_loopg [11] k (fun kq v11 w' => ∃ (x11_1 : Int) (rows : List Int) (A : Option Addr) (c : Nat), v11 = .int .i64 x11_1 ∧ Aside0 (made_.l0 is t1 kq x11_1 rows = some R) ∧ Aside0 (kq ≤ k) ∧ Aside0 (Kd.R (Kd.int .i64) 2 w' w.heap.size (fun _ => True) (.slice A rows.length c) rows) ∧ Aside0 (w'.heap[g4]? = some (.cells #[.int .i64 0, (.slice none 0 0)] 34 (0, 0))) ∧ Aside0 (w'.heap[g5]? = some (.cells #[.int .i64 t1, .slice A rows.length c] 34 (0, 0))) ∧ Aside0 (Below w.heap.size w w'))
  case atStart => exact ⟨0, t2, A5, c5, rfl, H', ⟨Nat.le_refl _⟩, ⟨Kd.R_mono (Kd.R_far (p := ⟨g5, 1, none⟩) (Kd.R_far (p := ⟨g5, 0, none⟩) (Kd.R_types HX.out B5.out (by decide)) (fun _ hk => hk.2) (.int .i64 t1)) (fun _ hk => hk.2) (.slice A5 t2.length c5)) (fun _ _ => trivial)⟩, ⟨by refine blk_far ?_ NB.out _; refine blk_far ?_ NB.out _; exact B4.out⟩, ⟨by refine blk_put (cs := #[.int .i64 t1, .slice none 0 0]) ?_ 1 _ rfl; refine blk_put (cs := #[.int .i64 0, .slice none 0 0]) ?_ 0 _ rfl; exact B5.out⟩, ⟨below_set (below_set HB.out G5.out) G5.out⟩⟩
  case round =>
    clear H' hcz5_0 hcz5_1 hfz5_0 hfz5_1 B4 B5 HX HB
    obtain ⟨x11_1, rows, A, c, rfl, HA, HK1, HX, B4, B5, HB⟩ := hrel
    cases gk with
    | zero => exact absurd HA.out (by simp [made_.l0])
    | succ k1 =>
      have H := HA.out
      clear HA
      rw [made_.l0.eq_2] at H
      by_cases c10 : x11_1 < t1
      · rw [if_pos c10] at H
        have c10b0 : decide (x11_1 < t1) = true := decide_eq_true c10
        clear c10
        obtain ⟨R1, A10, H⟩ := Option.bind_eq_some_iff.mp H
        have H' := Aside0.mk H
        have I' := Aside0.mk A10
        clear H A10
        go_wp2
        go_loopg [7] k1 (fun kq v7 w' => ∃ (x7_1 : Int) (rows1 : List Int) (A1 : Option Addr) (c1 : Nat), v7 = .int .i64 x7_1 ∧ Aside0 (made_.l1 is t1 x11_1 kq x7_1 rows1 = some R1) ∧ Aside0 (kq ≤ k1) ∧ Aside0 (Kd.R (Kd.int .i64) 2 w' w.heap.size (fun _ => True) (.slice A1 rows1.length c1) rows1) ∧ Aside0 (w'.heap[g4]? = some (.cells #[.int .i64 0, (.slice none 0 0)] 34 (0, 0))) ∧ Aside0 (w'.heap[g5]? = some (.cells #[.int .i64 t1, .slice A1 rows1.length c1] 34 (0, 0))) ∧ Aside0 (Below w.heap.size w w'))
        case atStart => exact ⟨_, rows, A, c, (by first | rfl | (simp; done)), I', ⟨Nat.le_refl _⟩, HX, B4, B5, HB⟩
        case round =>
          clear I' HX B4 B5 HB
          obtain ⟨x7_1, rows1, A1, c1, rfl, HA, HK2, HX, B4, B5, HB⟩ := hrel
          cases gk with
          | zero => exact absurd HA.out (by simp [made_.l1])
          | succ k2 =>
            have H := HA.out
            clear HA
            rw [made_.l1.eq_2] at H
            by_cases c11 : x7_1 < t1
            · rw [if_pos c11] at H
              have c11b0 : decide (x7_1 < t1) = true := decide_eq_true c11
              clear c11
              obtain ⟨t, A11, H⟩ := Option.bind_eq_some_iff.mp H
              have A12 := Aside0.mk A11
              clear A11
              have HD := Aside0.mk (HC.out x11_1 x7_1 t wr HB.out A12.out)
              by_cases ct : t = true
              · subst ct
                rw [if_pos rfl] at H
                obtain ⟨R2, A13, H⟩ := Option.bind_eq_some_iff.mp H
                have I2 := Aside0.mk H
                have A14 := Aside0.mk A13
                clear H A13
                go_wp2_with fail
                rw [enters_ hf1 hn1 hb1]
                refine HD.out.mono ?_
                rintro e w5 ⟨rfl, hb⟩
                have n0_ := Aside0.mk (Kd.R_below HX.out hb)
                have n1_ := Aside0.mk (blk_below B4.out hb)
                have n2_ := Aside0.mk (blk_below B5.out hb)
                have n3_ := Aside0.mk (below_step HB.out hb)
                clear HX B4 B5 HB hb HD
                have HX := n0_
                have B4 := n1_
                have B5 := n2_
                have HB := n3_
                clear n0_ n1_ n2_ n3_
                have hcz5_0 : w5.cell? ⟨g5, 0, none⟩ = some (.int .i64 t1) := (blk_cell B5.out 0).trans rfl
                have hcz5_1 : w5.cell? ⟨g5, 1, none⟩ = some (.slice A1 rows1.length c1) := (blk_cell B5.out 1).trans rfl
                go_wp2_with (first | ((with_reducible refine gate_callee (f := 49) rfl ?_); refine goesL_ (some 28) rfl rfl Try.func49 (by kernel_rfl) rfl #[.agg #[.int .i64 t1, .slice A1 rows1.length c1], .int .i64 x11_1, .int .i64 x7_1] rfl (by (try simp only [List.map_toArray, List.map_cons, List.map_nil]); first | done | rfl) ?_; (with_reducible refine (impl_Graph_put.calls t1 (fun k_ => some k_ = (.slice A1 rows1.length c1 : Value).ownBlock) (.slice A1 rows1.length c1) rows1 x11_1 x7_1 R2 w _ ?side1 ?side2 A14.out).mono ?_); (case side1 => exact HB.out); (case side2 => exact Kd.R_tight rfl HX.out); rintro e w6 ⟨rfl, hy0, hb, hkp⟩; refine ⟨_, rfl, ?_⟩; have n0_ := Aside0.mk (Kd.R_reok (ok := fun _ => True) rfl hy0 (fun _ _ => trivial)); have n1_ := Aside0.mk (blk_kept B4.out hkp (fun hs_ => (Kd.R_ne HX.out B4.out (by decide)) hs_)); have n2_ := Aside0.mk (blk_kept B5.out hkp (fun hs_ => (Kd.R_ne HX.out B5.out (by decide)) hs_)); have n3_ := Aside0.mk hb; clear HX B4 B5 HB hb hkp hy0 hcz5_0 hcz5_1; have HX := n0_; have B4 := n1_; have B5 := n2_; have HB := n3_; clear n0_ n1_ n2_ n3_))
                obtain ⟨Aq, cq, eq_⟩ := Kd.R_slice HX.out
                injection eq_ with eq1 eq2 eq3
                subst eq1 eq3
                go_roundg k2
                case measure => have := HK1.out; have := HK2.out; omega
                case rel => exact ⟨_, R2, _, _, (by first | rfl | (simp; done)), I2, ⟨by have := HK2.out; omega⟩, ⟨by rw [← eq2]; exact HX.out⟩, B4, ⟨by rw [← eq2]; exact B5.out⟩, HB⟩
              · have tf : t = false := Bool.eq_false_iff.mpr ct
                subst tf
                rw [if_neg (by decide)] at H
                have I2 := Aside0.mk H
                clear H ct
                go_wp2_with fail
                rw [enters_ hf1 hn1 hb1]
                refine HD.out.mono ?_
                rintro e w5 ⟨rfl, hb⟩
                have n0_ := Aside0.mk (Kd.R_below HX.out hb)
                have n1_ := Aside0.mk (blk_below B4.out hb)
                have n2_ := Aside0.mk (blk_below B5.out hb)
                have n3_ := Aside0.mk (below_step HB.out hb)
                clear HX B4 B5 HB hb HD
                have HX := n0_
                have B4 := n1_
                have B5 := n2_
                have HB := n3_
                clear n0_ n1_ n2_ n3_
                go_wp2
                go_roundg k2
                case measure => have := HK1.out; have := HK2.out; omega
                case rel => exact ⟨_, rows1, A1, c1, (by first | rfl | (simp; done)), I2, ⟨by have := HK2.out; omega⟩, HX, B4, B5, HB⟩
            · rw [if_neg c11] at H
              have c11b0 : decide (x7_1 < t1) = false := decide_eq_false c11
              clear c11
              obtain rfl := Option.some.inj H
              clear H
              go_wp2
              go_roundg k1
              case measure => have := HK1.out; omega
              case rel => exact ⟨_, rows1, A1, c1, (by first | rfl | (simp; done)), H', ⟨by have := HK1.out; omega⟩, HX, B4, B5, HB⟩
      · rw [if_neg c10] at H
        have c10b0 : decide (x11_1 < t1) = false := decide_eq_false c10
        clear c10
        obtain rfl := Option.some.inj H
        clear H
        have hnb := NB.out
        have hnc := NC.out
        have hcz5_0 : wr.cell? ⟨g5, 0, none⟩ = some (.int .i64 t1) := (blk_cell B5.out 0).trans rfl
        have hcz5_1 : wr.cell? ⟨g5, 1, none⟩ = some (.slice A rows.length c) := (blk_cell B5.out 1).trans rfl
        have hfz5_0 := blk_frozen B5.out 0
        have hfz5_1 := blk_frozen B5.out 1
        have hcz4_0 : wr.cell? ⟨g4, 0, none⟩ = some (.int .i64 0) := (blk_cell B4.out 0).trans rfl
        have hcz4_1 : wr.cell? ⟨g4, 1, none⟩ = some (.slice none 0 0) := (blk_cell B4.out 1).trans rfl
        have hfz4_0 := blk_frozen B4.out 0
        have hfz4_1 := blk_frozen B4.out 1
        go_wp2
        refine bodyPost_ret (results_cell_row rfl _ _ g4 34 #[.int .i64 t1, .slice A rows.length c] (0, 0) _ rfl (by refine blk_put (cs := #[.int .i64 t1, .slice none 0 0]) ?_ 1 _ rfl; refine blk_put (cs := #[.int .i64 0, .slice none 0 0]) ?_ 0 _ rfl; exact B4.out) Try.underlying34 rfl (by kernel_rfl)) rfl ?_
        exact ⟨_, rfl, Kd.R_mono (Kd.R_far (p := ⟨g4, 1, none⟩) (Kd.R_far (p := ⟨g4, 0, none⟩) (Kd.R_types HX.out B4.out (by decide)) (fun _ hk => hk.2) (.int .i64 t1)) (fun _ hk => hk.2) (.slice A rows.length c)) (fun _ _ => trivial), below_set (below_set HB.out G4.out) G4.out⟩
/-! ### impl.TupleGraph: by hand -/
def pl_is (k : Nat) (q : Int) (l : List (List Int)) (a b : Int) : Option Bool := if a < (l.length : Int) then (if (l.length : Int) ≤ b then (if 0 ≤ a then (if b - (l.length : Int) < (l.length : Int) then impl_joined.f k q (rd_L1 l a) (rd_L1 l (b - (l.length : Int))) else none) else none) else some false) else some false
set_option maxHeartbeats 8000000 in
set_option maxRecDepth 100000 in
theorem pl_calls (k : Nat) (q : Int) (l : List (List Int)) (gn gq gl : Nat) (A : Option Addr) (c : Nat) (a b : Int) (r : Bool) (W : World) (hm : l.length ≤ 5000) (hn : W.heap[gn]? = some (.cells #[.int .i64 (l.length : Int)] 2 (0, 0))) (hq : W.heap[gq]? = some (.cells #[.int .i64 q] 2 (0, 0))) (hl : W.heap[gl]? = some (.cells #[.slice A l.length c] 28 (0, 0))) (hC : Kd.C (Kd.slice 2 (Kd.int .i64)) W A l.length l) (h : pl_is k q l a b = some r) :
    Calls Try.prog 39 #[.int .i64 a, .int .i64 b, .pointer (some ⟨gn, 0, none⟩), .pointer (some ⟨gq, 0, none⟩), .pointer (some ⟨gl, 0, none⟩)] W fun e w' => e = .returned (.bool r) ∧ Below W.heap.size W w' := by
  have hcn : W.cell? ⟨gn, 0, none⟩ = some (.int .i64 (l.length : Int)) := (blk_cell hn 0).trans rfl
  unfold pl_is at h
  by_cases c1 : a < (l.length : Int)
  case neg =>
    rw [if_neg c1] at h
    obtain rfl := Option.some.inj h
    have d1 : decide (a < (l.length : Int)) = false := decide_eq_false c1
    clear h c1 hn hq hl hC
    go_enter Try.func39, Try.ntmps39
    go_wp2
    go_quiet (fail)
    go_wp2
    go_ret
    exact ⟨rfl, pw_below_drewN (Below.refl _ _) _⟩
  rw [if_pos c1] at h
  have d1 : decide (a < (l.length : Int)) = true := decide_eq_true c1
  by_cases c2 : (l.length : Int) ≤ b
  case neg =>
    rw [if_neg c2] at h
    obtain rfl := Option.some.inj h
    have d2 : decide ((l.length : Int) ≤ b) = false := decide_eq_false c2
    clear h c1 c2 hn hq hl hC
    go_enter Try.func39, Try.ntmps39
    go_wp2
    go_quiet (fail)
    go_wp2
    go_ret
    exact ⟨rfl, pw_below_drewN (Below.refl _ _) _⟩
  rw [if_pos c2] at h
  have d2 : decide ((l.length : Int) ≤ b) = true := decide_eq_true c2
  split at h
  case isFalse => cases h
  rename_i p0
  split at h
  case isFalse => cases h
  rename_i p3
  obtain ⟨ad1, A1, c1_, e1, hx1, hl1, hi1⟩ := at_L1 hC a p0 c1
  cases e1
  have p2 : 0 ≤ b - (l.length : Int) := by omega
  obtain ⟨ad2, A2, c2_, e2, hx2, hl2, hi2⟩ := at_L1 hC (b - (l.length : Int)) p2 p3
  cases e2
  have hcq : W.cell? ⟨gq, 0, none⟩ = some (.int .i64 q) := (blk_cell hq 0).trans rfl
  have hcl : W.cell? ⟨gl, 0, none⟩ = some (.slice (some ad1) l.length c) := (blk_cell hl 0).trans rfl
  obtain ⟨j, hj⟩ : ∃ j, j = b - (l.length : Int) := ⟨_, rfl⟩
  rw [← hj] at h hx2 hl2 hi2 p2 p3
  have ew : IntKind.i64.wrap (b - (l.length : Int)) = j := by rw [IntKind.wrap_i64]; omega
  have ew2 : wrap64 (b - (l.length : Int)) = j := by unfold wrap64; omega
  have H1 := Aside0.mk h
  have L1 := Aside0.mk hl1
  have L2 := Aside0.mk hl2
  have I1 := Aside0.mk hi1
  have I2 := Aside0.mk hi2
  have p1 : a < (l.length : Int) := c1
  clear h hl1 hl2 hi1 hi2 hq hl hC hn c1 c2 hj hm
  replace p0 := eq_true p0
  replace p1 := eq_true p1
  replace p2 := eq_true p2
  replace p3 := eq_true p3
  go_enter Try.func39, Try.ntmps39
  go_wp2
  go_still_tail 20, (by kernel_rfl)
  change wpList _ _ _ _ _ W.drew
  go_wp2_with (go_at_call 40; refine (impl_joined.calls k q A1 c1_ _ A2 c2_ _ r _ (Kd.C_drew I1.out) L1.out (Kd.C_drew I2.out) L2.out H1.out).mono ?_; rintro e w' ⟨rfl, hb⟩)
  go_ret
  exact ⟨rfl, below_step (below_drew1 (Below.refl _ _)) hb⟩
def impl_TupleGraph.f (k : Nat) (a0 : Int) (a1 : Int) : Option (Int × List Int × Int) := if a0 < 2 then some (0, [], 2) else if a0 > 4 then some (0, [], 2) else (impl_isPrime.f a1).bind fun t => if t = true then ((impl_tuples.f k a0 a1).bind fun l => if l.length ≤ 5000 then (if 2 * (l.length : Int) > 62 then some (0, [], 3) else (made_.f (pl_is k a1 l) k (2 * (l.length : Int))).bind fun t => some (t.1, t.2, 0)) else none) else some (0, [], 2)
theorem pl_is.mono (q : Int) (l : List (List Int)) (a b : Int) (k : Nat) : LeO (pl_is k q l a b) (pl_is (k + 1) q l a b) := by
  unfold pl_is
  refine LeO.ite ?_ (LeO.refl _)
  refine LeO.ite ?_ (LeO.refl _)
  refine LeO.ite ?_ (LeO.refl _)
  refine LeO.ite ?_ (LeO.refl _)
  exact impl_joined.mono _ _ _ _
theorem made_.mono1_ {is is' : Int → Int → Option Bool} (hi : ∀ a b, LeO (is a b) (is' a b)) (n a : Int) : ∀ k, ∀ y0 y1, LeO (made_.l1 is n a k y0 y1) (made_.l1 is' n a k y0 y1)
  | 0 => fun _ _ r h => by simp [made_.l1] at h
  | k + 1 => by
    intro y0 y1
    rw [made_.l1.eq_2, made_.l1.eq_2]
    refine LeO.ite ?_ (LeO.refl _)
    refine LeO.bind (hi _ _) (fun _ => ?_)
    refine LeO.ite ?_ (made_.mono1_ hi n a k _ _)
    exact LeO.bind (LeO.refl _) (fun _ => made_.mono1_ hi n a k _ _)
theorem made_.mono0_ {is is' : Int → Int → Option Bool} (hi : ∀ a b, LeO (is a b) (is' a b)) (n : Int) : ∀ k, ∀ y0 y1, LeO (made_.l0 is n k y0 y1) (made_.l0 is' n k y0 y1)
  | 0 => fun _ _ r h => by simp [made_.l0] at h
  | k + 1 => by
    intro y0 y1
    rw [made_.l0.eq_2, made_.l0.eq_2]
    refine LeO.ite ?_ (LeO.refl _)
    exact LeO.bind (made_.mono1_ hi n _ k _ _) (fun _ => made_.mono0_ hi n k _ _)
theorem made_.mono_ {is is' : Int → Int → Option Bool} (hi : ∀ a b, LeO (is a b) (is' a b)) (a0 : Int) (k : Nat) : LeO (made_.f is k a0) (made_.f is' k a0) := by
  unfold made_.f
  exact LeO.bind (LeO.refl _) (fun _ => LeO.bind (made_.mono0_ hi _ k _ _) (fun _ => LeO.refl _))
theorem impl_TupleGraph.mono : ∀ a0 a1 k, LeO (impl_TupleGraph.f k a0 a1) (impl_TupleGraph.f (k + 1) a0 a1) := by
  intro a0 a1 k
  unfold impl_TupleGraph.f
  refine LeO.ite (LeO.refl _) ?_
  refine LeO.ite (LeO.refl _) ?_
  refine LeO.bind (LeO.refl _) (fun t => ?_)
  refine LeO.ite ?_ (LeO.refl _)
  refine LeO.bind (impl_tuples.mono _ _ _) (fun _ => ?_)
  refine LeO.ite ?_ (LeO.refl _)
  refine LeO.ite (LeO.refl _) ?_
  exact LeO.bind (fun r h => made_.mono_ (fun a b => pl_is.mono _ _ a b k) _ _ r (made_.mono _ _ _ r h)) (fun _ => LeO.refl _)
set_option maxHeartbeats 8000000 in
set_option maxRecDepth 100000 in
theorem impl_TupleGraph.calls (k : Nat) (a0 : Int) (a1 : Int) (r1 : Int) (r2 : List Int) (r3 : Int) (w : World) (h : impl_TupleGraph.f k a0 a1 = some (r1, r2, r3)) :
    Calls Try.prog 19 #[.int .i64 a0, .int .i64 a1] w fun e w' => ∃ v1_ : Value, e = .returned (.tuple #[.agg #[.int .i64 r1, v1_], .int .i64 r3]) ∧ Kd.R (Kd.int .i64) 2 w' w.heap.size (fun _ => True) v1_ r2 ∧ Below w.heap.size w w' := by
  have hu34 := Try.underlying34
  have HB := Aside0.mk (Below.refl w.heap.size w)
  unfold impl_TupleGraph.f at h
  by_cases c0 : a0 < 2
  · rw [if_pos c0] at h
    have d_c0 : decide (a0 < 2) = true := decide_eq_true c0
    clear c0
    simp only [Option.some.injEq, Prod.mk.injEq] at h
    obtain ⟨rfl, rfl, rfl⟩ := h
    go_enter Try.func19, Try.ntmps19
    go_wp2_with (first | ((with_reducible refine gate_dst (N := 3) rfl ?_); refine box_event ?hg (N := 3) ?hd (cs := #[.int .i64 a1]) (t := 2) ?hr ?_; (case hd => rfl); (case hg => rfl); (case hr => first | (go_simp; done) | (go_simp; rfl)); intro g3 hg w1 hbox hb; have n0_ := Aside0.mk (hbox); have n1_ := Aside0.mk ((by rw [hg]; exact below_size HB.out : w.heap.size ≤ g3)); have n2_ := Aside0.mk (below_step HB.out hb); clear HB; have B3 := n0_; have G3 := n1_; have HB := n2_; clear n0_ n1_ n2_; clear hb hbox hg; have hcz3_0 : w1.cell? ⟨g3, 0, none⟩ = some (.int .i64 a1) := (blk_cell B3.out 0).trans rfl; have hfz3_0 := blk_frozen B3.out 0) | ((with_reducible refine gate_dst (N := 4) rfl ?_); refine box_event ?hg (N := 4) ?hd (cs := #[.int .i64 0, .slice none 0 0]) (t := 34) ?hr ?_; (case hd => rfl); (case hg => rfl); (case hr => first | (go_simp; done) | (go_simp; rfl)); intro g4 hg w2 hbox hb; clear hcz3_0 hfz3_0; have n0_ := Aside0.mk (hbox); have n1_ := Aside0.mk ((by rw [hg]; exact below_size HB.out : w.heap.size ≤ g4)); have n2_ := Aside0.mk ((by rw [hg]; exact Nat.ne_of_lt (blk_lt B3.out) : g3 ≠ g4)); have n3_ := Aside0.mk (below_step HB.out hb); have n4_ := Aside0.mk (blk_below B3.out hb); clear HB B3; have B4 := n0_; have G4 := n1_; have N3_4 := n2_; have HB := n3_; have B3 := n4_; clear n0_ n1_ n2_ n3_ n4_; clear hb hbox hg; have hcz3_0 : w2.cell? ⟨g3, 0, none⟩ = some (.int .i64 a1) := (blk_cell B3.out 0).trans rfl; have hfz3_0 := blk_frozen B3.out 0; have hcz4_0 : w2.cell? ⟨g4, 0, none⟩ = some (.int .i64 0) := (blk_cell B4.out 0).trans rfl; have hfz4_0 := blk_frozen B4.out 0; have hcz4_1 : w2.cell? ⟨g4, 1, none⟩ = some (.slice none 0 0) := (blk_cell B4.out 1).trans rfl; have hfz4_1 := blk_frozen B4.out 1))
    refine bodyPost_ret (results_ct rfl _ _ g4 34 #[.int .i64 0, .slice none 0 0] (0, 0) _ rfl (by refine blk_put (cs := #[.int .i64 0, .slice none 0 0]) ?_ 1 _ rfl; refine blk_put (cs := #[.int .i64 0, .slice none 0 0]) ?_ 0 _ rfl; exact B4.out) Try.underlying34 rfl (by kernel_rfl)) rfl ?_
    exact ⟨_, rfl, Kd.R_nil _ _ _ _ _, below_set (below_set HB.out G4.out) G4.out⟩
  rw [if_neg c0] at h
  have d_c0 : decide (a0 < 2) = false := decide_eq_false c0
  clear c0
  by_cases c9 : a0 > 4
  · rw [if_pos c9] at h
    have d_c9 : decide (4 < a0) = true := decide_eq_true c9
    clear c9
    simp only [Option.some.injEq, Prod.mk.injEq] at h
    obtain ⟨rfl, rfl, rfl⟩ := h
    go_enter Try.func19, Try.ntmps19
    go_wp2_with (first | ((with_reducible refine gate_dst (N := 3) rfl ?_); refine box_event ?hg (N := 3) ?hd (cs := #[.int .i64 a1]) (t := 2) ?hr ?_; (case hd => rfl); (case hg => rfl); (case hr => first | (go_simp; done) | (go_simp; rfl)); intro g3 hg w1 hbox hb; have n0_ := Aside0.mk (hbox); have n1_ := Aside0.mk ((by rw [hg]; exact below_size HB.out : w.heap.size ≤ g3)); have n2_ := Aside0.mk (below_step HB.out hb); clear HB; have B3 := n0_; have G3 := n1_; have HB := n2_; clear n0_ n1_ n2_; clear hb hbox hg; have hcz3_0 : w1.cell? ⟨g3, 0, none⟩ = some (.int .i64 a1) := (blk_cell B3.out 0).trans rfl; have hfz3_0 := blk_frozen B3.out 0) | ((with_reducible refine gate_dst (N := 4) rfl ?_); refine box_event ?hg (N := 4) ?hd (cs := #[.int .i64 0, .slice none 0 0]) (t := 34) ?hr ?_; (case hd => rfl); (case hg => rfl); (case hr => first | (go_simp; done) | (go_simp; rfl)); intro g4 hg w2 hbox hb; clear hcz3_0 hfz3_0; have n0_ := Aside0.mk (hbox); have n1_ := Aside0.mk ((by rw [hg]; exact below_size HB.out : w.heap.size ≤ g4)); have n2_ := Aside0.mk ((by rw [hg]; exact Nat.ne_of_lt (blk_lt B3.out) : g3 ≠ g4)); have n3_ := Aside0.mk (below_step HB.out hb); have n4_ := Aside0.mk (blk_below B3.out hb); clear HB B3; have B4 := n0_; have G4 := n1_; have N3_4 := n2_; have HB := n3_; have B3 := n4_; clear n0_ n1_ n2_ n3_ n4_; clear hb hbox hg; have hcz3_0 : w2.cell? ⟨g3, 0, none⟩ = some (.int .i64 a1) := (blk_cell B3.out 0).trans rfl; have hfz3_0 := blk_frozen B3.out 0; have hcz4_0 : w2.cell? ⟨g4, 0, none⟩ = some (.int .i64 0) := (blk_cell B4.out 0).trans rfl; have hfz4_0 := blk_frozen B4.out 0; have hcz4_1 : w2.cell? ⟨g4, 1, none⟩ = some (.slice none 0 0) := (blk_cell B4.out 1).trans rfl; have hfz4_1 := blk_frozen B4.out 1))
    refine bodyPost_ret (results_ct rfl _ _ g4 34 #[.int .i64 0, .slice none 0 0] (0, 0) _ rfl (by refine blk_put (cs := #[.int .i64 0, .slice none 0 0]) ?_ 1 _ rfl; refine blk_put (cs := #[.int .i64 0, .slice none 0 0]) ?_ 0 _ rfl; exact B4.out) Try.underlying34 rfl (by kernel_rfl)) rfl ?_
    exact ⟨_, rfl, Kd.R_nil _ _ _ _ _, below_set (below_set HB.out G4.out) G4.out⟩
  rw [if_neg c9] at h
  have d_c9 : decide (4 < a0) = false := decide_eq_false c9
  clear c9
  obtain ⟨pr, P0, h⟩ := Option.bind_eq_some_iff.mp h
  have HP := Aside0.mk P0
  clear P0
  cases pr with
  | false =>
    rw [if_neg (by decide)] at h
    simp only [Option.some.injEq, Prod.mk.injEq] at h
    obtain ⟨rfl, rfl, rfl⟩ := h
    go_enter Try.func19, Try.ntmps19
    go_wp2_with (first | ((with_reducible refine gate_dst (N := 3) rfl ?_); refine box_event ?hg (N := 3) ?hd (cs := #[.int .i64 a1]) (t := 2) ?hr ?_; (case hd => rfl); (case hg => rfl); (case hr => first | (go_simp; done) | (go_simp; rfl)); intro g3 hg w1 hbox hb; have n0_ := Aside0.mk (hbox); have n1_ := Aside0.mk ((by rw [hg]; exact below_size HB.out : w.heap.size ≤ g3)); have n2_ := Aside0.mk (below_step HB.out hb); clear HB; have B3 := n0_; have G3 := n1_; have HB := n2_; clear n0_ n1_ n2_; clear hb hbox hg; have hcz3_0 : w1.cell? ⟨g3, 0, none⟩ = some (.int .i64 a1) := (blk_cell B3.out 0).trans rfl; have hfz3_0 := blk_frozen B3.out 0) | ((with_reducible refine gate_dst (N := 4) rfl ?_); refine box_event ?hg (N := 4) ?hd (cs := #[.int .i64 0, .slice none 0 0]) (t := 34) ?hr ?_; (case hd => rfl); (case hg => rfl); (case hr => first | (go_simp; done) | (go_simp; rfl)); intro g4 hg w2 hbox hb; clear hcz3_0 hfz3_0; have n0_ := Aside0.mk (hbox); have n1_ := Aside0.mk ((by rw [hg]; exact below_size HB.out : w.heap.size ≤ g4)); have n2_ := Aside0.mk ((by rw [hg]; exact Nat.ne_of_lt (blk_lt B3.out) : g3 ≠ g4)); have n3_ := Aside0.mk (below_step HB.out hb); have n4_ := Aside0.mk (blk_below B3.out hb); clear HB B3; have B4 := n0_; have G4 := n1_; have N3_4 := n2_; have HB := n3_; have B3 := n4_; clear n0_ n1_ n2_ n3_ n4_; clear hb hbox hg; have hcz3_0 : w2.cell? ⟨g3, 0, none⟩ = some (.int .i64 a1) := (blk_cell B3.out 0).trans rfl; have hfz3_0 := blk_frozen B3.out 0; have hcz4_0 : w2.cell? ⟨g4, 0, none⟩ = some (.int .i64 0) := (blk_cell B4.out 0).trans rfl; have hfz4_0 := blk_frozen B4.out 0; have hcz4_1 : w2.cell? ⟨g4, 1, none⟩ = some (.slice none 0 0) := (blk_cell B4.out 1).trans rfl; have hfz4_1 := blk_frozen B4.out 1) | (go_at_call 30; (refine (impl_isPrime.calls a1 false _ HP.out).mono ?_); rintro e w3 ⟨rfl, hd⟩; clear hcz3_0 hfz3_0 hcz4_0 hfz4_0 hcz4_1 hfz4_1; have hb := hd.below; clear hd; have n0_ := Aside0.mk (below_step HB.out hb); have n1_ := Aside0.mk (blk_below B3.out hb); have n2_ := Aside0.mk (blk_below B4.out hb); clear HB B3 B4; have HB := n0_; have B3 := n1_; have B4 := n2_; clear n0_ n1_ n2_; clear hb; have hcz3_0 : w3.cell? ⟨g3, 0, none⟩ = some (.int .i64 a1) := (blk_cell B3.out 0).trans rfl; have hfz3_0 := blk_frozen B3.out 0; have hcz4_0 : w3.cell? ⟨g4, 0, none⟩ = some (.int .i64 0) := (blk_cell B4.out 0).trans rfl; have hfz4_0 := blk_frozen B4.out 0; have hcz4_1 : w3.cell? ⟨g4, 1, none⟩ = some (.slice none 0 0) := (blk_cell B4.out 1).trans rfl; have hfz4_1 := blk_frozen B4.out 1))
    refine bodyPost_ret (results_ct rfl _ _ g4 34 #[.int .i64 0, .slice none 0 0] (0, 0) _ rfl (by refine blk_put (cs := #[.int .i64 0, .slice none 0 0]) ?_ 1 _ rfl; refine blk_put (cs := #[.int .i64 0, .slice none 0 0]) ?_ 0 _ rfl; exact B4.out) Try.underlying34 rfl (by kernel_rfl)) rfl ?_
    exact ⟨_, rfl, Kd.R_nil _ _ _ _ _, below_set (below_set HB.out G4.out) G4.out⟩
  | true =>
    rw [if_pos rfl] at h
    obtain ⟨l, A1, h⟩ := Option.bind_eq_some_iff.mp h
    have H1 := Aside0.mk A1
    clear A1
    split at h
    case isFalse => cases h
    rename_i hm
    have HM := Aside0.mk hm
    have m0 : (0 : Int) ≤ (l.length : Int) := by omega
    have m1 : (l.length : Int) ≤ 5000 := by omega
    clear hm
    by_cases c5 : 2 * (l.length : Int) > 62
    · rw [if_pos c5] at h
      have d5 : decide (62 < 2 * (l.length : Int)) = true := decide_eq_true c5
      clear c5
      simp only [Option.some.injEq, Prod.mk.injEq] at h
      obtain ⟨rfl, rfl, rfl⟩ := h
      go_enter Try.func19, Try.ntmps19
      go_wp2_with (first | ((with_reducible refine gate_dst (N := 3) rfl ?_); refine box_event ?hg (N := 3) ?hd (cs := #[.int .i64 a1]) (t := 2) ?hr ?_; (case hd => rfl); (case hg => rfl); (case hr => first | (go_simp; done) | (go_simp; rfl)); intro g3 hg w1 hbox hb; have n0_ := Aside0.mk (hbox); have n1_ := Aside0.mk ((by rw [hg]; exact below_size HB.out : w.heap.size ≤ g3)); have n2_ := Aside0.mk (below_step HB.out hb); clear HB; have B3 := n0_; have G3 := n1_; have HB := n2_; clear n0_ n1_ n2_; clear hb hbox hg; have hcz3_0 : w1.cell? ⟨g3, 0, none⟩ = some (.int .i64 a1) := (blk_cell B3.out 0).trans rfl; have hfz3_0 := blk_frozen B3.out 0) | ((with_reducible refine gate_dst (N := 4) rfl ?_); refine box_event ?hg (N := 4) ?hd (cs := #[.int .i64 0, .slice none 0 0]) (t := 34) ?hr ?_; (case hd => rfl); (case hg => rfl); (case hr => first | (go_simp; done) | (go_simp; rfl)); intro g4 hg w2 hbox hb; clear hcz3_0 hfz3_0; have n0_ := Aside0.mk (hbox); have n1_ := Aside0.mk ((by rw [hg]; exact below_size HB.out : w.heap.size ≤ g4)); have n2_ := Aside0.mk ((by rw [hg]; exact Nat.ne_of_lt (blk_lt B3.out) : g3 ≠ g4)); have n3_ := Aside0.mk (below_step HB.out hb); have n4_ := Aside0.mk (blk_below B3.out hb); clear HB B3; have B4 := n0_; have G4 := n1_; have N3_4 := n2_; have HB := n3_; have B3 := n4_; clear n0_ n1_ n2_ n3_ n4_; clear hb hbox hg; have hcz3_0 : w2.cell? ⟨g3, 0, none⟩ = some (.int .i64 a1) := (blk_cell B3.out 0).trans rfl; have hfz3_0 := blk_frozen B3.out 0; have hcz4_0 : w2.cell? ⟨g4, 0, none⟩ = some (.int .i64 0) := (blk_cell B4.out 0).trans rfl; have hfz4_0 := blk_frozen B4.out 0; have hcz4_1 : w2.cell? ⟨g4, 1, none⟩ = some (.slice none 0 0) := (blk_cell B4.out 1).trans rfl; have hfz4_1 := blk_frozen B4.out 1) | (go_at_call 30; (refine (impl_isPrime.calls a1 true _ HP.out).mono ?_); rintro e w3 ⟨rfl, hd⟩; clear hcz3_0 hfz3_0 hcz4_0 hfz4_0 hcz4_1 hfz4_1; have hb := hd.below; clear hd; have n0_ := Aside0.mk (below_step HB.out hb); have n1_ := Aside0.mk (blk_below B3.out hb); have n2_ := Aside0.mk (blk_below B4.out hb); clear HB B3 B4; have HB := n0_; have B3 := n1_; have B4 := n2_; clear n0_ n1_ n2_; clear hb; have hcz3_0 : w3.cell? ⟨g3, 0, none⟩ = some (.int .i64 a1) := (blk_cell B3.out 0).trans rfl; have hfz3_0 := blk_frozen B3.out 0; have hcz4_0 : w3.cell? ⟨g4, 0, none⟩ = some (.int .i64 0) := (blk_cell B4.out 0).trans rfl; have hfz4_0 := blk_frozen B4.out 0; have hcz4_1 : w3.cell? ⟨g4, 1, none⟩ = some (.slice none 0 0) := (blk_cell B4.out 1).trans rfl; have hfz4_1 := blk_frozen B4.out 1) | ((with_reducible refine gate_callee (f := 37) rfl ?_); refine goesL_ (some 22) rfl rfl Try.func37 (by kernel_rfl) rfl #[.int .i64 a0, .int .i64 a1] rfl (by (try simp only [List.map_toArray, List.map_cons, List.map_nil]); first | done | rfl) ?_; (refine (impl_tuples.calls k a0 a1 l _ H1.out).mono ?_); rintro e w4 ⟨v4, rfl, hN, hb⟩; refine ⟨_, rfl, ?_⟩; clear hcz3_0 hfz3_0 hcz4_0 hfz4_0 hcz4_1 hfz4_1; have HN := Aside0.mk (Kd.N_lower hN (below_size HB.out)); clear hN; have n0_ := Aside0.mk (below_step HB.out hb); have n1_ := Aside0.mk (blk_below B3.out hb); have n2_ := Aside0.mk (blk_below B4.out hb); clear HB B3 B4; have HB := n0_; have B3 := n1_; have B4 := n2_; clear n0_ n1_ n2_; clear hb; obtain ⟨A, c, e_⟩ := Kd.N_slice HN.out; subst e_; have hcz3_0 : w4.cell? ⟨g3, 0, none⟩ = some (.int .i64 a1) := (blk_cell B3.out 0).trans rfl; have hfz3_0 := blk_frozen B3.out 0; have hcz4_0 : w4.cell? ⟨g4, 0, none⟩ = some (.int .i64 0) := (blk_cell B4.out 0).trans rfl; have hfz4_0 := blk_frozen B4.out 0; have hcz4_1 : w4.cell? ⟨g4, 1, none⟩ = some (.slice none 0 0) := (blk_cell B4.out 1).trans rfl; have hfz4_1 := blk_frozen B4.out 1) | ((with_reducible refine gate_dst (N := 6) rfl ?_); refine box_event ?hg (N := 6) ?hd (cs := #[.slice none 0 0]) (t := 28) ?hr ?_; (case hd => rfl); (case hg => rfl); (case hr => first | (go_simp; done) | (go_simp; rfl)); intro g6 hg w5 hbox hb; clear hcz3_0 hfz3_0 hcz4_0 hfz4_0 hcz4_1 hfz4_1; have n0_ := Aside0.mk (hbox); have n1_ := Aside0.mk ((by rw [hg]; exact below_size HB.out : w.heap.size ≤ g6)); have n2_ := Aside0.mk ((by rw [hg]; exact Nat.ne_of_lt (blk_lt B3.out) : g3 ≠ g6)); have n3_ := Aside0.mk ((by rw [hg]; exact Nat.ne_of_lt (blk_lt B4.out) : g4 ≠ g6)); have n4_ := Aside0.mk ((by rw [hg]; exact Nat.le_refl _ : w4.heap.size ≤ g6)); have n5_ := Aside0.mk (below_step HB.out hb); have n6_ := Aside0.mk (blk_below B3.out hb); have n7_ := Aside0.mk (blk_below B4.out hb); have n8_ := Aside0.mk (Kd.N_mono (ok' := fun k => k ≠ g6) (Kd.N_old HN.out hb) (fun k hk => by have h_ := hk.2; rw [hg]; exact Nat.ne_of_lt h_)); clear HB B3 B4 HN; have B6 := n0_; have G6 := n1_; have N3_6 := n2_; have N4_6 := n3_; have L6 := n4_; have HB := n5_; have B3 := n6_; have B4 := n7_; have HN := n8_; clear n0_ n1_ n2_ n3_ n4_ n5_ n6_ n7_ n8_; clear hb hbox hg; have hcz3_0 : w5.cell? ⟨g3, 0, none⟩ = some (.int .i64 a1) := (blk_cell B3.out 0).trans rfl; have hfz3_0 := blk_frozen B3.out 0; have hcz4_0 : w5.cell? ⟨g4, 0, none⟩ = some (.int .i64 0) := (blk_cell B4.out 0).trans rfl; have hfz4_0 := blk_frozen B4.out 0; have hcz4_1 : w5.cell? ⟨g4, 1, none⟩ = some (.slice none 0 0) := (blk_cell B4.out 1).trans rfl; have hfz4_1 := blk_frozen B4.out 1; have hcz6_0 : w5.cell? ⟨g6, 0, none⟩ = some (.slice none 0 0) := (blk_cell B6.out 0).trans rfl; have hfz6_0 := blk_frozen B6.out 0) | ((with_reducible refine gate_store (t := 28) (p := 6) rfl ?_); refine store_event (t := 28) (p := 6) (v := .tmp 22) (w1 := (w5.setCell ⟨g6, 0, none⟩ (.slice A l.length c))) rfl rfl rfl ?hr ?_; (case hr => first | (go_simp; done) | (go_simp; rfl)); intro w6 hw; clear hcz3_0 hfz3_0 hcz4_0 hfz4_0 hcz4_1 hfz4_1 hcz6_0 hfz6_0; have n0_ := Aside0.mk ((by rw [hw]; exact below_set HB.out G6.out : Below w.heap.size w w6)); have n1_ := Aside0.mk ((by rw [hw]; exact blk_far B3.out N3_6.out _ : w6.heap[g3]? = some (.cells #[.int .i64 a1] 2 (0, 0)))); have n2_ := Aside0.mk ((by rw [hw]; exact blk_far B4.out N4_6.out _ : w6.heap[g4]? = some (.cells #[.int .i64 0, .slice none 0 0] 34 (0, 0)))); have n3_ := Aside0.mk ((by rw [hw]; exact blk_put (cs := #[.slice none 0 0]) B6.out 0 _ rfl : w6.heap[g6]? = some (.cells #[.slice A l.length c] 28 (0, 0)))); have n4_ := Aside0.mk ((by rw [hw]; exact Kd.N_far HN.out (fun k hk => hk) _ : Kd.N (Kd.slice 2 (Kd.int .i64)) 22 w6 w.heap.size _ (.slice A l.length c) l)); clear HB B3 B4 B6 HN; have HB := n0_; have B3 := n1_; have B4 := n2_; have B6 := n3_; have HN := n4_; clear n0_ n1_ n2_ n3_ n4_; clear hw; have hcz3_0 : w6.cell? ⟨g3, 0, none⟩ = some (.int .i64 a1) := (blk_cell B3.out 0).trans rfl; have hfz3_0 := blk_frozen B3.out 0; have hcz4_0 : w6.cell? ⟨g4, 0, none⟩ = some (.int .i64 0) := (blk_cell B4.out 0).trans rfl; have hfz4_0 := blk_frozen B4.out 0; have hcz4_1 : w6.cell? ⟨g4, 1, none⟩ = some (.slice none 0 0) := (blk_cell B4.out 1).trans rfl; have hfz4_1 := blk_frozen B4.out 1; have hcz6_0 : w6.cell? ⟨g6, 0, none⟩ = some (.slice A l.length c) := (blk_cell B6.out 0).trans rfl; have hfz6_0 := blk_frozen B6.out 0) | ((with_reducible refine gate_dst (N := 7) rfl ?_); refine box_event ?hg (N := 7) ?hd (cs := #[.int .i64 0]) (t := 2) ?hr ?_; (case hd => rfl); (case hg => rfl); (case hr => first | (go_simp; done) | (go_simp; rfl)); intro g7 hg w7 hbox hb; clear hcz3_0 hfz3_0 hcz4_0 hfz4_0 hcz4_1 hfz4_1 hcz6_0 hfz6_0; have n0_ := Aside0.mk (hbox); have n1_ := Aside0.mk ((by rw [hg]; exact below_size HB.out : w.heap.size ≤ g7)); have n2_ := Aside0.mk ((by rw [hg]; exact Nat.ne_of_lt (blk_lt B3.out) : g3 ≠ g7)); have n3_ := Aside0.mk ((by rw [hg]; exact Nat.ne_of_lt (blk_lt B4.out) : g4 ≠ g7)); have n4_ := Aside0.mk ((by rw [hg]; exact Nat.ne_of_lt (blk_lt B6.out) : g6 ≠ g7)); have n5_ := Aside0.mk ((by rw [hg]; exact Nat.le_refl _ : w6.heap.size ≤ g7)); have n6_ := Aside0.mk (below_step HB.out hb); have n7_ := Aside0.mk (blk_below B3.out hb); have n8_ := Aside0.mk (blk_below B4.out hb); have n9_ := Aside0.mk (blk_below B6.out hb); have n10_ := Aside0.mk (Kd.N_mono (ok' := fun k => k ≠ g7) (Kd.N_old HN.out hb) (fun k hk => by have h_ := hk.2; rw [hg]; exact Nat.ne_of_lt h_)); clear HB B3 B4 B6 HN; have B7 := n0_; have G7 := n1_; have N3_7 := n2_; have N4_7 := n3_; have N6_7 := n4_; have L7 := n5_; have HB := n6_; have B3 := n7_; have B4 := n8_; have B6 := n9_; have HN := n10_; clear n0_ n1_ n2_ n3_ n4_ n5_ n6_ n7_ n8_ n9_ n10_; clear hb hbox hg; have hcz3_0 : w7.cell? ⟨g3, 0, none⟩ = some (.int .i64 a1) := (blk_cell B3.out 0).trans rfl; have hfz3_0 := blk_frozen B3.out 0; have hcz4_0 : w7.cell? ⟨g4, 0, none⟩ = some (.int .i64 0) := (blk_cell B4.out 0).trans rfl; have hfz4_0 := blk_frozen B4.out 0; have hcz4_1 : w7.cell? ⟨g4, 1, none⟩ = some (.slice none 0 0) := (blk_cell B4.out 1).trans rfl; have hfz4_1 := blk_frozen B4.out 1; have hcz6_0 : w7.cell? ⟨g6, 0, none⟩ = some (.slice A l.length c) := (blk_cell B6.out 0).trans rfl; have hfz6_0 := blk_frozen B6.out 0; have hcz7_0 : w7.cell? ⟨g7, 0, none⟩ = some (.int .i64 0) := (blk_cell B7.out 0).trans rfl; have hfz7_0 := blk_frozen B7.out 0) | ((with_reducible refine gate_store (t := 2) (p := 7) rfl ?_); refine store_event (t := 2) (p := 7) (v := .tmp 24) (w1 := (w7.setCell ⟨g7, 0, none⟩ (.int .i64 (l.length : Int)))) rfl rfl rfl ?hr ?_; (case hr => first | (go_simp; done) | (go_simp; rfl)); intro w8 hw; clear hcz3_0 hfz3_0 hcz4_0 hfz4_0 hcz4_1 hfz4_1 hcz6_0 hfz6_0 hcz7_0 hfz7_0; have n0_ := Aside0.mk ((by rw [hw]; exact below_set HB.out G7.out : Below w.heap.size w w8)); have n1_ := Aside0.mk ((by rw [hw]; exact blk_far B3.out N3_7.out _ : w8.heap[g3]? = some (.cells #[.int .i64 a1] 2 (0, 0)))); have n2_ := Aside0.mk ((by rw [hw]; exact blk_far B4.out N4_7.out _ : w8.heap[g4]? = some (.cells #[.int .i64 0, .slice none 0 0] 34 (0, 0)))); have n3_ := Aside0.mk ((by rw [hw]; exact blk_far B6.out N6_7.out _ : w8.heap[g6]? = some (.cells #[.slice A l.length c] 28 (0, 0)))); have n4_ := Aside0.mk ((by rw [hw]; exact blk_put (cs := #[.int .i64 0]) B7.out 0 _ rfl : w8.heap[g7]? = some (.cells #[.int .i64 (l.length : Int)] 2 (0, 0)))); have n5_ := Aside0.mk ((by rw [hw]; exact Kd.N_far HN.out (fun k hk => hk) _ : Kd.N (Kd.slice 2 (Kd.int .i64)) 22 w8 w.heap.size _ (.slice A l.length c) l)); clear HB B3 B4 B6 B7 HN; have HB := n0_; have B3 := n1_; have B4 := n2_; have B6 := n3_; have B7 := n4_; have HN := n5_; clear n0_ n1_ n2_ n3_ n4_ n5_; clear hw; have hcz3_0 : w8.cell? ⟨g3, 0, none⟩ = some (.int .i64 a1) := (blk_cell B3.out 0).trans rfl; have hfz3_0 := blk_frozen B3.out 0; have hcz4_0 : w8.cell? ⟨g4, 0, none⟩ = some (.int .i64 0) := (blk_cell B4.out 0).trans rfl; have hfz4_0 := blk_frozen B4.out 0; have hcz4_1 : w8.cell? ⟨g4, 1, none⟩ = some (.slice none 0 0) := (blk_cell B4.out 1).trans rfl; have hfz4_1 := blk_frozen B4.out 1; have hcz6_0 : w8.cell? ⟨g6, 0, none⟩ = some (.slice A l.length c) := (blk_cell B6.out 0).trans rfl; have hfz6_0 := blk_frozen B6.out 0; have hcz7_0 : w8.cell? ⟨g7, 0, none⟩ = some (.int .i64 (l.length : Int)) := (blk_cell B7.out 0).trans rfl; have hfz7_0 := blk_frozen B7.out 0))
      refine bodyPost_ret (results_ct rfl _ _ g4 34 #[.int .i64 0, .slice none 0 0] (0, 0) _ rfl (by refine blk_put (cs := #[.int .i64 0, .slice none 0 0]) ?_ 1 _ rfl; refine blk_put (cs := #[.int .i64 0, .slice none 0 0]) ?_ 0 _ rfl; exact B4.out) Try.underlying34 rfl (by kernel_rfl)) rfl ?_
      exact ⟨_, rfl, Kd.R_nil _ _ _ _ _, below_set (below_set HB.out G4.out) G4.out⟩
    · rw [if_neg c5] at h
      have d5 : decide (62 < 2 * (l.length : Int)) = false := decide_eq_false c5
      clear c5
      obtain ⟨⟨t1, t2⟩, A2, h⟩ := Option.bind_eq_some_iff.mp h
      simp only [Option.some.injEq, Prod.mk.injEq] at h
      obtain ⟨rfl, rfl, rfl⟩ := h
      have H2 := Aside0.mk A2
      clear A2
      go_enter Try.func19, Try.ntmps19
      go_wp2_with (first | ((with_reducible refine gate_dst (N := 3) rfl ?_); refine box_event ?hg (N := 3) ?hd (cs := #[.int .i64 a1]) (t := 2) ?hr ?_; (case hd => rfl); (case hg => rfl); (case hr => first | (go_simp; done) | (go_simp; rfl)); intro g3 hg w1 hbox hb; have n0_ := Aside0.mk (hbox); have n1_ := Aside0.mk ((by rw [hg]; exact below_size HB.out : w.heap.size ≤ g3)); have n2_ := Aside0.mk (below_step HB.out hb); clear HB; have B3 := n0_; have G3 := n1_; have HB := n2_; clear n0_ n1_ n2_; clear hb hbox hg; have hcz3_0 : w1.cell? ⟨g3, 0, none⟩ = some (.int .i64 a1) := (blk_cell B3.out 0).trans rfl; have hfz3_0 := blk_frozen B3.out 0) | ((with_reducible refine gate_dst (N := 4) rfl ?_); refine box_event ?hg (N := 4) ?hd (cs := #[.int .i64 0, .slice none 0 0]) (t := 34) ?hr ?_; (case hd => rfl); (case hg => rfl); (case hr => first | (go_simp; done) | (go_simp; rfl)); intro g4 hg w2 hbox hb; clear hcz3_0 hfz3_0; have n0_ := Aside0.mk (hbox); have n1_ := Aside0.mk ((by rw [hg]; exact below_size HB.out : w.heap.size ≤ g4)); have n2_ := Aside0.mk ((by rw [hg]; exact Nat.ne_of_lt (blk_lt B3.out) : g3 ≠ g4)); have n3_ := Aside0.mk (below_step HB.out hb); have n4_ := Aside0.mk (blk_below B3.out hb); clear HB B3; have B4 := n0_; have G4 := n1_; have N3_4 := n2_; have HB := n3_; have B3 := n4_; clear n0_ n1_ n2_ n3_ n4_; clear hb hbox hg; have hcz3_0 : w2.cell? ⟨g3, 0, none⟩ = some (.int .i64 a1) := (blk_cell B3.out 0).trans rfl; have hfz3_0 := blk_frozen B3.out 0; have hcz4_0 : w2.cell? ⟨g4, 0, none⟩ = some (.int .i64 0) := (blk_cell B4.out 0).trans rfl; have hfz4_0 := blk_frozen B4.out 0; have hcz4_1 : w2.cell? ⟨g4, 1, none⟩ = some (.slice none 0 0) := (blk_cell B4.out 1).trans rfl; have hfz4_1 := blk_frozen B4.out 1) | (go_at_call 30; (refine (impl_isPrime.calls a1 true _ HP.out).mono ?_); rintro e w3 ⟨rfl, hd⟩; clear hcz3_0 hfz3_0 hcz4_0 hfz4_0 hcz4_1 hfz4_1; have hb := hd.below; clear hd; have n0_ := Aside0.mk (below_step HB.out hb); have n1_ := Aside0.mk (blk_below B3.out hb); have n2_ := Aside0.mk (blk_below B4.out hb); clear HB B3 B4; have HB := n0_; have B3 := n1_; have B4 := n2_; clear n0_ n1_ n2_; clear hb; have hcz3_0 : w3.cell? ⟨g3, 0, none⟩ = some (.int .i64 a1) := (blk_cell B3.out 0).trans rfl; have hfz3_0 := blk_frozen B3.out 0; have hcz4_0 : w3.cell? ⟨g4, 0, none⟩ = some (.int .i64 0) := (blk_cell B4.out 0).trans rfl; have hfz4_0 := blk_frozen B4.out 0; have hcz4_1 : w3.cell? ⟨g4, 1, none⟩ = some (.slice none 0 0) := (blk_cell B4.out 1).trans rfl; have hfz4_1 := blk_frozen B4.out 1) | ((with_reducible refine gate_callee (f := 37) rfl ?_); refine goesL_ (some 22) rfl rfl Try.func37 (by kernel_rfl) rfl #[.int .i64 a0, .int .i64 a1] rfl (by (try simp only [List.map_toArray, List.map_cons, List.map_nil]); first | done | rfl) ?_; (refine (impl_tuples.calls k a0 a1 l _ H1.out).mono ?_); rintro e w4 ⟨v4, rfl, hN, hb⟩; refine ⟨_, rfl, ?_⟩; clear hcz3_0 hfz3_0 hcz4_0 hfz4_0 hcz4_1 hfz4_1; have HN := Aside0.mk (Kd.N_lower hN (below_size HB.out)); clear hN; have n0_ := Aside0.mk (below_step HB.out hb); have n1_ := Aside0.mk (blk_below B3.out hb); have n2_ := Aside0.mk (blk_below B4.out hb); clear HB B3 B4; have HB := n0_; have B3 := n1_; have B4 := n2_; clear n0_ n1_ n2_; clear hb; obtain ⟨A, c, e_⟩ := Kd.N_slice HN.out; subst e_; have hcz3_0 : w4.cell? ⟨g3, 0, none⟩ = some (.int .i64 a1) := (blk_cell B3.out 0).trans rfl; have hfz3_0 := blk_frozen B3.out 0; have hcz4_0 : w4.cell? ⟨g4, 0, none⟩ = some (.int .i64 0) := (blk_cell B4.out 0).trans rfl; have hfz4_0 := blk_frozen B4.out 0; have hcz4_1 : w4.cell? ⟨g4, 1, none⟩ = some (.slice none 0 0) := (blk_cell B4.out 1).trans rfl; have hfz4_1 := blk_frozen B4.out 1) | ((with_reducible refine gate_dst (N := 6) rfl ?_); refine box_event ?hg (N := 6) ?hd (cs := #[.slice none 0 0]) (t := 28) ?hr ?_; (case hd => rfl); (case hg => rfl); (case hr => first | (go_simp; done) | (go_simp; rfl)); intro g6 hg w5 hbox hb; clear hcz3_0 hfz3_0 hcz4_0 hfz4_0 hcz4_1 hfz4_1; have n0_ := Aside0.mk (hbox); have n1_ := Aside0.mk ((by rw [hg]; exact below_size HB.out : w.heap.size ≤ g6)); have n2_ := Aside0.mk ((by rw [hg]; exact Nat.ne_of_lt (blk_lt B3.out) : g3 ≠ g6)); have n3_ := Aside0.mk ((by rw [hg]; exact Nat.ne_of_lt (blk_lt B4.out) : g4 ≠ g6)); have n4_ := Aside0.mk ((by rw [hg]; exact Nat.le_refl _ : w4.heap.size ≤ g6)); have n5_ := Aside0.mk (below_step HB.out hb); have n6_ := Aside0.mk (blk_below B3.out hb); have n7_ := Aside0.mk (blk_below B4.out hb); have n8_ := Aside0.mk (Kd.N_mono (ok' := fun k => k ≠ g6) (Kd.N_old HN.out hb) (fun k hk => by have h_ := hk.2; rw [hg]; exact Nat.ne_of_lt h_)); clear HB B3 B4 HN; have B6 := n0_; have G6 := n1_; have N3_6 := n2_; have N4_6 := n3_; have L6 := n4_; have HB := n5_; have B3 := n6_; have B4 := n7_; have HN := n8_; clear n0_ n1_ n2_ n3_ n4_ n5_ n6_ n7_ n8_; clear hb hbox hg; have hcz3_0 : w5.cell? ⟨g3, 0, none⟩ = some (.int .i64 a1) := (blk_cell B3.out 0).trans rfl; have hfz3_0 := blk_frozen B3.out 0; have hcz4_0 : w5.cell? ⟨g4, 0, none⟩ = some (.int .i64 0) := (blk_cell B4.out 0).trans rfl; have hfz4_0 := blk_frozen B4.out 0; have hcz4_1 : w5.cell? ⟨g4, 1, none⟩ = some (.slice none 0 0) := (blk_cell B4.out 1).trans rfl; have hfz4_1 := blk_frozen B4.out 1; have hcz6_0 : w5.cell? ⟨g6, 0, none⟩ = some (.slice none 0 0) := (blk_cell B6.out 0).trans rfl; have hfz6_0 := blk_frozen B6.out 0) | ((with_reducible refine gate_store (t := 28) (p := 6) rfl ?_); refine store_event (t := 28) (p := 6) (v := .tmp 22) (w1 := (w5.setCell ⟨g6, 0, none⟩ (.slice A l.length c))) rfl rfl rfl ?hr ?_; (case hr => first | (go_simp; done) | (go_simp; rfl)); intro w6 hw; clear hcz3_0 hfz3_0 hcz4_0 hfz4_0 hcz4_1 hfz4_1 hcz6_0 hfz6_0; have n0_ := Aside0.mk ((by rw [hw]; exact below_set HB.out G6.out : Below w.heap.size w w6)); have n1_ := Aside0.mk ((by rw [hw]; exact blk_far B3.out N3_6.out _ : w6.heap[g3]? = some (.cells #[.int .i64 a1] 2 (0, 0)))); have n2_ := Aside0.mk ((by rw [hw]; exact blk_far B4.out N4_6.out _ : w6.heap[g4]? = some (.cells #[.int .i64 0, .slice none 0 0] 34 (0, 0)))); have n3_ := Aside0.mk ((by rw [hw]; exact blk_put (cs := #[.slice none 0 0]) B6.out 0 _ rfl : w6.heap[g6]? = some (.cells #[.slice A l.length c] 28 (0, 0)))); have n4_ := Aside0.mk ((by rw [hw]; exact Kd.N_far HN.out (fun k hk => hk) _ : Kd.N (Kd.slice 2 (Kd.int .i64)) 22 w6 w.heap.size _ (.slice A l.length c) l)); clear HB B3 B4 B6 HN; have HB := n0_; have B3 := n1_; have B4 := n2_; have B6 := n3_; have HN := n4_; clear n0_ n1_ n2_ n3_ n4_; clear hw; have hcz3_0 : w6.cell? ⟨g3, 0, none⟩ = some (.int .i64 a1) := (blk_cell B3.out 0).trans rfl; have hfz3_0 := blk_frozen B3.out 0; have hcz4_0 : w6.cell? ⟨g4, 0, none⟩ = some (.int .i64 0) := (blk_cell B4.out 0).trans rfl; have hfz4_0 := blk_frozen B4.out 0; have hcz4_1 : w6.cell? ⟨g4, 1, none⟩ = some (.slice none 0 0) := (blk_cell B4.out 1).trans rfl; have hfz4_1 := blk_frozen B4.out 1; have hcz6_0 : w6.cell? ⟨g6, 0, none⟩ = some (.slice A l.length c) := (blk_cell B6.out 0).trans rfl; have hfz6_0 := blk_frozen B6.out 0) | ((with_reducible refine gate_dst (N := 7) rfl ?_); refine box_event ?hg (N := 7) ?hd (cs := #[.int .i64 0]) (t := 2) ?hr ?_; (case hd => rfl); (case hg => rfl); (case hr => first | (go_simp; done) | (go_simp; rfl)); intro g7 hg w7 hbox hb; clear hcz3_0 hfz3_0 hcz4_0 hfz4_0 hcz4_1 hfz4_1 hcz6_0 hfz6_0; have n0_ := Aside0.mk (hbox); have n1_ := Aside0.mk ((by rw [hg]; exact below_size HB.out : w.heap.size ≤ g7)); have n2_ := Aside0.mk ((by rw [hg]; exact Nat.ne_of_lt (blk_lt B3.out) : g3 ≠ g7)); have n3_ := Aside0.mk ((by rw [hg]; exact Nat.ne_of_lt (blk_lt B4.out) : g4 ≠ g7)); have n4_ := Aside0.mk ((by rw [hg]; exact Nat.ne_of_lt (blk_lt B6.out) : g6 ≠ g7)); have n5_ := Aside0.mk ((by rw [hg]; exact Nat.le_refl _ : w6.heap.size ≤ g7)); have n6_ := Aside0.mk (below_step HB.out hb); have n7_ := Aside0.mk (blk_below B3.out hb); have n8_ := Aside0.mk (blk_below B4.out hb); have n9_ := Aside0.mk (blk_below B6.out hb); have n10_ := Aside0.mk (Kd.N_mono (ok' := fun k => k ≠ g7) (Kd.N_old HN.out hb) (fun k hk => by have h_ := hk.2; rw [hg]; exact Nat.ne_of_lt h_)); clear HB B3 B4 B6 HN; have B7 := n0_; have G7 := n1_; have N3_7 := n2_; have N4_7 := n3_; have N6_7 := n4_; have L7 := n5_; have HB := n6_; have B3 := n7_; have B4 := n8_; have B6 := n9_; have HN := n10_; clear n0_ n1_ n2_ n3_ n4_ n5_ n6_ n7_ n8_ n9_ n10_; clear hb hbox hg; have hcz3_0 : w7.cell? ⟨g3, 0, none⟩ = some (.int .i64 a1) := (blk_cell B3.out 0).trans rfl; have hfz3_0 := blk_frozen B3.out 0; have hcz4_0 : w7.cell? ⟨g4, 0, none⟩ = some (.int .i64 0) := (blk_cell B4.out 0).trans rfl; have hfz4_0 := blk_frozen B4.out 0; have hcz4_1 : w7.cell? ⟨g4, 1, none⟩ = some (.slice none 0 0) := (blk_cell B4.out 1).trans rfl; have hfz4_1 := blk_frozen B4.out 1; have hcz6_0 : w7.cell? ⟨g6, 0, none⟩ = some (.slice A l.length c) := (blk_cell B6.out 0).trans rfl; have hfz6_0 := blk_frozen B6.out 0; have hcz7_0 : w7.cell? ⟨g7, 0, none⟩ = some (.int .i64 0) := (blk_cell B7.out 0).trans rfl; have hfz7_0 := blk_frozen B7.out 0) | ((with_reducible refine gate_store (t := 2) (p := 7) rfl ?_); refine store_event (t := 2) (p := 7) (v := .tmp 24) (w1 := (w7.setCell ⟨g7, 0, none⟩ (.int .i64 (l.length : Int)))) rfl rfl rfl ?hr ?_; (case hr => first | (go_simp; done) | (go_simp; rfl)); intro w8 hw; clear hcz3_0 hfz3_0 hcz4_0 hfz4_0 hcz4_1 hfz4_1 hcz6_0 hfz6_0 hcz7_0 hfz7_0; have n0_ := Aside0.mk ((by rw [hw]; exact below_set HB.out G7.out : Below w.heap.size w w8)); have n1_ := Aside0.mk ((by rw [hw]; exact blk_far B3.out N3_7.out _ : w8.heap[g3]? = some (.cells #[.int .i64 a1] 2 (0, 0)))); have n2_ := Aside0.mk ((by rw [hw]; exact blk_far B4.out N4_7.out _ : w8.heap[g4]? = some (.cells #[.int .i64 0, .slice none 0 0] 34 (0, 0)))); have n3_ := Aside0.mk ((by rw [hw]; exact blk_far B6.out N6_7.out _ : w8.heap[g6]? = some (.cells #[.slice A l.length c] 28 (0, 0)))); have n4_ := Aside0.mk ((by rw [hw]; exact blk_put (cs := #[.int .i64 0]) B7.out 0 _ rfl : w8.heap[g7]? = some (.cells #[.int .i64 (l.length : Int)] 2 (0, 0)))); have n5_ := Aside0.mk ((by rw [hw]; exact Kd.N_far HN.out (fun k hk => hk) _ : Kd.N (Kd.slice 2 (Kd.int .i64)) 22 w8 w.heap.size _ (.slice A l.length c) l)); clear HB B3 B4 B6 B7 HN; have HB := n0_; have B3 := n1_; have B4 := n2_; have B6 := n3_; have B7 := n4_; have HN := n5_; clear n0_ n1_ n2_ n3_ n4_ n5_; clear hw; have hcz3_0 : w8.cell? ⟨g3, 0, none⟩ = some (.int .i64 a1) := (blk_cell B3.out 0).trans rfl; have hfz3_0 := blk_frozen B3.out 0; have hcz4_0 : w8.cell? ⟨g4, 0, none⟩ = some (.int .i64 0) := (blk_cell B4.out 0).trans rfl; have hfz4_0 := blk_frozen B4.out 0; have hcz4_1 : w8.cell? ⟨g4, 1, none⟩ = some (.slice none 0 0) := (blk_cell B4.out 1).trans rfl; have hfz4_1 := blk_frozen B4.out 1; have hcz6_0 : w8.cell? ⟨g6, 0, none⟩ = some (.slice A l.length c) := (blk_cell B6.out 0).trans rfl; have hfz6_0 := blk_frozen B6.out 0; have hcz7_0 : w8.cell? ⟨g7, 0, none⟩ = some (.int .i64 (l.length : Int)) := (blk_cell B7.out 0).trans rfl; have hfz7_0 := blk_frozen B7.out 0) | ((with_reducible refine gate_callee (f := 38) rfl ?_); refine goesL_ (some 32) rfl rfl Try.func38 (by kernel_rfl) rfl #[.int .i64 (2 * (l.length : Int)), .func (.func 39) #[] #[.pointer (some ⟨g7, 0, none⟩), .pointer (some ⟨g3, 0, none⟩), .pointer (some ⟨g6, 0, none⟩)]] rfl (by (try simp only [List.map_toArray, List.map_cons, List.map_nil]); first | done | rfl) ?_; (refine (made_.calls 39 _ Try.func39 rfl rfl (pl_is k a1 l) k (2 * (l.length : Int)) t1 t2 (.pointer (some ⟨g7, 0, none⟩)) (.pointer (some ⟨g3, 0, none⟩)) (.pointer (some ⟨g6, 0, none⟩)) _ ?side1 H2.out).mono ?_); (case side1 => exact fun a b r W hW h_ => pl_calls k a1 l g7 g3 g6 A c a b r W HM.out (blk_below B7.out hW) (blk_below B3.out hW) (blk_below B6.out hW) (Kd.C_below (Kd.N_reads' HN.out).2.2 hW) h_); rintro e w9 ⟨v9, rfl, ho0, hb⟩; refine ⟨_, rfl, ?_⟩; clear hcz3_0 hfz3_0 hcz4_0 hfz4_0 hcz4_1 hfz4_1 hcz6_0 hfz6_0 hcz7_0 hfz7_0; have HX := Aside0.mk (Kd.R_lower ho0 (below_size HB.out)); have n0_ := Aside0.mk (below_step HB.out hb); have n1_ := Aside0.mk (blk_below B3.out hb); have n2_ := Aside0.mk (blk_below B4.out hb); have n3_ := Aside0.mk (blk_below B6.out hb); have n4_ := Aside0.mk (blk_below B7.out hb); have n5_ := Aside0.mk (Kd.N_below HN.out hb); clear HB B3 B4 B6 B7 HN; have HB := n0_; have B3 := n1_; have B4 := n2_; have B6 := n3_; have B7 := n4_; have HN := n5_; clear n0_ n1_ n2_ n3_ n4_ n5_; clear hb ho0; obtain ⟨A9, c9, e9⟩ := Kd.R_slice HX.out; subst e9; have hcz3_0 : w9.cell? ⟨g3, 0, none⟩ = some (.int .i64 a1) := (blk_cell B3.out 0).trans rfl; have hfz3_0 := blk_frozen B3.out 0; have hcz4_0 : w9.cell? ⟨g4, 0, none⟩ = some (.int .i64 0) := (blk_cell B4.out 0).trans rfl; have hfz4_0 := blk_frozen B4.out 0; have hcz4_1 : w9.cell? ⟨g4, 1, none⟩ = some (.slice none 0 0) := (blk_cell B4.out 1).trans rfl; have hfz4_1 := blk_frozen B4.out 1; have hcz6_0 : w9.cell? ⟨g6, 0, none⟩ = some (.slice A l.length c) := (blk_cell B6.out 0).trans rfl; have hfz6_0 := blk_frozen B6.out 0; have hcz7_0 : w9.cell? ⟨g7, 0, none⟩ = some (.int .i64 (l.length : Int)) := (blk_cell B7.out 0).trans rfl; have hfz7_0 := blk_frozen B7.out 0))
      refine bodyPost_ret (results_ct rfl _ _ g4 34 #[.int .i64 t1, .slice A9 t2.length c9] (0, 0) _ rfl (by refine blk_put (cs := #[.int .i64 t1, .slice none 0 0]) ?_ 1 _ rfl; refine blk_put (cs := #[.int .i64 0, .slice none 0 0]) ?_ 0 _ rfl; exact B4.out) Try.underlying34 rfl (by kernel_rfl)) rfl ?_
      exact ⟨_, rfl, Kd.R_mono (Kd.R_far (p := ⟨g4, 1, none⟩) (Kd.R_far (p := ⟨g4, 0, none⟩) (Kd.R_types HX.out B4.out (by decide)) (fun _ hk => hk.2) (.int .i64 t1)) (fun _ hk => hk.2) (.slice A9 t2.length c9)) (fun _ _ => trivial), below_set (below_set HB.out G4.out) G4.out⟩

end Go.Proofs.Ytockngphfpedkaa.XFnExactTupleGraph
