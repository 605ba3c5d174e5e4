-- Written by this project's own program (mprint.py) by means of the kit's printer: with contracts of its own for the functions that the printer leaves out.
import Derived.Test.YtggbhpjakakgeaaDoorXFnExactCountShortestx0
namespace Go.Proofs.YtggbhpjakakgeaaDoor.XFnExactCountShortest
open Go.RowKit Go.Proofs.YtggbhpjakakgeaaDoorW.PrintWords Go.Proofs.YtggbhpjakakgeaaDoorW.PrintLast Go.Proofs.YtggbhpjakakgeaaDoorW.PrintMore
attribute [local go_sem] max2_int min2_int max_two min_two max_three min_three max_four min_four   -- for this text's walks alone
set_option linter.unusedVariables false
set_option linter.unusedSimpArgs false

/-! ### spec_l02From: function 49 -/
mutual
def spec_l02From.l0 : Nat → Int → Int → Int → List Int → Int → Int → List Int → Option (List Int)
  | 0, _, _, _, _, _, _, _ => none
  | k + 1, x1, x2, x3, x9, x10, x129000, x129001 => if x10 < x129000 then (if x9.length < 17592186044416 then (spec_l02From.l0 k x1 x2 x3 (x9 ++ [(-1)]) (wrap64 (x10 + 1)) x129000 x129001) else (none)) else (if 0 ≤ x1 then (if x1 < (x9.length : Int) then (spec_l02From.l1 k x2 x3 (x9.set (x1 : Int).toNat 0) (([x1] : List Int)) 0 x129000 x129001) else (none)) else (none))
def spec_l02From.l1 : Nat → Int → Int → List Int → List Int → Int → Int → List Int → Option (List Int)
  | 0, _, _, _, _, _, _, _ => none
  | k + 1, x2, x3, x9, x11, x12, x129000, x129001 => if x12 < (x11.length : Int) then (if 0 ≤ x12 then (spec_l02From.l2 k x2 x3 x9 x11 x12 (rd x11 x12) 0 x129000 x129001) else (none)) else (some x9)
def spec_l02From.l2 : Nat → Int → Int → List Int → List Int → Int → Int → Int → Int → List Int → Option (List Int)
  | 0, _, _, _, _, _, _, _, _, _ => none
  | k + 1, x2, x3, x9, x11, x12, x13, x14, x129000, x129001 => if x14 < x129000 then (if 0 ≤ x13 then (if x13 < (x129001.length : Int) then (if 0 ≤ (IntKind.u64.wrap (x14)) then (if (Go.bits .and .i64 (shr .i64 (rd x129001 x13) (IntKind.u64.wrap (x14))) 1) = 0 then (spec_l02From.l2 k x2 x3 x9 x11 x12 x13 (wrap64 (x14 + 1)) x129000 x129001) else (if 0 ≤ x14 then (if x14 < (x9.length : Int) then (if (rd x9 x14) ≥ 0 then (spec_l02From.l2 k x2 x3 x9 x11 x12 x13 (wrap64 (x14 + 1)) x129000 x129001) else (if x13 = x2 then (if x14 = x3 then (spec_l02From.l2 k x2 x3 x9 x11 x12 x13 (wrap64 (x14 + 1)) x129000 x129001) else (if x13 = x3 then (if x14 = x2 then (spec_l02From.l2 k x2 x3 x9 x11 x12 x13 (wrap64 (x14 + 1)) x129000 x129001) else (if x13 < (x9.length : Int) then (if x11.length < 17592186044416 then (spec_l02From.l2 k x2 x3 (x9.set (x14 : Int).toNat (wrap64 ((rd x9 x13) + 1))) (x11 ++ [x14]) x12 x13 (wrap64 (x14 + 1)) x129000 x129001) else (none)) else (none))) else (if x13 < (x9.length : Int) then (if x11.length < 17592186044416 then (spec_l02From.l2 k x2 x3 (x9.set (x14 : Int).toNat (wrap64 ((rd x9 x13) + 1))) (x11 ++ [x14]) x12 x13 (wrap64 (x14 + 1)) x129000 x129001) else (none)) else (none)))) else (if x13 = x3 then (if x14 = x2 then (spec_l02From.l2 k x2 x3 x9 x11 x12 x13 (wrap64 (x14 + 1)) x129000 x129001) else (if x13 < (x9.length : Int) then (if x11.length < 17592186044416 then (spec_l02From.l2 k x2 x3 (x9.set (x14 : Int).toNat (wrap64 ((rd x9 x13) + 1))) (x11 ++ [x14]) x12 x13 (wrap64 (x14 + 1)) x129000 x129001) else (none)) else (none))) else (if x13 < (x9.length : Int) then (if x11.length < 17592186044416 then (spec_l02From.l2 k x2 x3 (x9.set (x14 : Int).toNat (wrap64 ((rd x9 x13) + 1))) (x11 ++ [x14]) x12 x13 (wrap64 (x14 + 1)) x129000 x129001) else (none)) else (none))))) else (none)) else (none))) else (none)) else (none)) else (none)) else (spec_l02From.l1 k x2 x3 x9 x11 (wrap64 (x12 + 1)) x129000 x129001)
end
def spec_l02From.f (k : Nat) (a0_0 : Int) (l0_1 : List Int) (a1 : Int) (a2 : Int) (a3 : Int) : Option (List Int) := spec_l02From.l0 k a1 a2 a3 (([] : List Int)) 0 a0_0 l0_1
theorem spec_l02From.mono_l : ∀ k, (∀ y0 y1 y2 y3 y4 y5 y6, LeO (spec_l02From.l0 k y0 y1 y2 y3 y4 y5 y6) (spec_l02From.l0 (k + 1) y0 y1 y2 y3 y4 y5 y6)) ∧ (∀ y0 y1 y2 y3 y4 y5 y6, LeO (spec_l02From.l1 k y0 y1 y2 y3 y4 y5 y6) (spec_l02From.l1 (k + 1) y0 y1 y2 y3 y4 y5 y6)) ∧ (∀ y0 y1 y2 y3 y4 y5 y6 y7 y8, LeO (spec_l02From.l2 k y0 y1 y2 y3 y4 y5 y6 y7 y8) (spec_l02From.l2 (k + 1) y0 y1 y2 y3 y4 y5 y6 y7 y8))
  | 0 => ⟨fun _ _ _ _ _ _ _ r h => by simp [spec_l02From.l0] at h, fun _ _ _ _ _ _ _ r h => by simp [spec_l02From.l1] at h, fun _ _ _ _ _ _ _ _ _ r h => by simp [spec_l02From.l2] at h⟩
  | k + 1 => by
    obtain ⟨ih0, ih1, ih2⟩ := spec_l02From.mono_l k
    refine ⟨?_, ?_, ?_⟩
    · intro y0 y1 y2 y3 y4 y5 y6
      unfold spec_l02From.l0
      repeat' first
      | (with_reducible exact ih0 _ _ _ _ _ _ _)
      | (with_reducible exact ih1 _ _ _ _ _ _ _)
      | (with_reducible exact ih2 _ _ _ _ _ _ _ _ _)
      | (with_reducible exact LeO.refl _)
      | (with_reducible exact LeO.none _)
      | (with_reducible refine LeO.ite ?_ ?_)
      | (with_reducible refine LeO.bind ?_ (fun _ => ?_))
      | exact ih0 _ _ _ _ _ _ _
      | exact ih1 _ _ _ _ _ _ _
      | exact ih2 _ _ _ _ _ _ _ _ _
      | exact LeO.none _
      | refine LeO.ite ?_ ?_
      | refine LeO.bind ?_ (fun _ => ?_)
    · intro y0 y1 y2 y3 y4 y5 y6
      unfold spec_l02From.l1
      repeat' first
      | (with_reducible exact ih0 _ _ _ _ _ _ _)
      | (with_reducible exact ih1 _ _ _ _ _ _ _)
      | (with_reducible exact ih2 _ _ _ _ _ _ _ _ _)
      | (with_reducible exact LeO.refl _)
      | (with_reducible exact LeO.none _)
      | (with_reducible refine LeO.ite ?_ ?_)
      | (with_reducible refine LeO.bind ?_ (fun _ => ?_))
      | exact ih0 _ _ _ _ _ _ _
      | exact ih1 _ _ _ _ _ _ _
      | exact ih2 _ _ _ _ _ _ _ _ _
      | exact LeO.none _
      | refine LeO.ite ?_ ?_
      | refine LeO.bind ?_ (fun _ => ?_)
    · intro y0 y1 y2 y3 y4 y5 y6 y7 y8
      unfold spec_l02From.l2
      repeat' first
      | (with_reducible exact ih0 _ _ _ _ _ _ _)
      | (with_reducible exact ih1 _ _ _ _ _ _ _)
      | (with_reducible exact ih2 _ _ _ _ _ _ _ _ _)
      | (with_reducible exact LeO.refl _)
      | (with_reducible exact LeO.none _)
      | (with_reducible refine LeO.ite ?_ ?_)
      | (with_reducible refine LeO.bind ?_ (fun _ => ?_))
      | exact ih0 _ _ _ _ _ _ _
      | exact ih1 _ _ _ _ _ _ _
      | exact ih2 _ _ _ _ _ _ _ _ _
      | exact LeO.none _
      | refine LeO.ite ?_ ?_
      | refine LeO.bind ?_ (fun _ => ?_)
theorem spec_l02From.mono : ∀ a0 a1 a2 a3 a4 k, LeO (spec_l02From.f k a0 a1 a2 a3 a4) (spec_l02From.f (k + 1) a0 a1 a2 a3 a4) := by
  intro a0 a1 a2 a3 a4 k
  obtain ⟨ih0, ih1, ih2⟩ := spec_l02From.mono_l k
  unfold spec_l02From.f
  repeat' first
      | (with_reducible exact ih0 _ _ _ _ _ _ _)
      | (with_reducible exact ih1 _ _ _ _ _ _ _)
      | (with_reducible exact ih2 _ _ _ _ _ _ _ _ _)
      | (with_reducible exact LeO.refl _)
      | (with_reducible exact LeO.none _)
      | (with_reducible refine LeO.ite ?_ ?_)
      | (with_reducible refine LeO.bind ?_ (fun _ => ?_))
      | exact ih0 _ _ _ _ _ _ _
      | exact ih1 _ _ _ _ _ _ _
      | exact ih2 _ _ _ _ _ _ _ _ _
      | exact LeO.none _
      | refine LeO.ite ?_ ?_
      | refine LeO.bind ?_ (fun _ => ?_)
set_option maxHeartbeats 8000000 in
set_option maxRecDepth 100000 in
theorem spec_l02From.calls (k : Nat) (a0_0 : Int) (A0_1 : Option Addr) (c0_1 : Nat) (l0_1 : List Int) (a1 : Int) (a2 : Int) (a3 : Int) (r : List Int) (w : World) (hr0_1 : Kd.C (Kd.int .i64) w A0_1 l0_1.length l0_1) (hc0_1 : l0_1.length ≤ c0_1) (h : spec_l02From.f k a0_0 l0_1 a1 a2 a3 = some r) :
    Calls Tryd.prog 49 #[.agg #[.int .i64 a0_0, .slice A0_1 l0_1.length c0_1], .int .i64 a1, .int .i64 a2, .int .i64 a3] w fun e w' => ∃ v0_ : Value, e = .returned (v0_) ∧ Kd.R (Kd.int .i64) 2 w' w.heap.size (fun _ => True) v0_ r ∧ Below w.heap.size w w' := by
  have hu26 := Tryd.underlying26
  have HR0_1 := Aside0.mk hr0_1
  have HC0_1 := Aside0.mk hc0_1
  clear hr0_1 hc0_1
  have HB := Aside0.mk (Below.refl w.heap.size w)
  have H : (spec_l02From.l0 k a1 a2 a3 (([] : List Int)) 0 a0_0 l0_1) = some r := h
  clear h
  obtain ⟨y129, hy129⟩ : ∃ y_ : List Int, y_ = (([] : List Int)) := ⟨_, rfl⟩
  replace H : (spec_l02From.l0 k a1 a2 a3 y129 0 a0_0 l0_1) = some r := by first | (rw [hy129]; with_reducible exact H) | (have H2_ := (Option.bind_some _ _).symm.trans H; rw [hy129]; with_reducible exact H2_) | (have H2_ := (Option.bind_some _ _).symm.trans H; with_reducible exact H2_) | with_reducible exact H | (rw [hy129]; exact H) | exact H
  have Ny129 := Aside0.mk hy129
  clear hy129
  have H' := Aside0.mk H
  clear H
  go_enter Tryd.func49, Tryd.ntmps49
  go_wp2_with (first | ((with_reducible refine gate_dst (N := 4) rfl ?_); refine box_event ?hg (N := 4) ?hd (cs := #[.int .i64 a0_0, .slice A0_1 l0_1.length c0_1]) (t := 26) ?hr ?_; (case hd => rfl); (case hg => rfl); (case hr => first | (go_simp; done) | (go_simp; rfl)); intro gb128 hg w5 hbox hb; have n0_ := Aside0.mk (below_step (by repeat (first | (with_reducible first | exact HB.out | apply below_alloc | apply pw_below_drewN | apply below_drew1) | exact HB.out)) hb); have n1_ := Aside0.mk (hbox); have n2_ := Aside0.mk ((by rw [hg]; exact (below_size (by repeat (first | (with_reducible first | exact HB.out | apply below_alloc | apply pw_below_drewN | apply below_drew1) | exact HB.out))) : w.heap.size ≤ gb128)); have n3_ := Aside0.mk ((by rw [hg]; exact (below_size (by repeat (first | (with_reducible first | exact HB.out | apply below_alloc | apply pw_below_drewN | apply below_drew1) | exact HB.out))) : w.heap.size ≤ gb128)); clear HB; have HB := n0_; have BK128 := n1_; have GW128 := n2_; have GE128 := n3_; clear n0_ n1_ n2_ n3_; clear hb hbox hg) | ((with_reducible refine gate_dst (N := 15) rfl ?_); refine Kd.R_lit (Kd.int .i64) _ 2 ?hg (N := 15) ?hd (xs := ([] : List Int)) (inner := []) (ok := fun _ => True) (okp := fun _ => True) ?hr ?hp (fun _ hk => hk) trivial (Below.refl _ _) (Nat.le_refl _) (by simp) ?_; (case hd => rfl); (case hg => rfl); (case hr => first | (go_simp; done) | (go_simp; rfl)); (case hp => exact (Reps.none _ _)); intro v130 w6 ho7 hb hg_ hnew_; clear hg_ hnew_; (first | rw [← Ny129.out] at ho7 | (simp only [Int.reduceToNat] at ho7; rw [← Ny129.out] at ho7)); have n0_ := Aside0.mk (Kd.R_lower ho7 (below_size (by repeat (first | (with_reducible first | exact HB.out | apply below_alloc | apply pw_below_drewN | apply below_drew1 | refine below_set ?_ GE128.out) | exact HB.out)))); have n1_ := Aside0.mk (blk_below (g := gb128) (o := .cells #[.int .i64 a0_0, .slice A0_1 l0_1.length c0_1] 26 (0, 0)) (by (with_reducible repeat (first | refine blk_drewN ?_ _ | refine blk_drew ?_ | refine blk_alloc ?_ _)); exact BK128.out) hb); have n2_ := Aside0.mk (below_step (by repeat (first | (with_reducible first | exact HB.out | apply below_alloc | apply pw_below_drewN | apply below_drew1 | refine below_set ?_ GE128.out) | exact HB.out)) hb); clear BK128; clear HB; have HO131 := n0_; have BK128 := n1_; have HB := n2_; clear n0_ n1_ n2_; clear hb ho7))
  go_loopg [9, 10] k (fun kq v9 v10 w' => ∃ (x9_1 : List Int) (x10_1 : Int), v10 = .int .i64 x10_1 ∧ Aside0 (spec_l02From.l0 kq a1 a2 a3 x9_1 x10_1 a0_0 l0_1 = some r) ∧ Aside0 (kq ≤ k) ∧ Aside0 (Kd.R (Kd.int .i64) 2 w' w.heap.size (fun _ => True) v9 x9_1) ∧ Aside0 (w'.heap[gb128]? = some (.cells #[.int .i64 a0_0, (.slice A0_1 l0_1.length c0_1)] 26 (0, 0))) ∧ Aside0 (Below w.heap.size w w'))
  case atStart => exact ⟨(y129), (0), (by first | rfl | (simp; done) | (simp [*]; done)), H', ⟨Nat.le_refl _⟩, ⟨by (with_reducible repeat (first | apply Kd.R_alloc | apply Kd.R_drewN | apply Kd.R_drew)); exact HO131.out⟩, ⟨by (with_reducible repeat (first | refine blk_drewN ?_ _ | refine blk_drew ?_ | refine blk_alloc ?_ _)); exact BK128.out⟩, ⟨by repeat (first | (with_reducible first | exact HB.out | apply below_alloc | apply pw_below_drewN | apply below_drew1 | refine below_set ?_ GE128.out) | exact HB.out)⟩⟩
  case round =>
    clear H'
    try clear p2
    try clear c4
    obtain ⟨x9_1, x10_1, rfl, HA, HK1, HO_9, BK128, HB⟩ := hrel
    cases gk with
    | zero => exact absurd HA.out (by simp [spec_l02From.l0])
    | succ k1 =>
      have H := HA.out
      clear HA
      simp only [spec_l02From.l0] at H
      by_cases c8 : x10_1 < a0_0
      · rw [if_pos c8] at H
        have c8b0 : decide (x10_1 < a0_0) = true := decide_eq_true c8
        clear c8
        by_cases c9 : x9_1.length < 17592186044416
        · rw [if_pos c9] at H
          have LMc9 := Aside0.mk c9
          clear c9
          obtain ⟨y132, hy132⟩ : ∃ y_ : List Int, y_ = (x9_1 ++ [(-1)]) := ⟨_, rfl⟩
          replace H : (spec_l02From.l0 k1 a1 a2 a3 y132 (wrap64 (x10_1 + 1)) a0_0 l0_1) = some r := by first | (rw [hy132]; with_reducible exact H) | (have H2_ := (Option.bind_some _ _).symm.trans H; rw [hy132]; with_reducible exact H2_) | (have H2_ := (Option.bind_some _ _).symm.trans H; with_reducible exact H2_) | with_reducible exact H | (rw [hy132]; exact H) | exact H
          have Ny132 := Aside0.mk hy132
          clear hy132
          have H' := Aside0.mk H
          clear H
          have hcz10_0 : wr.cell? ⟨gb128, 0, none⟩ = some (.int .i64 a0_0) := (blk_cell BK128.out 0).trans rfl
          have hcz10_1 : wr.cell? ⟨gb128, 1, none⟩ = some (.slice A0_1 l0_1.length c0_1) := (blk_cell BK128.out 1).trans rfl
          have hfz10_0 := blk_frozen BK128.out 0
          have hfz10_1 := blk_frozen BK128.out 1
          go_wp2_with (first | ((with_reducible refine gate_builtin (b := .append) (xs := #[.tmp 22, .tmp 23]) rfl ?_); at_builtin; refine Kd.R_append (Kd.int .i64) (w0 := w) w.heap.size rfl (.tmp 22) (.tmp 23) 24 2 (.int .i64 0) 8 rfl Tryd.underlying24 info2 rfl (by decide) (by omega) u9 x9_1 (-1) [.int .i64 (-1)] (fun _ => True) (fun _ => False) rfl rfl ?aP (fun _ hk => hk.elim) ?aF ?aO ?aB ?aS ?aL ?_; (case aP => exact rfl); (case aB => exact (by repeat (first | (with_reducible first | exact HB.out | apply below_alloc | apply pw_below_drewN | apply below_drew1 | refine below_set ?_ GE128.out) | exact HB.out))); (case aF => exact (fun _ _ => trivial)); (case aO => exact (by (with_reducible repeat (first | apply Kd.R_alloc | apply Kd.R_drewN | apply Kd.R_drew)); exact HO_9.out)); (case aS => exact (below_size (by repeat (first | (with_reducible first | exact HB.out | apply below_alloc | apply pw_below_drewN | apply below_drew1 | refine below_set ?_ GE128.out) | exact HB.out)))); (case aL => have := LMc9.out; omega); intro v133 w11 ho hb hg hat; rw [← Ny132.out] at ho; have n0_ := Aside0.mk (blk_grown (g := gb128) (o := .cells #[.int .i64 a0_0, .slice A0_1 l0_1.length c0_1] 26 (0, 0)) (by (with_reducible repeat (first | refine blk_drewN ?_ _ | refine blk_drew ?_ | refine blk_alloc ?_ _)); exact BK128.out) hg (Kd.R_ne HO_9.out BK128.out (by decide))); have n1_ := Aside0.mk (hb); have n2_ := Aside0.mk (ho); clear BK128; clear HB; clear HO_9; have BK128 := n0_; have HB := n1_; have HO134 := n2_; clear n0_ n1_ n2_; clear ho hb hg hat))
          go_roundg k1
          case measure => have := HK1.out; omega
          case rel => exact ⟨(y132), (wrap64 (x10_1 + 1)), (by first | rfl | (simp; done) | (simp [*]; done)), H', ⟨by have := HK1.out; omega⟩, ⟨by (with_reducible repeat (first | apply Kd.R_alloc | apply Kd.R_drewN | apply Kd.R_drew)); exact HO134.out⟩, ⟨by (with_reducible repeat (first | refine blk_drewN ?_ _ | refine blk_drew ?_ | refine blk_alloc ?_ _)); exact BK128.out⟩, ⟨by repeat (first | (with_reducible first | exact HB.out | apply below_alloc | apply pw_below_drewN | apply below_drew1 | refine below_set ?_ GE128.out) | exact HB.out)⟩⟩
          all_goals (go_roundg k1; (case measure => have := HK1.out; omega); (case rel => exact ⟨(y132), (wrap64 (x10_1 + 1)), (by first | rfl | (simp; done) | (simp [*]; done)), H', ⟨by have := HK1.out; omega⟩, ⟨by (with_reducible repeat (first | apply Kd.R_alloc | apply Kd.R_drewN | apply Kd.R_drew)); exact HO134.out⟩, ⟨by (with_reducible repeat (first | refine blk_drewN ?_ _ | refine blk_drew ?_ | refine blk_alloc ?_ _)); exact BK128.out⟩, ⟨by repeat (first | (with_reducible first | exact HB.out | apply below_alloc | apply pw_below_drewN | apply below_drew1 | refine below_set ?_ GE128.out) | exact HB.out)⟩⟩))
        · rw [if_neg c9] at H
          exact absurd H (by simp)
      · rw [if_neg c8] at H
        have c8b0 : decide (x10_1 < a0_0) = false := decide_eq_false c8
        clear c8
        by_cases c12 : 0 ≤ a1
        · rw [if_pos c12] at H
          have c12b0 : decide (0 ≤ a1) = true := decide_eq_true c12
          clear c12
          by_cases c13 : a1 < (x9_1.length : Int)
          · rw [if_pos c13] at H
            have c13b0 : decide (a1 < (x9_1.length : Int)) = true := decide_eq_true c13
            clear c13
            obtain ⟨y135, hy135⟩ : ∃ y_ : List Int, y_ = (x9_1.set (a1 : Int).toNat 0) := ⟨_, rfl⟩
            replace H : (spec_l02From.l1 k1 a2 a3 y135 (([a1] : List Int)) 0 a0_0 l0_1) = some r := by first | (rw [hy135]; with_reducible exact H) | (have H2_ := (Option.bind_some _ _).symm.trans H; rw [hy135]; with_reducible exact H2_) | (have H2_ := (Option.bind_some _ _).symm.trans H; with_reducible exact H2_) | with_reducible exact H | (rw [hy135]; exact H) | exact H
            have Ny135 := Aside0.mk hy135
            clear hy135
            obtain ⟨y136, hy136⟩ : ∃ y_ : List Int, y_ = (([a1] : List Int)) := ⟨_, rfl⟩
            replace H : (spec_l02From.l1 k1 a2 a3 y135 y136 0 a0_0 l0_1) = some r := by first | (rw [hy136]; with_reducible exact H) | (have H2_ := (Option.bind_some _ _).symm.trans H; rw [hy136]; with_reducible exact H2_) | (have H2_ := (Option.bind_some _ _).symm.trans H; with_reducible exact H2_) | with_reducible exact H | (rw [hy136]; exact H) | exact H
            have Ny136 := Aside0.mk hy136
            clear hy136
            have H' := Aside0.mk H
            clear H
            have hcz15_0 : wr.cell? ⟨gb128, 0, none⟩ = some (.int .i64 a0_0) := (blk_cell BK128.out 0).trans rfl
            have hcz15_1 : wr.cell? ⟨gb128, 1, none⟩ = some (.slice A0_1 l0_1.length c0_1) := (blk_cell BK128.out 1).trans rfl
            have hfz15_0 := blk_frozen BK128.out 0
            have hfz15_1 := blk_frozen BK128.out 1
            have p14 : 0 ≤ (a1 : Int) := of_decide_eq_true (by first | (with_reducible assumption) | assumption)
            have q14 : (a1 : Int) < ((x9_1.length : Int) : Int) := of_decide_eq_true (by first | (with_reducible assumption) | assumption)
            obtain ⟨go14, co14, eo14, gb14, gl14, cl14, HG14⟩ := Kd.R_form HO_9.out (by omega)
            (first | cases eo14 | (injection eo14 with ea_ en_ ec_; (first | subst ea_ | (injection ea_ with ea_; subst ea_)); subst ec_; clear en_))
            have GB14 := Aside0.mk gb14
            have GG14 := Aside0.mk HG14
            clear gb14 gl14 HG14
            obtain ⟨hx14_0, hf14_0⟩ := Kd.R_celln 0 HO_9.out (a1 : Int) p14 q14
            replace p14 := eq_true p14
            replace q14 := eq_true q14
            have HP16 := Kd.R_putg HO_9.out (a1 : Int) 0
            go_wp2_with (first | ((with_reducible refine gate_store (t := 2) (p := 27) rfl ?_); refine store_event (t := 2) (p := 27) (v := ?vo_w17) (w1 := (wr.setCell ⟨go14, (a1 : Int).toNat, none⟩ (.int .i64 0))) ?hg ?ho ?hn ?hr ?_; (case ho => rfl); (case hg => rfl); (case hn => rfl); (case hr => first | (go_simp; done) | (go_simp; rfl)); intro w17 hw; have hg : wr.grownBy w17 (some go14) := (by rw [hw]; exact HP16.2); have hp_ : Kd.R (Kd.int .i64) 2 w17 w.heap.size (fun _ => True) (.slice (some ⟨go14, 0, none⟩) x9_1.length co14) y135 := (by rw [hw, Ny135.out]; exact HP16.1); clear HP16; have n0_ := Aside0.mk (hp_); have n1_ := Aside0.mk (blk_grown (g := gb128) (o := .cells #[.int .i64 a0_0, .slice A0_1 l0_1.length c0_1] 26 (0, 0)) (by (with_reducible repeat (first | refine blk_drewN ?_ _ | refine blk_drew ?_ | refine blk_alloc ?_ _)); exact BK128.out) hg (Kd.R_ne HO_9.out BK128.out (by decide))); have n2_ := Aside0.mk ((by rw [hw]; exact below_set (HB.out) GB14.out : Below w.heap.size w w17)); clear HO_9; clear BK128; clear HB; have HO_9 := n0_; have BK128 := n1_; have HB := n2_; clear n0_ n1_ n2_; clear hg hw hp_) | ((with_reducible refine gate_dst (N := 29) rfl ?_); refine Kd.R_lit (Kd.int .i64) _ 2 ?hg (N := 29) ?hd (xs := ([a1] : List Int)) (inner := [.int .i64 a1]) (ok := fun _ => True) (okp := fun _ => True) ?hr ?hp (fun _ hk => hk) trivial (Below.refl _ _) (Nat.le_refl _) (by simp) ?_; (case hd => rfl); (case hg => rfl); (case hr => first | (go_simp; done) | (go_simp; rfl)); (case hp => exact (Reps.one (show Kd.M (Kd.int .i64) _ _ _ a1 [.int .i64 a1] from rfl) (Reps.none _ _))); intro v137 w18 ho19 hb hg_ hnew_; clear hg_ hnew_; (first | rw [← Ny136.out] at ho19 | (simp only [Int.reduceToNat] at ho19; rw [← Ny136.out] at ho19)); have n0_ := Aside0.mk (Kd.R_elder' (by (with_reducible repeat (first | apply Kd.R_alloc | apply Kd.R_drewN | apply Kd.R_drew)); exact HO_9.out) (Kd.R_base ho19) hb); have n1_ := Aside0.mk (Kd.R_lower (Kd.R_new' ho19 (Kd.R_lt (by (with_reducible repeat (first | apply Kd.R_alloc | apply Kd.R_drewN | apply Kd.R_drew)); exact HO_9.out))) (below_size (by repeat (first | (with_reducible first | exact HB.out | apply below_alloc | apply pw_below_drewN | apply below_drew1 | refine below_set ?_ GE128.out) | exact HB.out)))); have n2_ := Aside0.mk (blk_below (g := gb128) (o := .cells #[.int .i64 a0_0, .slice A0_1 l0_1.length c0_1] 26 (0, 0)) (by (with_reducible repeat (first | refine blk_drewN ?_ _ | refine blk_drew ?_ | refine blk_alloc ?_ _)); exact BK128.out) hb); have n3_ := Aside0.mk (below_step (by repeat (first | (with_reducible first | exact HB.out | apply below_alloc | apply pw_below_drewN | apply below_drew1 | refine below_set ?_ GE128.out) | exact HB.out)) hb); clear HO_9; clear BK128; clear HB; have HO_9 := n0_; have HO138 := n1_; have BK128 := n2_; have HB := n3_; clear n0_ n1_ n2_ n3_; clear hb ho19))
            go_loopg [11, 12] k1 (fun kq v11 v12 w' => ∃ (x9_2 : List Int) (x11_2 : List Int) (x12_2 : Int), v12 = .int .i64 x12_2 ∧ Aside0 (spec_l02From.l1 kq a2 a3 x9_2 x11_2 x12_2 a0_0 l0_1 = some r) ∧ Aside0 (kq ≤ k1) ∧ Aside0 (Kd.R (Kd.int .i64) 2 w' w.heap.size (fun k_ => some k_ ≠ (v11 : Value).ownBlock) (.slice (some ⟨go14, 0, none⟩) x9_1.length co14) x9_2) ∧ Aside0 (Kd.R (Kd.int .i64) 2 w' w.heap.size (fun k_ => some k_ ≠ ((.slice (some ⟨go14, 0, none⟩) x9_1.length co14) : Value).ownBlock) v11 x11_2) ∧ Aside0 (w'.heap[gb128]? = some (.cells #[.int .i64 a0_0, (.slice A0_1 l0_1.length c0_1)] 26 (0, 0))) ∧ Aside0 (Below w.heap.size w w'))
            case atStart => exact ⟨(y135), (y136), (0), (by first | rfl | (simp; done) | (simp [*]; done)), H', ⟨Nat.le_refl _⟩, ⟨by (with_reducible repeat (first | apply Kd.R_alloc | apply Kd.R_drewN | apply Kd.R_drew)); exact Kd.R_mono HO_9.out (fun _ hk => hk.2)⟩, ⟨by (with_reducible repeat (first | apply Kd.R_alloc | apply Kd.R_drewN | apply Kd.R_drew)); exact Kd.R_mono HO138.out (fun _ hk => hk.2)⟩, ⟨by (with_reducible repeat (first | refine blk_drewN ?_ _ | refine blk_drew ?_ | refine blk_alloc ?_ _)); exact BK128.out⟩, ⟨by repeat (first | (with_reducible first | exact HB.out | apply below_alloc | apply pw_below_drewN | apply below_drew1 | refine below_set ?_ GE128.out) | exact HB.out)⟩⟩
            case round =>
              clear H'
              try clear c1
              try clear p1
              try clear q1
              try clear hx1
              try clear p2
              try clear c4
              try clear p6
              try clear c8
              try clear c8b0
              try clear c9
              try clear c12
              try clear c12b0
              try clear c13
              try clear c13b0
              try clear p14
              try clear q14
              try clear hx14
              try clear hf14
              try clear hcz10_0
              try clear hcz10_1
              try clear hcz15_0
              try clear hcz15_1
              try clear hfz10_0
              try clear hfz10_1
              try clear hfz15_0
              try clear hfz15_1
              try clear hx14_0
              try clear p14
              try clear p2
              try clear q14
              obtain ⟨x9_2, x11_2, x12_2, rfl, HA, HK2, HO_9, HO_11, BK128, HB⟩ := hrel
              have hl9_2 := (Kd.R_reads' HO_9.out).1
              rw [hl9_2] at HO_9
              (try simp only [hl9_2])
              (try simp only [hl9_2] at BK128)
              (try simp only [hl9_2] at HO_11)
              cases gk with
              | zero => exact absurd HA.out (by simp [spec_l02From.l1])
              | succ k2 =>
                have H := HA.out
                clear HA
                simp only [spec_l02From.l1] at H
                by_cases c20 : x12_2 < (x11_2.length : Int)
                · rw [if_pos c20] at H
                  have c20b0 : decide (x12_2 < (x11_2.length : Int)) = true := decide_eq_true c20
                  clear c20
                  by_cases c21 : 0 ≤ x12_2
                  · rw [if_pos c21] at H
                    have c21b0 : decide (0 ≤ x12_2) = true := decide_eq_true c21
                    clear c21
                    have H' := Aside0.mk H
                    clear H
                    obtain ⟨Ao22, co22, eo22⟩ := Kd.R_slice HO_11.out
                    subst eo22
                    have p139 : 0 ≤ (x12_2 : Int) := of_decide_eq_true (by first | (with_reducible assumption) | assumption)
                    have q139 : x12_2 < (x11_2.length : Int) := of_decide_eq_true (by first | (with_reducible assumption) | assumption)
                    obtain ⟨ad139, e139, hx139_0⟩ := Kd.at_int (Kd.R_reads' HO_11.out).2.2 x12_2 p139 q139
                    cases e139
                    replace p139 := eq_true p139
                    replace q139 := eq_true q139
                    go_wp2
                    go_loopg [11, 14] k2 (fun kq v11 v14 w' => ∃ (x9_3 : List Int) (x11_3 : List Int) (x14_3 : Int), v14 = .int .i64 x14_3 ∧ Aside0 (spec_l02From.l2 kq a2 a3 x9_3 x11_3 x12_2 (rd x11_2 x12_2) x14_3 a0_0 l0_1 = some r) ∧ Aside0 (kq ≤ k2) ∧ Aside0 (Kd.R (Kd.int .i64) 2 w' w.heap.size (fun k_ => some k_ ≠ (v11 : Value).ownBlock) (.slice (some ⟨go14, 0, none⟩) x9_2.length co14) x9_3) ∧ Aside0 (Kd.R (Kd.int .i64) 2 w' w.heap.size (fun k_ => some k_ ≠ ((.slice (some ⟨go14, 0, none⟩) x9_2.length co14) : Value).ownBlock) v11 x11_3) ∧ Aside0 (w'.heap[gb128]? = some (.cells #[.int .i64 a0_0, (.slice A0_1 l0_1.length c0_1)] 26 (0, 0))) ∧ Aside0 (Below w.heap.size w w'))
                    case atStart => exact ⟨(x9_2), (x11_2), (0), (by first | rfl | (simp; done) | (simp [*]; done)), H', ⟨Nat.le_refl _⟩, ⟨by (try simp only [hl9_2]); (with_reducible repeat (first | apply Kd.R_alloc | apply Kd.R_drewN | apply Kd.R_drew)); exact HO_9.out⟩, ⟨by (try simp only [hl9_2]); (with_reducible repeat (first | apply Kd.R_alloc | apply Kd.R_drewN | apply Kd.R_drew)); exact HO_11.out⟩, ⟨by (try simp only [hl9_2]); (with_reducible repeat (first | refine blk_drewN ?_ _ | refine blk_drew ?_ | refine blk_alloc ?_ _)); exact BK128.out⟩, ⟨by repeat (first | (with_reducible first | exact HB.out | apply below_alloc | apply pw_below_drewN | apply below_drew1 | refine below_set ?_ GE128.out) | exact HB.out)⟩⟩
                    case round =>
                      clear H'
                      try clear c1
                      try clear p1
                      try clear q1
                      try clear hx1
                      try clear c2
                      try clear p2
                      try clear c4
                      try clear p6
                      try clear c8
                      try clear c8b0
                      try clear c9
                      try clear c12
                      try clear c12b0
                      try clear c13
                      try clear c13b0
                      try clear p13
                      try clear q13
                      try clear hx13
                      try clear p14
                      try clear q14
                      try clear hx14
                      try clear hf14
                      try clear c20
                      try clear c20b0
                      try clear c21
                      try clear c21b0
                      try clear hcz10_0
                      try clear hcz10_1
                      try clear hcz15_0
                      try clear hcz15_1
                      try clear hfz10_0
                      try clear hfz10_1
                      try clear hfz15_0
                      try clear hfz15_1
                      try clear hx139_0
                      try clear hx14_0
                      try clear p1
                      try clear p139
                      try clear p14
                      try clear p2
                      try clear p6
                      try clear q1
                      try clear q139
                      try clear q14
                      obtain ⟨x9_3, x11_3, x14_3, rfl, HA, HK3, HO_9, HO_11, BK128, HB⟩ := hrel
                      have hl9_3 := (Kd.R_reads' HO_9.out).1
                      rw [hl9_3] at HO_9
                      (try simp only [hl9_3])
                      (try simp only [hl9_3] at BK128)
                      (try simp only [hl9_3] at HO_11)
                      cases gk with
                      | zero => exact absurd HA.out (by simp [spec_l02From.l2])
                      | succ k3 =>
                        have H := HA.out
                        clear HA
                        simp only [spec_l02From.l2] at H
                        by_cases c23 : x14_3 < a0_0
                        · rw [if_pos c23] at H
                          have c23b0 : decide (x14_3 < a0_0) = true := decide_eq_true c23
                          clear c23
                          by_cases c24 : 0 ≤ (rd x11_2 x12_2)
                          · rw [if_pos c24] at H
                            have c24b0 : decide (0 ≤ (rd x11_2 x12_2)) = true := decide_eq_true c24
                            clear c24
                            by_cases c25 : (rd x11_2 x12_2) < (l0_1.length : Int)
                            · rw [if_pos c25] at H
                              have c25b0 : decide ((rd x11_2 x12_2) < (l0_1.length : Int)) = true := decide_eq_true c25
                              clear c25
                              obtain ⟨ji26, hji26⟩ : ∃ j_ : Int, (IntKind.u64.wrap (x14_3)) = j_ := ⟨_, rfl⟩
                              replace H : (if 0 ≤ (ji26) then (if (Go.bits .and .i64 (shr .i64 (rd l0_1 (rd x11_2 x12_2)) (ji26)) 1) = 0 then (spec_l02From.l2 k3 a2 a3 x9_3 x11_3 x12_2 (rd x11_2 x12_2) (wrap64 (x14_3 + 1)) a0_0 l0_1) else (if 0 ≤ x14_3 then (if x14_3 < (x9_3.length : Int) then (if (rd x9_3 x14_3) ≥ 0 then (spec_l02From.l2 k3 a2 a3 x9_3 x11_3 x12_2 (rd x11_2 x12_2) (wrap64 (x14_3 + 1)) a0_0 l0_1) else (if (rd x11_2 x12_2) = a2 then (if x14_3 = a3 then (spec_l02From.l2 k3 a2 a3 x9_3 x11_3 x12_2 (rd x11_2 x12_2) (wrap64 (x14_3 + 1)) a0_0 l0_1) else (if (rd x11_2 x12_2) = a3 then (if x14_3 = a2 then (spec_l02From.l2 k3 a2 a3 x9_3 x11_3 x12_2 (rd x11_2 x12_2) (wrap64 (x14_3 + 1)) a0_0 l0_1) else (if (rd x11_2 x12_2) < (x9_3.length : Int) then (if x11_3.length < 17592186044416 then (spec_l02From.l2 k3 a2 a3 (x9_3.set (x14_3 : Int).toNat (wrap64 ((rd x9_3 (rd x11_2 x12_2)) + 1))) (x11_3 ++ [x14_3]) x12_2 (rd x11_2 x12_2) (wrap64 (x14_3 + 1)) a0_0 l0_1) else (none)) else (none))) else (if (rd x11_2 x12_2) < (x9_3.length : Int) then (if x11_3.length < 17592186044416 then (spec_l02From.l2 k3 a2 a3 (x9_3.set (x14_3 : Int).toNat (wrap64 ((rd x9_3 (rd x11_2 x12_2)) + 1))) (x11_3 ++ [x14_3]) x12_2 (rd x11_2 x12_2) (wrap64 (x14_3 + 1)) a0_0 l0_1) else (none)) else (none)))) else (if (rd x11_2 x12_2) = a3 then (if x14_3 = a2 then (spec_l02From.l2 k3 a2 a3 x9_3 x11_3 x12_2 (rd x11_2 x12_2) (wrap64 (x14_3 + 1)) a0_0 l0_1) else (if (rd x11_2 x12_2) < (x9_3.length : Int) then (if x11_3.length < 17592186044416 then (spec_l02From.l2 k3 a2 a3 (x9_3.set (x14_3 : Int).toNat (wrap64 ((rd x9_3 (rd x11_2 x12_2)) + 1))) (x11_3 ++ [x14_3]) x12_2 (rd x11_2 x12_2) (wrap64 (x14_3 + 1)) a0_0 l0_1) else (none)) else (none))) else (if (rd x11_2 x12_2) < (x9_3.length : Int) then (if x11_3.length < 17592186044416 then (spec_l02From.l2 k3 a2 a3 (x9_3.set (x14_3 : Int).toNat (wrap64 ((rd x9_3 (rd x11_2 x12_2)) + 1))) (x11_3 ++ [x14_3]) x12_2 (rd x11_2 x12_2) (wrap64 (x14_3 + 1)) a0_0 l0_1) else (none)) else (none))))) else (none)) else (none))) else (none)) = some r := by first | (rw [hji26] at H; exact H) | (simp only [hji26] at H ⊢; exact H)
                              by_cases c27 : 0 ≤ (ji26)
                              · rw [if_pos c27] at H
                                have c27b0 := eq_true c27
                                have c27b1 : decide (0 ≤ (ji26)) = true := decide_eq_true c27
                                clear c27
                                obtain ⟨ji28, hji28⟩ : ∃ j_ : Int, (shr .i64 (rd l0_1 (rd x11_2 x12_2)) (ji26)) = j_ := ⟨_, rfl⟩
                                replace H : (if (Go.bits .and .i64 (ji28) 1) = 0 then (spec_l02From.l2 k3 a2 a3 x9_3 x11_3 x12_2 (rd x11_2 x12_2) (wrap64 (x14_3 + 1)) a0_0 l0_1) else (if 0 ≤ x14_3 then (if x14_3 < (x9_3.length : Int) then (if (rd x9_3 x14_3) ≥ 0 then (spec_l02From.l2 k3 a2 a3 x9_3 x11_3 x12_2 (rd x11_2 x12_2) (wrap64 (x14_3 + 1)) a0_0 l0_1) else (if (rd x11_2 x12_2) = a2 then (if x14_3 = a3 then (spec_l02From.l2 k3 a2 a3 x9_3 x11_3 x12_2 (rd x11_2 x12_2) (wrap64 (x14_3 + 1)) a0_0 l0_1) else (if (rd x11_2 x12_2) = a3 then (if x14_3 = a2 then (spec_l02From.l2 k3 a2 a3 x9_3 x11_3 x12_2 (rd x11_2 x12_2) (wrap64 (x14_3 + 1)) a0_0 l0_1) else (if (rd x11_2 x12_2) < (x9_3.length : Int) then (if x11_3.length < 17592186044416 then (spec_l02From.l2 k3 a2 a3 (x9_3.set (x14_3 : Int).toNat (wrap64 ((rd x9_3 (rd x11_2 x12_2)) + 1))) (x11_3 ++ [x14_3]) x12_2 (rd x11_2 x12_2) (wrap64 (x14_3 + 1)) a0_0 l0_1) else (none)) else (none))) else (if (rd x11_2 x12_2) < (x9_3.length : Int) then (if x11_3.length < 17592186044416 then (spec_l02From.l2 k3 a2 a3 (x9_3.set (x14_3 : Int).toNat (wrap64 ((rd x9_3 (rd x11_2 x12_2)) + 1))) (x11_3 ++ [x14_3]) x12_2 (rd x11_2 x12_2) (wrap64 (x14_3 + 1)) a0_0 l0_1) else (none)) else (none)))) else (if (rd x11_2 x12_2) = a3 then (if x14_3 = a2 then (spec_l02From.l2 k3 a2 a3 x9_3 x11_3 x12_2 (rd x11_2 x12_2) (wrap64 (x14_3 + 1)) a0_0 l0_1) else (if (rd x11_2 x12_2) < (x9_3.length : Int) then (if x11_3.length < 17592186044416 then (spec_l02From.l2 k3 a2 a3 (x9_3.set (x14_3 : Int).toNat (wrap64 ((rd x9_3 (rd x11_2 x12_2)) + 1))) (x11_3 ++ [x14_3]) x12_2 (rd x11_2 x12_2) (wrap64 (x14_3 + 1)) a0_0 l0_1) else (none)) else (none))) else (if (rd x11_2 x12_2) < (x9_3.length : Int) then (if x11_3.length < 17592186044416 then (spec_l02From.l2 k3 a2 a3 (x9_3.set (x14_3 : Int).toNat (wrap64 ((rd x9_3 (rd x11_2 x12_2)) + 1))) (x11_3 ++ [x14_3]) x12_2 (rd x11_2 x12_2) (wrap64 (x14_3 + 1)) a0_0 l0_1) else (none)) else (none))))) else (none)) else (none))) = some r := by first | (rw [hji28] at H; exact H) | (simp only [hji28] at H ⊢; exact H)
                                have hji28_ : ((rd l0_1 (rd x11_2 x12_2)) / 2 ^ min (ji26).toNat 64) = ji28 := hji28
                                have hji28z : (ji26) ≤ 64 → ((rd l0_1 (rd x11_2 x12_2)) / 2 ^ (ji26).toNat) = ji28 := shr_small hji28
                                by_cases c29 : (Go.bits .and .i64 (ji28) 1) = 0
                                · rw [if_pos c29] at H
                                  have c29b0 : ((Go.bits .and .i64 (ji28) 1) == 0) = true := beq_iff_eq.mpr c29
                                  have c29b1 : ((Go.bits .and .i64 (ji28) 1) != 0) = false := bne_eq_false_iff_eq.mpr c29
                                  clear c29
                                  have H' := Aside0.mk H
                                  clear H
                                  have hcz30_0 : wr.cell? ⟨gb128, 0, none⟩ = some (.int .i64 a0_0) := (blk_cell BK128.out 0).trans rfl
                                  have hcz30_1 : wr.cell? ⟨gb128, 1, none⟩ = some (.slice A0_1 l0_1.length c0_1) := (blk_cell BK128.out 1).trans rfl
                                  have hfz30_0 := blk_frozen BK128.out 0
                                  have hfz30_1 := blk_frozen BK128.out 1
                                  have p140 : 0 ≤ ((rd x11_2 x12_2) : Int) := of_decide_eq_true (by first | (with_reducible assumption) | assumption)
                                  have q140 : (rd x11_2 x12_2) < (l0_1.length : Int) := of_decide_eq_true (by first | (with_reducible assumption) | assumption)
                                  obtain ⟨ad140, e140, hx140_0⟩ := Kd.at_int HR0_1.out (rd x11_2 x12_2) p140 q140
                                  cases e140
                                  replace hx140_0 := (HB.out.cell (World.block_lt_of_cell? w _ hx140_0)).trans hx140_0
                                  replace p140 := eq_true p140
                                  replace q140 := eq_true q140
                                  go_wp2
                                  (try simp only [← hl9_3])
                                  go_roundg k3
                                  case measure => have := HK1.out; have := HK2.out; have := HK3.out; omega
                                  case rel => exact ⟨(x9_3), (x11_3), (wrap64 (x14_3 + 1)), (by first | rfl | (simp; done) | (simp [*]; done)), H', ⟨by have := HK1.out; have := HK2.out; have := HK3.out; omega⟩, ⟨by (try simp only [hl9_2]); (try simp only [hl9_3]); (with_reducible repeat (first | apply Kd.R_alloc | apply Kd.R_drewN | apply Kd.R_drew)); exact HO_9.out⟩, ⟨by (try simp only [hl9_2]); (try simp only [hl9_3]); (with_reducible repeat (first | apply Kd.R_alloc | apply Kd.R_drewN | apply Kd.R_drew)); exact HO_11.out⟩, ⟨by (try simp only [hl9_2]); (try simp only [hl9_3]); (with_reducible repeat (first | refine blk_drewN ?_ _ | refine blk_drew ?_ | refine blk_alloc ?_ _)); exact BK128.out⟩, ⟨by repeat (first | (with_reducible first | exact HB.out | apply below_alloc | apply pw_below_drewN | apply below_drew1 | refine below_set ?_ GE128.out) | exact HB.out)⟩⟩
                                  all_goals ((try simp only [← hl9_3]); go_roundg k3; (case measure => have := HK1.out; have := HK2.out; have := HK3.out; omega); (case rel => exact ⟨(x9_3), (x11_3), (wrap64 (x14_3 + 1)), (by first | rfl | (simp; done) | (simp [*]; done)), H', ⟨by have := HK1.out; have := HK2.out; have := HK3.out; omega⟩, ⟨by (try simp only [hl9_2]); (try simp only [hl9_3]); (with_reducible repeat (first | apply Kd.R_alloc | apply Kd.R_drewN | apply Kd.R_drew)); exact HO_9.out⟩, ⟨by (try simp only [hl9_2]); (try simp only [hl9_3]); (with_reducible repeat (first | apply Kd.R_alloc | apply Kd.R_drewN | apply Kd.R_drew)); exact HO_11.out⟩, ⟨by (try simp only [hl9_2]); (try simp only [hl9_3]); (with_reducible repeat (first | refine blk_drewN ?_ _ | refine blk_drew ?_ | refine blk_alloc ?_ _)); exact BK128.out⟩, ⟨by repeat (first | (with_reducible first | exact HB.out | apply below_alloc | apply pw_below_drewN | apply below_drew1 | refine below_set ?_ GE128.out) | exact HB.out)⟩⟩))
                                · rw [if_neg c29] at H
                                  have c29b0 : ((Go.bits .and .i64 (ji28) 1) == 0) = false := beq_eq_false_iff_ne.mpr c29
                                  have c29b1 : ((Go.bits .and .i64 (ji28) 1) != 0) = true := bne_iff_ne.mpr c29
                                  by_cases c31 : 0 ≤ x14_3
                                  · rw [if_pos c31] at H
                                    have c31b0 : decide (0 ≤ x14_3) = true := decide_eq_true c31
                                    clear c31
                                    by_cases c32 : x14_3 < (x9_3.length : Int)
                                    · rw [if_pos c32] at H
                                      have c32b0 : decide (x14_3 < (x9_3.length : Int)) = true := decide_eq_true c32
                                      clear c32
                                      by_cases c33 : (rd x9_3 x14_3) ≥ 0
                                      · rw [if_pos c33] at H
                                        have c33b0 : decide (0 ≤ (rd x9_3 x14_3)) = true := decide_eq_true c33
                                        clear c33
                                        have H' := Aside0.mk H
                                        clear H
                                        have hcz34_0 : wr.cell? ⟨gb128, 0, none⟩ = some (.int .i64 a0_0) := (blk_cell BK128.out 0).trans rfl
                                        have hcz34_1 : wr.cell? ⟨gb128, 1, none⟩ = some (.slice A0_1 l0_1.length c0_1) := (blk_cell BK128.out 1).trans rfl
                                        have hfz34_0 := blk_frozen BK128.out 0
                                        have hfz34_1 := blk_frozen BK128.out 1
                                        have p140 : 0 ≤ ((rd x11_2 x12_2) : Int) := of_decide_eq_true (by first | (with_reducible assumption) | assumption)
                                        have q140 : (rd x11_2 x12_2) < (l0_1.length : Int) := of_decide_eq_true (by first | (with_reducible assumption) | assumption)
                                        obtain ⟨ad140, e140, hx140_0⟩ := Kd.at_int HR0_1.out (rd x11_2 x12_2) p140 q140
                                        cases e140
                                        replace hx140_0 := (HB.out.cell (World.block_lt_of_cell? w _ hx140_0)).trans hx140_0
                                        replace p140 := eq_true p140
                                        replace q140 := eq_true q140
                                        have p141 : 0 ≤ (x14_3 : Int) := of_decide_eq_true (by first | (with_reducible assumption) | assumption)
                                        have q141 : x14_3 < (x9_3.length : Int) := of_decide_eq_true (by first | (with_reducible assumption) | assumption)
                                        obtain ⟨ad141, e141, hx141_0⟩ := Kd.at_int (Kd.R_reads' HO_9.out).2.2 x14_3 p141 q141
                                        obtain rfl : (⟨go14, 0, none⟩ : Addr) = ad141 := (by injection e141)
                                        (first | simp only [add_plain] at hx141_0 | simp only [add_at] at hx141_0 | simp only [Addr.add, Nat.zero_add] at hx141_0 | skip)
                                        replace p141 := eq_true p141
                                        replace q141 := eq_true q141
                                        go_wp2
                                        (try simp only [← hl9_3])
                                        go_roundg k3
                                        case measure => have := HK1.out; have := HK2.out; have := HK3.out; omega
                                        case rel => exact ⟨(x9_3), (x11_3), (wrap64 (x14_3 + 1)), (by first | rfl | (simp; done) | (simp [*]; done)), H', ⟨by have := HK1.out; have := HK2.out; have := HK3.out; omega⟩, ⟨by (try simp only [hl9_2]); (try simp only [hl9_3]); (with_reducible repeat (first | apply Kd.R_alloc | apply Kd.R_drewN | apply Kd.R_drew)); exact HO_9.out⟩, ⟨by (try simp only [hl9_2]); (try simp only [hl9_3]); (with_reducible repeat (first | apply Kd.R_alloc | apply Kd.R_drewN | apply Kd.R_drew)); exact HO_11.out⟩, ⟨by (try simp only [hl9_2]); (try simp only [hl9_3]); (with_reducible repeat (first | refine blk_drewN ?_ _ | refine blk_drew ?_ | refine blk_alloc ?_ _)); exact BK128.out⟩, ⟨by repeat (first | (with_reducible first | exact HB.out | apply below_alloc | apply pw_below_drewN | apply below_drew1 | refine below_set ?_ GE128.out) | exact HB.out)⟩⟩
                                        all_goals ((try simp only [← hl9_3]); go_roundg k3; (case measure => have := HK1.out; have := HK2.out; have := HK3.out; omega); (case rel => exact ⟨(x9_3), (x11_3), (wrap64 (x14_3 + 1)), (by first | rfl | (simp; done) | (simp [*]; done)), H', ⟨by have := HK1.out; have := HK2.out; have := HK3.out; omega⟩, ⟨by (try simp only [hl9_2]); (try simp only [hl9_3]); (with_reducible repeat (first | apply Kd.R_alloc | apply Kd.R_drewN | apply Kd.R_drew)); exact HO_9.out⟩, ⟨by (try simp only [hl9_2]); (try simp only [hl9_3]); (with_reducible repeat (first | apply Kd.R_alloc | apply Kd.R_drewN | apply Kd.R_drew)); exact HO_11.out⟩, ⟨by (try simp only [hl9_2]); (try simp only [hl9_3]); (with_reducible repeat (first | refine blk_drewN ?_ _ | refine blk_drew ?_ | refine blk_alloc ?_ _)); exact BK128.out⟩, ⟨by repeat (first | (with_reducible first | exact HB.out | apply below_alloc | apply pw_below_drewN | apply below_drew1 | refine below_set ?_ GE128.out) | exact HB.out)⟩⟩))
                                      · rw [if_neg c33] at H
                                        have c33b0 : decide (0 ≤ (rd x9_3 x14_3)) = false := decide_eq_false c33
                                        clear c33
                                        by_cases c35 : (rd x11_2 x12_2) = a2
                                        · rw [if_pos c35] at H
                                          have c35b0 : ((rd x11_2 x12_2) == a2) = true := beq_iff_eq.mpr c35
                                          have c35b1 : ((rd x11_2 x12_2) != a2) = false := bne_eq_false_iff_eq.mpr c35
                                          clear c35
                                          by_cases c36 : x14_3 = a3
                                          · rw [if_pos c36] at H
                                            have c36b0 : (x14_3 == a3) = true := beq_iff_eq.mpr c36
                                            have c36b1 : (x14_3 != a3) = false := bne_eq_false_iff_eq.mpr c36
                                            clear c36
                                            have H' := Aside0.mk H
                                            clear H
                                            have hcz37_0 : wr.cell? ⟨gb128, 0, none⟩ = some (.int .i64 a0_0) := (blk_cell BK128.out 0).trans rfl
                                            have hcz37_1 : wr.cell? ⟨gb128, 1, none⟩ = some (.slice A0_1 l0_1.length c0_1) := (blk_cell BK128.out 1).trans rfl
                                            have hfz37_0 := blk_frozen BK128.out 0
                                            have hfz37_1 := blk_frozen BK128.out 1
                                            have p140 : 0 ≤ ((rd x11_2 x12_2) : Int) := of_decide_eq_true (by first | (with_reducible assumption) | assumption)
                                            have q140 : (rd x11_2 x12_2) < (l0_1.length : Int) := of_decide_eq_true (by first | (with_reducible assumption) | assumption)
                                            obtain ⟨ad140, e140, hx140_0⟩ := Kd.at_int HR0_1.out (rd x11_2 x12_2) p140 q140
                                            cases e140
                                            replace hx140_0 := (HB.out.cell (World.block_lt_of_cell? w _ hx140_0)).trans hx140_0
                                            replace p140 := eq_true p140
                                            replace q140 := eq_true q140
                                            have p141 : 0 ≤ (x14_3 : Int) := of_decide_eq_true (by first | (with_reducible assumption) | assumption)
                                            have q141 : x14_3 < (x9_3.length : Int) := of_decide_eq_true (by first | (with_reducible assumption) | assumption)
                                            obtain ⟨ad141, e141, hx141_0⟩ := Kd.at_int (Kd.R_reads' HO_9.out).2.2 x14_3 p141 q141
                                            obtain rfl : (⟨go14, 0, none⟩ : Addr) = ad141 := (by injection e141)
                                            (first | simp only [add_plain] at hx141_0 | simp only [add_at] at hx141_0 | simp only [Addr.add, Nat.zero_add] at hx141_0 | skip)
                                            replace p141 := eq_true p141
                                            replace q141 := eq_true q141
                                            go_wp2
                                            (try simp only [← hl9_3])
                                            go_roundg k3
                                            case measure => have := HK1.out; have := HK2.out; have := HK3.out; omega
                                            case rel => exact ⟨(x9_3), (x11_3), (wrap64 (x14_3 + 1)), (by first | rfl | (simp; done) | (simp [*]; done)), H', ⟨by have := HK1.out; have := HK2.out; have := HK3.out; omega⟩, ⟨by (try simp only [hl9_2]); (try simp only [hl9_3]); (with_reducible repeat (first | apply Kd.R_alloc | apply Kd.R_drewN | apply Kd.R_drew)); exact HO_9.out⟩, ⟨by (try simp only [hl9_2]); (try simp only [hl9_3]); (with_reducible repeat (first | apply Kd.R_alloc | apply Kd.R_drewN | apply Kd.R_drew)); exact HO_11.out⟩, ⟨by (try simp only [hl9_2]); (try simp only [hl9_3]); (with_reducible repeat (first | refine blk_drewN ?_ _ | refine blk_drew ?_ | refine blk_alloc ?_ _)); exact BK128.out⟩, ⟨by repeat (first | (with_reducible first | exact HB.out | apply below_alloc | apply pw_below_drewN | apply below_drew1 | refine below_set ?_ GE128.out) | exact HB.out)⟩⟩
                                            all_goals ((try simp only [← hl9_3]); go_roundg k3; (case measure => have := HK1.out; have := HK2.out; have := HK3.out; omega); (case rel => exact ⟨(x9_3), (x11_3), (wrap64 (x14_3 + 1)), (by first | rfl | (simp; done) | (simp [*]; done)), H', ⟨by have := HK1.out; have := HK2.out; have := HK3.out; omega⟩, ⟨by (try simp only [hl9_2]); (try simp only [hl9_3]); (with_reducible repeat (first | apply Kd.R_alloc | apply Kd.R_drewN | apply Kd.R_drew)); exact HO_9.out⟩, ⟨by (try simp only [hl9_2]); (try simp only [hl9_3]); (with_reducible repeat (first | apply Kd.R_alloc | apply Kd.R_drewN | apply Kd.R_drew)); exact HO_11.out⟩, ⟨by (try simp only [hl9_2]); (try simp only [hl9_3]); (with_reducible repeat (first | refine blk_drewN ?_ _ | refine blk_drew ?_ | refine blk_alloc ?_ _)); exact BK128.out⟩, ⟨by repeat (first | (with_reducible first | exact HB.out | apply below_alloc | apply pw_below_drewN | apply below_drew1 | refine below_set ?_ GE128.out) | exact HB.out)⟩⟩))
                                          · rw [if_neg c36] at H
                                            have c36b0 : (x14_3 == a3) = false := beq_eq_false_iff_ne.mpr c36
                                            have c36b1 : (x14_3 != a3) = true := bne_iff_ne.mpr c36
                                            by_cases c38 : (rd x11_2 x12_2) = a3
                                            · rw [if_pos c38] at H
                                              have c38b0 : ((rd x11_2 x12_2) == a3) = true := beq_iff_eq.mpr c38
                                              have c38b1 : ((rd x11_2 x12_2) != a3) = false := bne_eq_false_iff_eq.mpr c38
                                              clear c38
                                              by_cases c39 : x14_3 = a2
                                              · rw [if_pos c39] at H
                                                have c39b0 : (x14_3 == a2) = true := beq_iff_eq.mpr c39
                                                have c39b1 : (x14_3 != a2) = false := bne_eq_false_iff_eq.mpr c39
                                                clear c39
                                                have H' := Aside0.mk H
                                                clear H
                                                have hcz40_0 : wr.cell? ⟨gb128, 0, none⟩ = some (.int .i64 a0_0) := (blk_cell BK128.out 0).trans rfl
                                                have hcz40_1 : wr.cell? ⟨gb128, 1, none⟩ = some (.slice A0_1 l0_1.length c0_1) := (blk_cell BK128.out 1).trans rfl
                                                have hfz40_0 := blk_frozen BK128.out 0
                                                have hfz40_1 := blk_frozen BK128.out 1
                                                have p140 : 0 ≤ ((rd x11_2 x12_2) : Int) := of_decide_eq_true (by first | (with_reducible assumption) | assumption)
                                                have q140 : (rd x11_2 x12_2) < (l0_1.length : Int) := of_decide_eq_true (by first | (with_reducible assumption) | assumption)
                                                obtain ⟨ad140, e140, hx140_0⟩ := Kd.at_int HR0_1.out (rd x11_2 x12_2) p140 q140
                                                cases e140
                                                replace hx140_0 := (HB.out.cell (World.block_lt_of_cell? w _ hx140_0)).trans hx140_0
                                                replace p140 := eq_true p140
                                                replace q140 := eq_true q140
                                                have p141 : 0 ≤ (x14_3 : Int) := of_decide_eq_true (by first | (with_reducible assumption) | assumption)
                                                have q141 : x14_3 < (x9_3.length : Int) := of_decide_eq_true (by first | (with_reducible assumption) | assumption)
                                                obtain ⟨ad141, e141, hx141_0⟩ := Kd.at_int (Kd.R_reads' HO_9.out).2.2 x14_3 p141 q141
                                                obtain rfl : (⟨go14, 0, none⟩ : Addr) = ad141 := (by injection e141)
                                                (first | simp only [add_plain] at hx141_0 | simp only [add_at] at hx141_0 | simp only [Addr.add, Nat.zero_add] at hx141_0 | skip)
                                                replace p141 := eq_true p141
                                                replace q141 := eq_true q141
                                                go_wp2
                                                (try simp only [← hl9_3])
                                                go_roundg k3
                                                case measure => have := HK1.out; have := HK2.out; have := HK3.out; omega
                                                case rel => exact ⟨(x9_3), (x11_3), (wrap64 (x14_3 + 1)), (by first | rfl | (simp; done) | (simp [*]; done)), H', ⟨by have := HK1.out; have := HK2.out; have := HK3.out; omega⟩, ⟨by (try simp only [hl9_2]); (try simp only [hl9_3]); (with_reducible repeat (first | apply Kd.R_alloc | apply Kd.R_drewN | apply Kd.R_drew)); exact HO_9.out⟩, ⟨by (try simp only [hl9_2]); (try simp only [hl9_3]); (with_reducible repeat (first | apply Kd.R_alloc | apply Kd.R_drewN | apply Kd.R_drew)); exact HO_11.out⟩, ⟨by (try simp only [hl9_2]); (try simp only [hl9_3]); (with_reducible repeat (first | refine blk_drewN ?_ _ | refine blk_drew ?_ | refine blk_alloc ?_ _)); exact BK128.out⟩, ⟨by repeat (first | (with_reducible first | exact HB.out | apply below_alloc | apply pw_below_drewN | apply below_drew1 | refine below_set ?_ GE128.out) | exact HB.out)⟩⟩
                                                all_goals ((try simp only [← hl9_3]); go_roundg k3; (case measure => have := HK1.out; have := HK2.out; have := HK3.out; omega); (case rel => exact ⟨(x9_3), (x11_3), (wrap64 (x14_3 + 1)), (by first | rfl | (simp; done) | (simp [*]; done)), H', ⟨by have := HK1.out; have := HK2.out; have := HK3.out; omega⟩, ⟨by (try simp only [hl9_2]); (try simp only [hl9_3]); (with_reducible repeat (first | apply Kd.R_alloc | apply Kd.R_drewN | apply Kd.R_drew)); exact HO_9.out⟩, ⟨by (try simp only [hl9_2]); (try simp only [hl9_3]); (with_reducible repeat (first | apply Kd.R_alloc | apply Kd.R_drewN | apply Kd.R_drew)); exact HO_11.out⟩, ⟨by (try simp only [hl9_2]); (try simp only [hl9_3]); (with_reducible repeat (first | refine blk_drewN ?_ _ | refine blk_drew ?_ | refine blk_alloc ?_ _)); exact BK128.out⟩, ⟨by repeat (first | (with_reducible first | exact HB.out | apply below_alloc | apply pw_below_drewN | apply below_drew1 | refine below_set ?_ GE128.out) | exact HB.out)⟩⟩))
                                              · rw [if_neg c39] at H
                                                have c39b0 : (x14_3 == a2) = false := beq_eq_false_iff_ne.mpr c39
                                                have c39b1 : (x14_3 != a2) = true := bne_iff_ne.mpr c39
                                                by_cases c41 : (rd x11_2 x12_2) < (x9_3.length : Int)
                                                · rw [if_pos c41] at H
                                                  have c41b0 : decide ((rd x11_2 x12_2) < (x9_3.length : Int)) = true := decide_eq_true c41
                                                  clear c41
                                                  obtain ⟨y143, hy143⟩ : ∃ y_ : List Int, y_ = (x9_3.set (x14_3 : Int).toNat (wrap64 ((rd x9_3 (rd x11_2 x12_2)) + 1))) := ⟨_, rfl⟩
                                                  replace H : (if x11_3.length < 17592186044416 then (spec_l02From.l2 k3 a2 a3 y143 (x11_3 ++ [x14_3]) x12_2 (rd x11_2 x12_2) (wrap64 (x14_3 + 1)) a0_0 l0_1) else (none)) = some r := by first | (rw [hy143]; with_reducible exact H) | (have H2_ := (Option.bind_some _ _).symm.trans H; rw [hy143]; with_reducible exact H2_) | (have H2_ := (Option.bind_some _ _).symm.trans H; with_reducible exact H2_) | with_reducible exact H | (rw [hy143]; exact H) | exact H
                                                  have Ny143 := Aside0.mk hy143
                                                  clear hy143
                                                  by_cases c43 : x11_3.length < 17592186044416
                                                  · rw [if_pos c43] at H
                                                    have LMc43 := Aside0.mk c43
                                                    clear c43
                                                    obtain ⟨y144, hy144⟩ : ∃ y_ : List Int, y_ = (x11_3 ++ [x14_3]) := ⟨_, rfl⟩
                                                    replace H : (spec_l02From.l2 k3 a2 a3 y143 y144 x12_2 (rd x11_2 x12_2) (wrap64 (x14_3 + 1)) a0_0 l0_1) = some r := by first | (rw [hy144]; with_reducible exact H) | (have H2_ := (Option.bind_some _ _).symm.trans H; rw [hy144]; with_reducible exact H2_) | (have H2_ := (Option.bind_some _ _).symm.trans H; with_reducible exact H2_) | with_reducible exact H | (rw [hy144]; exact H) | exact H
                                                    have Ny144 := Aside0.mk hy144
                                                    clear hy144
                                                    have H' := Aside0.mk H
                                                    clear H
                                                    have hcz44_0 : wr.cell? ⟨gb128, 0, none⟩ = some (.int .i64 a0_0) := (blk_cell BK128.out 0).trans rfl
                                                    have hcz44_1 : wr.cell? ⟨gb128, 1, none⟩ = some (.slice A0_1 l0_1.length c0_1) := (blk_cell BK128.out 1).trans rfl
                                                    have hfz44_0 := blk_frozen BK128.out 0
                                                    have hfz44_1 := blk_frozen BK128.out 1
                                                    have p140 : 0 ≤ ((rd x11_2 x12_2) : Int) := of_decide_eq_true (by first | (with_reducible assumption) | assumption)
                                                    have q140 : (rd x11_2 x12_2) < (l0_1.length : Int) := of_decide_eq_true (by first | (with_reducible assumption) | assumption)
                                                    obtain ⟨ad140, e140, hx140_0⟩ := Kd.at_int HR0_1.out (rd x11_2 x12_2) p140 q140
                                                    cases e140
                                                    replace hx140_0 := (HB.out.cell (World.block_lt_of_cell? w _ hx140_0)).trans hx140_0
                                                    replace p140 := eq_true p140
                                                    replace q140 := eq_true q140
                                                    have p141 : 0 ≤ (x14_3 : Int) := of_decide_eq_true (by first | (with_reducible assumption) | assumption)
                                                    have q141 : x14_3 < (x9_3.length : Int) := of_decide_eq_true (by first | (with_reducible assumption) | assumption)
                                                    obtain ⟨ad141, e141, hx141_0⟩ := Kd.at_int (Kd.R_reads' HO_9.out).2.2 x14_3 p141 q141
                                                    obtain rfl : (⟨go14, 0, none⟩ : Addr) = ad141 := (by injection e141)
                                                    (first | simp only [add_plain] at hx141_0 | simp only [add_at] at hx141_0 | simp only [Addr.add, Nat.zero_add] at hx141_0 | skip)
                                                    replace p141 := eq_true p141
                                                    replace q141 := eq_true q141
                                                    have p142 : 0 ≤ ((rd x11_2 x12_2) : Int) := of_decide_eq_true (by first | (with_reducible assumption) | assumption)
                                                    have q142 : (rd x11_2 x12_2) < (x9_3.length : Int) := of_decide_eq_true (by first | (with_reducible assumption) | assumption)
                                                    obtain ⟨ad142, e142, hx142_0⟩ := Kd.at_int (Kd.R_reads' HO_9.out).2.2 (rd x11_2 x12_2) p142 q142
                                                    obtain rfl : (⟨go14, 0, none⟩ : Addr) = ad142 := (by injection e142)
                                                    (first | simp only [add_plain] at hx142_0 | simp only [add_at] at hx142_0 | simp only [Addr.add, Nat.zero_add] at hx142_0 | skip)
                                                    replace p142 := eq_true p142
                                                    replace q142 := eq_true q142
                                                    have p42 : 0 ≤ (x14_3 : Int) := of_decide_eq_true (by first | (with_reducible assumption) | assumption)
                                                    have q42 : (x14_3 : Int) < ((x9_3.length : Int) : Int) := of_decide_eq_true (by first | (with_reducible assumption) | assumption)
                                                    obtain ⟨hx42_0, hf42_0⟩ := Kd.R_celln 0 HO_9.out (x14_3 : Int) p42 q42
                                                    replace p42 := eq_true p42
                                                    replace q42 := eq_true q42
                                                    have HP45 := Kd.R_putg HO_9.out (x14_3 : Int) (wrap64 ((rd x9_3 (rd x11_2 x12_2)) + 1))
                                                    go_wp2_with (first | ((with_reducible refine gate_store (t := 2) (p := 90) rfl ?_); refine store_event (t := 2) (p := 90) (v := ?vo_w46) (w1 := (wr.setCell ⟨go14, (x14_3 : Int).toNat, none⟩ (.int .i64 (wrap64 ((rd x9_3 (rd x11_2 x12_2)) + 1))))) ?hg ?ho ?hn ?hr ?_; (case ho => rfl); (case hg => rfl); (case hn => rfl); (case hr => first | (go_simp; done) | (go_simp; rfl)); intro w46 hw; have hg : wr.grownBy w46 (some go14) := (by rw [hw]; exact HP45.2); have hp_ : Kd.R (Kd.int .i64) 2 w46 w.heap.size (fun k_ => some k_ ≠ (u11 : Value).ownBlock) (.slice (some ⟨go14, 0, none⟩) x9_3.length co14) y143 := (by rw [hw, Ny143.out]; exact HP45.1); clear HP45; have n0_ := Aside0.mk (hp_); have n1_ := Aside0.mk (Kd.R_after (v := (.slice (some ⟨go14, 0, none⟩) x9_3.length co14)) (v1 := (.slice (some ⟨go14, 0, none⟩) x9_3.length co14)) (ok := (fun _ => True)) (by (with_reducible repeat (first | apply Kd.R_alloc | apply Kd.R_drewN | apply Kd.R_drew)); exact Kd.R_mono HO_11.out (fun _ hk => ⟨trivial, hk⟩)) hg (.inl rfl)); have n2_ := Aside0.mk (blk_grown (g := gb128) (o := .cells #[.int .i64 a0_0, .slice (some ad140) l0_1.length c0_1] 26 (0, 0)) (by (with_reducible repeat (first | refine blk_drewN ?_ _ | refine blk_drew ?_ | refine blk_alloc ?_ _)); exact BK128.out) hg (Kd.R_ne HO_9.out BK128.out (by decide))); have n3_ := Aside0.mk ((by rw [hw]; exact below_set (HB.out) GB14.out : Below w.heap.size w w46)); clear HO_9; clear HO_11; clear BK128; clear HB; have HO_9 := n0_; have HO_11 := n1_; have BK128 := n2_; have HB := n3_; clear n0_ n1_ n2_ n3_; clear hg hw hp_) | ((with_reducible refine gate_builtin (b := .append) (xs := #[.tmp 91, .tmp 93]) rfl ?_); at_builtin; refine Kd.R_append (Kd.int .i64) (w0 := w) w.heap.size rfl (.tmp 91) (.tmp 93) 24 2 (.int .i64 0) 8 rfl Tryd.underlying24 info2 rfl (by decide) (by omega) u11 x11_3 x14_3 [.int .i64 x14_3] (fun k_ => some k_ ≠ (.slice (some ⟨go14, 0, none⟩) x9_3.length co14 : Value).ownBlock) (fun _ => False) rfl rfl ?aP (fun _ hk => hk.elim) ?aF ?aO ?aB ?aS ?aL ?_; (case aP => exact rfl); (case aB => exact (by repeat (first | (with_reducible first | exact HB.out | apply below_alloc | apply pw_below_drewN | apply below_drew1 | refine below_set ?_ GE128.out) | exact HB.out))); (case aF => exact (fun k_ hk => Kd.fresh' (Kd.R_lt (by (with_reducible repeat (first | apply Kd.R_alloc | apply Kd.R_drewN | apply Kd.R_drew)); exact HO_9.out)) k_ hk)); (case aO => exact (by (with_reducible repeat (first | apply Kd.R_alloc | apply Kd.R_drewN | apply Kd.R_drew)); exact Kd.R_mono HO_11.out (fun _ hk => hk.2))); (case aS => exact (below_size (by repeat (first | (with_reducible first | exact HB.out | apply below_alloc | apply pw_below_drewN | apply below_drew1 | refine below_set ?_ GE128.out) | exact HB.out)))); (case aL => have := LMc43.out; omega); intro v145 w47 ho hb hg hat; rw [← Ny144.out] at ho; have n0_ := Aside0.mk (Kd.R_after (ok := (fun _ => True)) (by (with_reducible repeat (first | apply Kd.R_alloc | apply Kd.R_drewN | apply Kd.R_drew)); exact Kd.R_mono HO_9.out (fun _ hk => ⟨trivial, hk⟩)) hg hat); have n1_ := Aside0.mk (blk_grown (g := gb128) (o := .cells #[.int .i64 a0_0, .slice (some ad140) l0_1.length c0_1] 26 (0, 0)) (by (with_reducible repeat (first | refine blk_drewN ?_ _ | refine blk_drew ?_ | refine blk_alloc ?_ _)); exact BK128.out) hg (Kd.R_ne HO_11.out BK128.out (by decide))); have n2_ := Aside0.mk (hb); have n3_ := Aside0.mk (ho); clear HO_9; clear BK128; clear HB; clear HO_11; have HO_9 := n0_; have BK128 := n1_; have HB := n2_; have HO146 := n3_; clear n0_ n1_ n2_ n3_; clear ho hb hg hat))
                                                    (try simp only [← hl9_3])
                                                    go_roundg k3
                                                    case measure => have := HK1.out; have := HK2.out; have := HK3.out; omega
                                                    case rel => exact ⟨(y143), (y144), (wrap64 (x14_3 + 1)), (by first | rfl | (simp; done) | (simp [*]; done)), H', ⟨by have := HK1.out; have := HK2.out; have := HK3.out; omega⟩, ⟨by (try simp only [hl9_2]); (try simp only [hl9_3]); (with_reducible repeat (first | apply Kd.R_alloc | apply Kd.R_drewN | apply Kd.R_drew)); exact Kd.R_mono HO_9.out (fun _ hk => hk.2)⟩, ⟨by (try simp only [hl9_2]); (try simp only [hl9_3]); (with_reducible repeat (first | apply Kd.R_alloc | apply Kd.R_drewN | apply Kd.R_drew)); exact HO146.out⟩, ⟨by (try simp only [hl9_2]); (try simp only [hl9_3]); (with_reducible repeat (first | refine blk_drewN ?_ _ | refine blk_drew ?_ | refine blk_alloc ?_ _)); exact BK128.out⟩, ⟨by repeat (first | (with_reducible first | exact HB.out | apply below_alloc | apply pw_below_drewN | apply below_drew1 | refine below_set ?_ GE128.out) | exact HB.out)⟩⟩
                                                    all_goals ((try simp only [← hl9_3]); go_roundg k3; (case measure => have := HK1.out; have := HK2.out; have := HK3.out; omega); (case rel => exact ⟨(y143), (y144), (wrap64 (x14_3 + 1)), (by first | rfl | (simp; done) | (simp [*]; done)), H', ⟨by have := HK1.out; have := HK2.out; have := HK3.out; omega⟩, ⟨by (try simp only [hl9_2]); (try simp only [hl9_3]); (with_reducible repeat (first | apply Kd.R_alloc | apply Kd.R_drewN | apply Kd.R_drew)); exact Kd.R_mono HO_9.out (fun _ hk => hk.2)⟩, ⟨by (try simp only [hl9_2]); (try simp only [hl9_3]); (with_reducible repeat (first | apply Kd.R_alloc | apply Kd.R_drewN | apply Kd.R_drew)); exact HO146.out⟩, ⟨by (try simp only [hl9_2]); (try simp only [hl9_3]); (with_reducible repeat (first | refine blk_drewN ?_ _ | refine blk_drew ?_ | refine blk_alloc ?_ _)); exact BK128.out⟩, ⟨by repeat (first | (with_reducible first | exact HB.out | apply below_alloc | apply pw_below_drewN | apply below_drew1 | refine below_set ?_ GE128.out) | exact HB.out)⟩⟩))
                                                  · rw [if_neg c43] at H
                                                    exact absurd H (by simp)
                                                · rw [if_neg c41] at H
                                                  exact absurd H (by simp)
                                            · rw [if_neg c38] at H
                                              have c38b0 : ((rd x11_2 x12_2) == a3) = false := beq_eq_false_iff_ne.mpr c38
                                              have c38b1 : ((rd x11_2 x12_2) != a3) = true := bne_iff_ne.mpr c38
                                              by_cases c48 : (rd x11_2 x12_2) < (x9_3.length : Int)
                                              · rw [if_pos c48] at H
                                                have c48b0 : decide ((rd x11_2 x12_2) < (x9_3.length : Int)) = true := decide_eq_true c48
                                                clear c48
                                                obtain ⟨y148, hy148⟩ : ∃ y_ : List Int, y_ = (x9_3.set (x14_3 : Int).toNat (wrap64 ((rd x9_3 (rd x11_2 x12_2)) + 1))) := ⟨_, rfl⟩
                                                replace H : (if x11_3.length < 17592186044416 then (spec_l02From.l2 k3 a2 a3 y148 (x11_3 ++ [x14_3]) x12_2 (rd x11_2 x12_2) (wrap64 (x14_3 + 1)) a0_0 l0_1) else (none)) = some r := by first | (rw [hy148]; with_reducible exact H) | (have H2_ := (Option.bind_some _ _).symm.trans H; rw [hy148]; with_reducible exact H2_) | (have H2_ := (Option.bind_some _ _).symm.trans H; with_reducible exact H2_) | with_reducible exact H | (rw [hy148]; exact H) | exact H
                                                have Ny148 := Aside0.mk hy148
                                                clear hy148
                                                by_cases c50 : x11_3.length < 17592186044416
                                                · rw [if_pos c50] at H
                                                  have LMc50 := Aside0.mk c50
                                                  clear c50
                                                  obtain ⟨y149, hy149⟩ : ∃ y_ : List Int, y_ = (x11_3 ++ [x14_3]) := ⟨_, rfl⟩
                                                  replace H : (spec_l02From.l2 k3 a2 a3 y148 y149 x12_2 (rd x11_2 x12_2) (wrap64 (x14_3 + 1)) a0_0 l0_1) = some r := by first | (rw [hy149]; with_reducible exact H) | (have H2_ := (Option.bind_some _ _).symm.trans H; rw [hy149]; with_reducible exact H2_) | (have H2_ := (Option.bind_some _ _).symm.trans H; with_reducible exact H2_) | with_reducible exact H | (rw [hy149]; exact H) | exact H
                                                  have Ny149 := Aside0.mk hy149
                                                  clear hy149
                                                  have H' := Aside0.mk H
                                                  clear H
                                                  have hcz51_0 : wr.cell? ⟨gb128, 0, none⟩ = some (.int .i64 a0_0) := (blk_cell BK128.out 0).trans rfl
                                                  have hcz51_1 : wr.cell? ⟨gb128, 1, none⟩ = some (.slice A0_1 l0_1.length c0_1) := (blk_cell BK128.out 1).trans rfl
                                                  have hfz51_0 := blk_frozen BK128.out 0
                                                  have hfz51_1 := blk_frozen BK128.out 1
                                                  have p140 : 0 ≤ ((rd x11_2 x12_2) : Int) := of_decide_eq_true (by first | (with_reducible assumption) | assumption)
                                                  have q140 : (rd x11_2 x12_2) < (l0_1.length : Int) := of_decide_eq_true (by first | (with_reducible assumption) | assumption)
                                                  obtain ⟨ad140, e140, hx140_0⟩ := Kd.at_int HR0_1.out (rd x11_2 x12_2) p140 q140
                                                  cases e140
                                                  replace hx140_0 := (HB.out.cell (World.block_lt_of_cell? w _ hx140_0)).trans hx140_0
                                                  replace p140 := eq_true p140
                                                  replace q140 := eq_true q140
                                                  have p141 : 0 ≤ (x14_3 : Int) := of_decide_eq_true (by first | (with_reducible assumption) | assumption)
                                                  have q141 : x14_3 < (x9_3.length : Int) := of_decide_eq_true (by first | (with_reducible assumption) | assumption)
                                                  obtain ⟨ad141, e141, hx141_0⟩ := Kd.at_int (Kd.R_reads' HO_9.out).2.2 x14_3 p141 q141
                                                  obtain rfl : (⟨go14, 0, none⟩ : Addr) = ad141 := (by injection e141)
                                                  (first | simp only [add_plain] at hx141_0 | simp only [add_at] at hx141_0 | simp only [Addr.add, Nat.zero_add] at hx141_0 | skip)
                                                  replace p141 := eq_true p141
                                                  replace q141 := eq_true q141
                                                  have p147 : 0 ≤ ((rd x11_2 x12_2) : Int) := of_decide_eq_true (by first | (with_reducible assumption) | assumption)
                                                  have q147 : (rd x11_2 x12_2) < (x9_3.length : Int) := of_decide_eq_true (by first | (with_reducible assumption) | assumption)
                                                  obtain ⟨ad147, e147, hx147_0⟩ := Kd.at_int (Kd.R_reads' HO_9.out).2.2 (rd x11_2 x12_2) p147 q147
                                                  obtain rfl : (⟨go14, 0, none⟩ : Addr) = ad147 := (by injection e147)
                                                  (first | simp only [add_plain] at hx147_0 | simp only [add_at] at hx147_0 | simp only [Addr.add, Nat.zero_add] at hx147_0 | skip)
                                                  replace p147 := eq_true p147
                                                  replace q147 := eq_true q147
                                                  have p49 : 0 ≤ (x14_3 : Int) := of_decide_eq_true (by first | (with_reducible assumption) | assumption)
                                                  have q49 : (x14_3 : Int) < ((x9_3.length : Int) : Int) := of_decide_eq_true (by first | (with_reducible assumption) | assumption)
                                                  obtain ⟨hx49_0, hf49_0⟩ := Kd.R_celln 0 HO_9.out (x14_3 : Int) p49 q49
                                                  replace p49 := eq_true p49
                                                  replace q49 := eq_true q49
                                                  have HP52 := Kd.R_putg HO_9.out (x14_3 : Int) (wrap64 ((rd x9_3 (rd x11_2 x12_2)) + 1))
                                                  go_wp2_with (first | ((with_reducible refine gate_store (t := 2) (p := 90) rfl ?_); refine store_event (t := 2) (p := 90) (v := ?vo_w53) (w1 := (wr.setCell ⟨go14, (x14_3 : Int).toNat, none⟩ (.int .i64 (wrap64 ((rd x9_3 (rd x11_2 x12_2)) + 1))))) ?hg ?ho ?hn ?hr ?_; (case ho => rfl); (case hg => rfl); (case hn => rfl); (case hr => first | (go_simp; done) | (go_simp; rfl)); intro w53 hw; have hg : wr.grownBy w53 (some go14) := (by rw [hw]; exact HP52.2); have hp_ : Kd.R (Kd.int .i64) 2 w53 w.heap.size (fun k_ => some k_ ≠ (u11 : Value).ownBlock) (.slice (some ⟨go14, 0, none⟩) x9_3.length co14) y148 := (by rw [hw, Ny148.out]; exact HP52.1); clear HP52; have n0_ := Aside0.mk (hp_); have n1_ := Aside0.mk (Kd.R_after (v := (.slice (some ⟨go14, 0, none⟩) x9_3.length co14)) (v1 := (.slice (some ⟨go14, 0, none⟩) x9_3.length co14)) (ok := (fun _ => True)) (by (with_reducible repeat (first | apply Kd.R_alloc | apply Kd.R_drewN | apply Kd.R_drew)); exact Kd.R_mono HO_11.out (fun _ hk => ⟨trivial, hk⟩)) hg (.inl rfl)); have n2_ := Aside0.mk (blk_grown (g := gb128) (o := .cells #[.int .i64 a0_0, .slice (some ad140) l0_1.length c0_1] 26 (0, 0)) (by (with_reducible repeat (first | refine blk_drewN ?_ _ | refine blk_drew ?_ | refine blk_alloc ?_ _)); exact BK128.out) hg (Kd.R_ne HO_9.out BK128.out (by decide))); have n3_ := Aside0.mk ((by rw [hw]; exact below_set (HB.out) GB14.out : Below w.heap.size w w53)); clear HO_9; clear HO_11; clear BK128; clear HB; have HO_9 := n0_; have HO_11 := n1_; have BK128 := n2_; have HB := n3_; clear n0_ n1_ n2_ n3_; clear hg hw hp_) | ((with_reducible refine gate_builtin (b := .append) (xs := #[.tmp 91, .tmp 93]) rfl ?_); at_builtin; refine Kd.R_append (Kd.int .i64) (w0 := w) w.heap.size rfl (.tmp 91) (.tmp 93) 24 2 (.int .i64 0) 8 rfl Tryd.underlying24 info2 rfl (by decide) (by omega) u11 x11_3 x14_3 [.int .i64 x14_3] (fun k_ => some k_ ≠ (.slice (some ⟨go14, 0, none⟩) x9_3.length co14 : Value).ownBlock) (fun _ => False) rfl rfl ?aP (fun _ hk => hk.elim) ?aF ?aO ?aB ?aS ?aL ?_; (case aP => exact rfl); (case aB => exact (by repeat (first | (with_reducible first | exact HB.out | apply below_alloc | apply pw_below_drewN | apply below_drew1 | refine below_set ?_ GE128.out) | exact HB.out))); (case aF => exact (fun k_ hk => Kd.fresh' (Kd.R_lt (by (with_reducible repeat (first | apply Kd.R_alloc | apply Kd.R_drewN | apply Kd.R_drew)); exact HO_9.out)) k_ hk)); (case aO => exact (by (with_reducible repeat (first | apply Kd.R_alloc | apply Kd.R_drewN | apply Kd.R_drew)); exact Kd.R_mono HO_11.out (fun _ hk => hk.2))); (case aS => exact (below_size (by repeat (first | (with_reducible first | exact HB.out | apply below_alloc | apply pw_below_drewN | apply below_drew1 | refine below_set ?_ GE128.out) | exact HB.out)))); (case aL => have := LMc50.out; omega); intro v150 w54 ho hb hg hat; rw [← Ny149.out] at ho; have n0_ := Aside0.mk (Kd.R_after (ok := (fun _ => True)) (by (with_reducible repeat (first | apply Kd.R_alloc | apply Kd.R_drewN | apply Kd.R_drew)); exact Kd.R_mono HO_9.out (fun _ hk => ⟨trivial, hk⟩)) hg hat); have n1_ := Aside0.mk (blk_grown (g := gb128) (o := .cells #[.int .i64 a0_0, .slice (some ad140) l0_1.length c0_1] 26 (0, 0)) (by (with_reducible repeat (first | refine blk_drewN ?_ _ | refine blk_drew ?_ | refine blk_alloc ?_ _)); exact BK128.out) hg (Kd.R_ne HO_11.out BK128.out (by decide))); have n2_ := Aside0.mk (hb); have n3_ := Aside0.mk (ho); clear HO_9; clear BK128; clear HB; clear HO_11; have HO_9 := n0_; have BK128 := n1_; have HB := n2_; have HO151 := n3_; clear n0_ n1_ n2_ n3_; clear ho hb hg hat))
                                                  (try simp only [← hl9_3])
                                                  go_roundg k3
                                                  case measure => have := HK1.out; have := HK2.out; have := HK3.out; omega
                                                  case rel => exact ⟨(y148), (y149), (wrap64 (x14_3 + 1)), (by first | rfl | (simp; done) | (simp [*]; done)), H', ⟨by have := HK1.out; have := HK2.out; have := HK3.out; omega⟩, ⟨by (try simp only [hl9_2]); (try simp only [hl9_3]); (with_reducible repeat (first | apply Kd.R_alloc | apply Kd.R_drewN | apply Kd.R_drew)); exact Kd.R_mono HO_9.out (fun _ hk => hk.2)⟩, ⟨by (try simp only [hl9_2]); (try simp only [hl9_3]); (with_reducible repeat (first | apply Kd.R_alloc | apply Kd.R_drewN | apply Kd.R_drew)); exact HO151.out⟩, ⟨by (try simp only [hl9_2]); (try simp only [hl9_3]); (with_reducible repeat (first | refine blk_drewN ?_ _ | refine blk_drew ?_ | refine blk_alloc ?_ _)); exact BK128.out⟩, ⟨by repeat (first | (with_reducible first | exact HB.out | apply below_alloc | apply pw_below_drewN | apply below_drew1 | refine below_set ?_ GE128.out) | exact HB.out)⟩⟩
                                                  all_goals ((try simp only [← hl9_3]); go_roundg k3; (case measure => have := HK1.out; have := HK2.out; have := HK3.out; omega); (case rel => exact ⟨(y148), (y149), (wrap64 (x14_3 + 1)), (by first | rfl | (simp; done) | (simp [*]; done)), H', ⟨by have := HK1.out; have := HK2.out; have := HK3.out; omega⟩, ⟨by (try simp only [hl9_2]); (try simp only [hl9_3]); (with_reducible repeat (first | apply Kd.R_alloc | apply Kd.R_drewN | apply Kd.R_drew)); exact Kd.R_mono HO_9.out (fun _ hk => hk.2)⟩, ⟨by (try simp only [hl9_2]); (try simp only [hl9_3]); (with_reducible repeat (first | apply Kd.R_alloc | apply Kd.R_drewN | apply Kd.R_drew)); exact HO151.out⟩, ⟨by (try simp only [hl9_2]); (try simp only [hl9_3]); (with_reducible repeat (first | refine blk_drewN ?_ _ | refine blk_drew ?_ | refine blk_alloc ?_ _)); exact BK128.out⟩, ⟨by repeat (first | (with_reducible first | exact HB.out | apply below_alloc | apply pw_below_drewN | apply below_drew1 | refine below_set ?_ GE128.out) | exact HB.out)⟩⟩))
                                                · rw [if_neg c50] at H
                                                  exact absurd H (by simp)
                                              · rw [if_neg c48] at H
                                                exact absurd H (by simp)
                                        · rw [if_neg c35] at H
                                          have c35b0 : ((rd x11_2 x12_2) == a2) = false := beq_eq_false_iff_ne.mpr c35
                                          have c35b1 : ((rd x11_2 x12_2) != a2) = true := bne_iff_ne.mpr c35
                                          by_cases c55 : (rd x11_2 x12_2) = a3
                                          · rw [if_pos c55] at H
                                            have c55b0 : ((rd x11_2 x12_2) == a3) = true := beq_iff_eq.mpr c55
                                            have c55b1 : ((rd x11_2 x12_2) != a3) = false := bne_eq_false_iff_eq.mpr c55
                                            clear c55
                                            by_cases c56 : x14_3 = a2
                                            · rw [if_pos c56] at H
                                              have c56b0 : (x14_3 == a2) = true := beq_iff_eq.mpr c56
                                              have c56b1 : (x14_3 != a2) = false := bne_eq_false_iff_eq.mpr c56
                                              clear c56
                                              have H' := Aside0.mk H
                                              clear H
                                              have hcz57_0 : wr.cell? ⟨gb128, 0, none⟩ = some (.int .i64 a0_0) := (blk_cell BK128.out 0).trans rfl
                                              have hcz57_1 : wr.cell? ⟨gb128, 1, none⟩ = some (.slice A0_1 l0_1.length c0_1) := (blk_cell BK128.out 1).trans rfl
                                              have hfz57_0 := blk_frozen BK128.out 0
                                              have hfz57_1 := blk_frozen BK128.out 1
                                              have p140 : 0 ≤ ((rd x11_2 x12_2) : Int) := of_decide_eq_true (by first | (with_reducible assumption) | assumption)
                                              have q140 : (rd x11_2 x12_2) < (l0_1.length : Int) := of_decide_eq_true (by first | (with_reducible assumption) | assumption)
                                              obtain ⟨ad140, e140, hx140_0⟩ := Kd.at_int HR0_1.out (rd x11_2 x12_2) p140 q140
                                              cases e140
                                              replace hx140_0 := (HB.out.cell (World.block_lt_of_cell? w _ hx140_0)).trans hx140_0
                                              replace p140 := eq_true p140
                                              replace q140 := eq_true q140
                                              have p141 : 0 ≤ (x14_3 : Int) := of_decide_eq_true (by first | (with_reducible assumption) | assumption)
                                              have q141 : x14_3 < (x9_3.length : Int) := of_decide_eq_true (by first | (with_reducible assumption) | assumption)
                                              obtain ⟨ad141, e141, hx141_0⟩ := Kd.at_int (Kd.R_reads' HO_9.out).2.2 x14_3 p141 q141
                                              obtain rfl : (⟨go14, 0, none⟩ : Addr) = ad141 := (by injection e141)
                                              (first | simp only [add_plain] at hx141_0 | simp only [add_at] at hx141_0 | simp only [Addr.add, Nat.zero_add] at hx141_0 | skip)
                                              replace p141 := eq_true p141
                                              replace q141 := eq_true q141
                                              go_wp2
                                              (try simp only [← hl9_3])
                                              go_roundg k3
                                              case measure => have := HK1.out; have := HK2.out; have := HK3.out; omega
                                              case rel => exact ⟨(x9_3), (x11_3), (wrap64 (x14_3 + 1)), (by first | rfl | (simp; done) | (simp [*]; done)), H', ⟨by have := HK1.out; have := HK2.out; have := HK3.out; omega⟩, ⟨by (try simp only [hl9_2]); (try simp only [hl9_3]); (with_reducible repeat (first | apply Kd.R_alloc | apply Kd.R_drewN | apply Kd.R_drew)); exact HO_9.out⟩, ⟨by (try simp only [hl9_2]); (try simp only [hl9_3]); (with_reducible repeat (first | apply Kd.R_alloc | apply Kd.R_drewN | apply Kd.R_drew)); exact HO_11.out⟩, ⟨by (try simp only [hl9_2]); (try simp only [hl9_3]); (with_reducible repeat (first | refine blk_drewN ?_ _ | refine blk_drew ?_ | refine blk_alloc ?_ _)); exact BK128.out⟩, ⟨by repeat (first | (with_reducible first | exact HB.out | apply below_alloc | apply pw_below_drewN | apply below_drew1 | refine below_set ?_ GE128.out) | exact HB.out)⟩⟩
                                              all_goals ((try simp only [← hl9_3]); go_roundg k3; (case measure => have := HK1.out; have := HK2.out; have := HK3.out; omega); (case rel => exact ⟨(x9_3), (x11_3), (wrap64 (x14_3 + 1)), (by first | rfl | (simp; done) | (simp [*]; done)), H', ⟨by have := HK1.out; have := HK2.out; have := HK3.out; omega⟩, ⟨by (try simp only [hl9_2]); (try simp only [hl9_3]); (with_reducible repeat (first | apply Kd.R_alloc | apply Kd.R_drewN | apply Kd.R_drew)); exact HO_9.out⟩, ⟨by (try simp only [hl9_2]); (try simp only [hl9_3]); (with_reducible repeat (first | apply Kd.R_alloc | apply Kd.R_drewN | apply Kd.R_drew)); exact HO_11.out⟩, ⟨by (try simp only [hl9_2]); (try simp only [hl9_3]); (with_reducible repeat (first | refine blk_drewN ?_ _ | refine blk_drew ?_ | refine blk_alloc ?_ _)); exact BK128.out⟩, ⟨by repeat (first | (with_reducible first | exact HB.out | apply below_alloc | apply pw_below_drewN | apply below_drew1 | refine below_set ?_ GE128.out) | exact HB.out)⟩⟩))
                                            · rw [if_neg c56] at H
                                              have c56b0 : (x14_3 == a2) = false := beq_eq_false_iff_ne.mpr c56
                                              have c56b1 : (x14_3 != a2) = true := bne_iff_ne.mpr c56
                                              by_cases c58 : (rd x11_2 x12_2) < (x9_3.length : Int)
                                              · rw [if_pos c58] at H
                                                have c58b0 : decide ((rd x11_2 x12_2) < (x9_3.length : Int)) = true := decide_eq_true c58
                                                clear c58
                                                obtain ⟨y153, hy153⟩ : ∃ y_ : List Int, y_ = (x9_3.set (x14_3 : Int).toNat (wrap64 ((rd x9_3 (rd x11_2 x12_2)) + 1))) := ⟨_, rfl⟩
                                                replace H : (if x11_3.length < 17592186044416 then (spec_l02From.l2 k3 a2 a3 y153 (x11_3 ++ [x14_3]) x12_2 (rd x11_2 x12_2) (wrap64 (x14_3 + 1)) a0_0 l0_1) else (none)) = some r := by first | (rw [hy153]; with_reducible exact H) | (have H2_ := (Option.bind_some _ _).symm.trans H; rw [hy153]; with_reducible exact H2_) | (have H2_ := (Option.bind_some _ _).symm.trans H; with_reducible exact H2_) | with_reducible exact H | (rw [hy153]; exact H) | exact H
                                                have Ny153 := Aside0.mk hy153
                                                clear hy153
                                                by_cases c60 : x11_3.length < 17592186044416
                                                · rw [if_pos c60] at H
                                                  have LMc60 := Aside0.mk c60
                                                  clear c60
                                                  obtain ⟨y154, hy154⟩ : ∃ y_ : List Int, y_ = (x11_3 ++ [x14_3]) := ⟨_, rfl⟩
                                                  replace H : (spec_l02From.l2 k3 a2 a3 y153 y154 x12_2 (rd x11_2 x12_2) (wrap64 (x14_3 + 1)) a0_0 l0_1) = some r := by first | (rw [hy154]; with_reducible exact H) | (have H2_ := (Option.bind_some _ _).symm.trans H; rw [hy154]; with_reducible exact H2_) | (have H2_ := (Option.bind_some _ _).symm.trans H; with_reducible exact H2_) | with_reducible exact H | (rw [hy154]; exact H) | exact H
                                                  have Ny154 := Aside0.mk hy154
                                                  clear hy154
                                                  have H' := Aside0.mk H
                                                  clear H
                                                  have hcz61_0 : wr.cell? ⟨gb128, 0, none⟩ = some (.int .i64 a0_0) := (blk_cell BK128.out 0).trans rfl
                                                  have hcz61_1 : wr.cell? ⟨gb128, 1, none⟩ = some (.slice A0_1 l0_1.length c0_1) := (blk_cell BK128.out 1).trans rfl
                                                  have hfz61_0 := blk_frozen BK128.out 0
                                                  have hfz61_1 := blk_frozen BK128.out 1
                                                  have p140 : 0 ≤ ((rd x11_2 x12_2) : Int) := of_decide_eq_true (by first | (with_reducible assumption) | assumption)
                                                  have q140 : (rd x11_2 x12_2) < (l0_1.length : Int) := of_decide_eq_true (by first | (with_reducible assumption) | assumption)
                                                  obtain ⟨ad140, e140, hx140_0⟩ := Kd.at_int HR0_1.out (rd x11_2 x12_2) p140 q140
                                                  cases e140
                                                  replace hx140_0 := (HB.out.cell (World.block_lt_of_cell? w _ hx140_0)).trans hx140_0
                                                  replace p140 := eq_true p140
                                                  replace q140 := eq_true q140
                                                  have p141 : 0 ≤ (x14_3 : Int) := of_decide_eq_true (by first | (with_reducible assumption) | assumption)
                                                  have q141 : x14_3 < (x9_3.length : Int) := of_decide_eq_true (by first | (with_reducible assumption) | assumption)
                                                  obtain ⟨ad141, e141, hx141_0⟩ := Kd.at_int (Kd.R_reads' HO_9.out).2.2 x14_3 p141 q141
                                                  obtain rfl : (⟨go14, 0, none⟩ : Addr) = ad141 := (by injection e141)
                                                  (first | simp only [add_plain] at hx141_0 | simp only [add_at] at hx141_0 | simp only [Addr.add, Nat.zero_add] at hx141_0 | skip)
                                                  replace p141 := eq_true p141
                                                  replace q141 := eq_true q141
                                                  have p152 : 0 ≤ ((rd x11_2 x12_2) : Int) := of_decide_eq_true (by first | (with_reducible assumption) | assumption)
                                                  have q152 : (rd x11_2 x12_2) < (x9_3.length : Int) := of_decide_eq_true (by first | (with_reducible assumption) | assumption)
                                                  obtain ⟨ad152, e152, hx152_0⟩ := Kd.at_int (Kd.R_reads' HO_9.out).2.2 (rd x11_2 x12_2) p152 q152
                                                  obtain rfl : (⟨go14, 0, none⟩ : Addr) = ad152 := (by injection e152)
                                                  (first | simp only [add_plain] at hx152_0 | simp only [add_at] at hx152_0 | simp only [Addr.add, Nat.zero_add] at hx152_0 | skip)
                                                  replace p152 := eq_true p152
                                                  replace q152 := eq_true q152
                                                  have p59 : 0 ≤ (x14_3 : Int) := of_decide_eq_true (by first | (with_reducible assumption) | assumption)
                                                  have q59 : (x14_3 : Int) < ((x9_3.length : Int) : Int) := of_decide_eq_true (by first | (with_reducible assumption) | assumption)
                                                  obtain ⟨hx59_0, hf59_0⟩ := Kd.R_celln 0 HO_9.out (x14_3 : Int) p59 q59
                                                  replace p59 := eq_true p59
                                                  replace q59 := eq_true q59
                                                  have HP62 := Kd.R_putg HO_9.out (x14_3 : Int) (wrap64 ((rd x9_3 (rd x11_2 x12_2)) + 1))
                                                  go_wp2_with (first | ((with_reducible refine gate_store (t := 2) (p := 90) rfl ?_); refine store_event (t := 2) (p := 90) (v := ?vo_w63) (w1 := (wr.setCell ⟨go14, (x14_3 : Int).toNat, none⟩ (.int .i64 (wrap64 ((rd x9_3 (rd x11_2 x12_2)) + 1))))) ?hg ?ho ?hn ?hr ?_; (case ho => rfl); (case hg => rfl); (case hn => rfl); (case hr => first | (go_simp; done) | (go_simp; rfl)); intro w63 hw; have hg : wr.grownBy w63 (some go14) := (by rw [hw]; exact HP62.2); have hp_ : Kd.R (Kd.int .i64) 2 w63 w.heap.size (fun k_ => some k_ ≠ (u11 : Value).ownBlock) (.slice (some ⟨go14, 0, none⟩) x9_3.length co14) y153 := (by rw [hw, Ny153.out]; exact HP62.1); clear HP62; have n0_ := Aside0.mk (hp_); have n1_ := Aside0.mk (Kd.R_after (v := (.slice (some ⟨go14, 0, none⟩) x9_3.length co14)) (v1 := (.slice (some ⟨go14, 0, none⟩) x9_3.length co14)) (ok := (fun _ => True)) (by (with_reducible repeat (first | apply Kd.R_alloc | apply Kd.R_drewN | apply Kd.R_drew)); exact Kd.R_mono HO_11.out (fun _ hk => ⟨trivial, hk⟩)) hg (.inl rfl)); have n2_ := Aside0.mk (blk_grown (g := gb128) (o := .cells #[.int .i64 a0_0, .slice (some ad140) l0_1.length c0_1] 26 (0, 0)) (by (with_reducible repeat (first | refine blk_drewN ?_ _ | refine blk_drew ?_ | refine blk_alloc ?_ _)); exact BK128.out) hg (Kd.R_ne HO_9.out BK128.out (by decide))); have n3_ := Aside0.mk ((by rw [hw]; exact below_set (HB.out) GB14.out : Below w.heap.size w w63)); clear HO_9; clear HO_11; clear BK128; clear HB; have HO_9 := n0_; have HO_11 := n1_; have BK128 := n2_; have HB := n3_; clear n0_ n1_ n2_ n3_; clear hg hw hp_) | ((with_reducible refine gate_builtin (b := .append) (xs := #[.tmp 91, .tmp 93]) rfl ?_); at_builtin; refine Kd.R_append (Kd.int .i64) (w0 := w) w.heap.size rfl (.tmp 91) (.tmp 93) 24 2 (.int .i64 0) 8 rfl Tryd.underlying24 info2 rfl (by decide) (by omega) u11 x11_3 x14_3 [.int .i64 x14_3] (fun k_ => some k_ ≠ (.slice (some ⟨go14, 0, none⟩) x9_3.length co14 : Value).ownBlock) (fun _ => False) rfl rfl ?aP (fun _ hk => hk.elim) ?aF ?aO ?aB ?aS ?aL ?_; (case aP => exact rfl); (case aB => exact (by repeat (first | (with_reducible first | exact HB.out | apply below_alloc | apply pw_below_drewN | apply below_drew1 | refine below_set ?_ GE128.out) | exact HB.out))); (case aF => exact (fun k_ hk => Kd.fresh' (Kd.R_lt (by (with_reducible repeat (first | apply Kd.R_alloc | apply Kd.R_drewN | apply Kd.R_drew)); exact HO_9.out)) k_ hk)); (case aO => exact (by (with_reducible repeat (first | apply Kd.R_alloc | apply Kd.R_drewN | apply Kd.R_drew)); exact Kd.R_mono HO_11.out (fun _ hk => hk.2))); (case aS => exact (below_size (by repeat (first | (with_reducible first | exact HB.out | apply below_alloc | apply pw_below_drewN | apply below_drew1 | refine below_set ?_ GE128.out) | exact HB.out)))); (case aL => have := LMc60.out; omega); intro v155 w64 ho hb hg hat; rw [← Ny154.out] at ho; have n0_ := Aside0.mk (Kd.R_after (ok := (fun _ => True)) (by (with_reducible repeat (first | apply Kd.R_alloc | apply Kd.R_drewN | apply Kd.R_drew)); exact Kd.R_mono HO_9.out (fun _ hk => ⟨trivial, hk⟩)) hg hat); have n1_ := Aside0.mk (blk_grown (g := gb128) (o := .cells #[.int .i64 a0_0, .slice (some ad140) l0_1.length c0_1] 26 (0, 0)) (by (with_reducible repeat (first | refine blk_drewN ?_ _ | refine blk_drew ?_ | refine blk_alloc ?_ _)); exact BK128.out) hg (Kd.R_ne HO_11.out BK128.out (by decide))); have n2_ := Aside0.mk (hb); have n3_ := Aside0.mk (ho); clear HO_9; clear BK128; clear HB; clear HO_11; have HO_9 := n0_; have BK128 := n1_; have HB := n2_; have HO156 := n3_; clear n0_ n1_ n2_ n3_; clear ho hb hg hat))
                                                  (try simp only [← hl9_3])
                                                  go_roundg k3
                                                  case measure => have := HK1.out; have := HK2.out; have := HK3.out; omega
                                                  case rel => exact ⟨(y153), (y154), (wrap64 (x14_3 + 1)), (by first | rfl | (simp; done) | (simp [*]; done)), H', ⟨by have := HK1.out; have := HK2.out; have := HK3.out; omega⟩, ⟨by (try simp only [hl9_2]); (try simp only [hl9_3]); (with_reducible repeat (first | apply Kd.R_alloc | apply Kd.R_drewN | apply Kd.R_drew)); exact Kd.R_mono HO_9.out (fun _ hk => hk.2)⟩, ⟨by (try simp only [hl9_2]); (try simp only [hl9_3]); (with_reducible repeat (first | apply Kd.R_alloc | apply Kd.R_drewN | apply Kd.R_drew)); exact HO156.out⟩, ⟨by (try simp only [hl9_2]); (try simp only [hl9_3]); (with_reducible repeat (first | refine blk_drewN ?_ _ | refine blk_drew ?_ | refine blk_alloc ?_ _)); exact BK128.out⟩, ⟨by repeat (first | (with_reducible first | exact HB.out | apply below_alloc | apply pw_below_drewN | apply below_drew1 | refine below_set ?_ GE128.out) | exact HB.out)⟩⟩
                                                  all_goals ((try simp only [← hl9_3]); go_roundg k3; (case measure => have := HK1.out; have := HK2.out; have := HK3.out; omega); (case rel => exact ⟨(y153), (y154), (wrap64 (x14_3 + 1)), (by first | rfl | (simp; done) | (simp [*]; done)), H', ⟨by have := HK1.out; have := HK2.out; have := HK3.out; omega⟩, ⟨by (try simp only [hl9_2]); (try simp only [hl9_3]); (with_reducible repeat (first | apply Kd.R_alloc | apply Kd.R_drewN | apply Kd.R_drew)); exact Kd.R_mono HO_9.out (fun _ hk => hk.2)⟩, ⟨by (try simp only [hl9_2]); (try simp only [hl9_3]); (with_reducible repeat (first | apply Kd.R_alloc | apply Kd.R_drewN | apply Kd.R_drew)); exact HO156.out⟩, ⟨by (try simp only [hl9_2]); (try simp only [hl9_3]); (with_reducible repeat (first | refine blk_drewN ?_ _ | refine blk_drew ?_ | refine blk_alloc ?_ _)); exact BK128.out⟩, ⟨by repeat (first | (with_reducible first | exact HB.out | apply below_alloc | apply pw_below_drewN | apply below_drew1 | refine below_set ?_ GE128.out) | exact HB.out)⟩⟩))
                                                · rw [if_neg c60] at H
                                                  exact absurd H (by simp)
                                              · rw [if_neg c58] at H
                                                exact absurd H (by simp)
                                          · rw [if_neg c55] at H
                                            have c55b0 : ((rd x11_2 x12_2) == a3) = false := beq_eq_false_iff_ne.mpr c55
                                            have c55b1 : ((rd x11_2 x12_2) != a3) = true := bne_iff_ne.mpr c55
                                            by_cases c65 : (rd x11_2 x12_2) < (x9_3.length : Int)
                                            · rw [if_pos c65] at H
                                              have c65b0 : decide ((rd x11_2 x12_2) < (x9_3.length : Int)) = true := decide_eq_true c65
                                              clear c65
                                              obtain ⟨y158, hy158⟩ : ∃ y_ : List Int, y_ = (x9_3.set (x14_3 : Int).toNat (wrap64 ((rd x9_3 (rd x11_2 x12_2)) + 1))) := ⟨_, rfl⟩
                                              replace H : (if x11_3.length < 17592186044416 then (spec_l02From.l2 k3 a2 a3 y158 (x11_3 ++ [x14_3]) x12_2 (rd x11_2 x12_2) (wrap64 (x14_3 + 1)) a0_0 l0_1) else (none)) = some r := by first | (rw [hy158]; with_reducible exact H) | (have H2_ := (Option.bind_some _ _).symm.trans H; rw [hy158]; with_reducible exact H2_) | (have H2_ := (Option.bind_some _ _).symm.trans H; with_reducible exact H2_) | with_reducible exact H | (rw [hy158]; exact H) | exact H
                                              have Ny158 := Aside0.mk hy158
                                              clear hy158
                                              by_cases c67 : x11_3.length < 17592186044416
                                              · rw [if_pos c67] at H
                                                have LMc67 := Aside0.mk c67
                                                clear c67
                                                obtain ⟨y159, hy159⟩ : ∃ y_ : List Int, y_ = (x11_3 ++ [x14_3]) := ⟨_, rfl⟩
                                                replace H : (spec_l02From.l2 k3 a2 a3 y158 y159 x12_2 (rd x11_2 x12_2) (wrap64 (x14_3 + 1)) a0_0 l0_1) = some r := by first | (rw [hy159]; with_reducible exact H) | (have H2_ := (Option.bind_some _ _).symm.trans H; rw [hy159]; with_reducible exact H2_) | (have H2_ := (Option.bind_some _ _).symm.trans H; with_reducible exact H2_) | with_reducible exact H | (rw [hy159]; exact H) | exact H
                                                have Ny159 := Aside0.mk hy159
                                                clear hy159
                                                have H' := Aside0.mk H
                                                clear H
                                                have hcz68_0 : wr.cell? ⟨gb128, 0, none⟩ = some (.int .i64 a0_0) := (blk_cell BK128.out 0).trans rfl
                                                have hcz68_1 : wr.cell? ⟨gb128, 1, none⟩ = some (.slice A0_1 l0_1.length c0_1) := (blk_cell BK128.out 1).trans rfl
                                                have hfz68_0 := blk_frozen BK128.out 0
                                                have hfz68_1 := blk_frozen BK128.out 1
                                                have p140 : 0 ≤ ((rd x11_2 x12_2) : Int) := of_decide_eq_true (by first | (with_reducible assumption) | assumption)
                                                have q140 : (rd x11_2 x12_2) < (l0_1.length : Int) := of_decide_eq_true (by first | (with_reducible assumption) | assumption)
                                                obtain ⟨ad140, e140, hx140_0⟩ := Kd.at_int HR0_1.out (rd x11_2 x12_2) p140 q140
                                                cases e140
                                                replace hx140_0 := (HB.out.cell (World.block_lt_of_cell? w _ hx140_0)).trans hx140_0
                                                replace p140 := eq_true p140
                                                replace q140 := eq_true q140
                                                have p141 : 0 ≤ (x14_3 : Int) := of_decide_eq_true (by first | (with_reducible assumption) | assumption)
                                                have q141 : x14_3 < (x9_3.length : Int) := of_decide_eq_true (by first | (with_reducible assumption) | assumption)
                                                obtain ⟨ad141, e141, hx141_0⟩ := Kd.at_int (Kd.R_reads' HO_9.out).2.2 x14_3 p141 q141
                                                obtain rfl : (⟨go14, 0, none⟩ : Addr) = ad141 := (by injection e141)
                                                (first | simp only [add_plain] at hx141_0 | simp only [add_at] at hx141_0 | simp only [Addr.add, Nat.zero_add] at hx141_0 | skip)
                                                replace p141 := eq_true p141
                                                replace q141 := eq_true q141
                                                have p157 : 0 ≤ ((rd x11_2 x12_2) : Int) := of_decide_eq_true (by first | (with_reducible assumption) | assumption)
                                                have q157 : (rd x11_2 x12_2) < (x9_3.length : Int) := of_decide_eq_true (by first | (with_reducible assumption) | assumption)
                                                obtain ⟨ad157, e157, hx157_0⟩ := Kd.at_int (Kd.R_reads' HO_9.out).2.2 (rd x11_2 x12_2) p157 q157
                                                obtain rfl : (⟨go14, 0, none⟩ : Addr) = ad157 := (by injection e157)
                                                (first | simp only [add_plain] at hx157_0 | simp only [add_at] at hx157_0 | simp only [Addr.add, Nat.zero_add] at hx157_0 | skip)
                                                replace p157 := eq_true p157
                                                replace q157 := eq_true q157
                                                have p66 : 0 ≤ (x14_3 : Int) := of_decide_eq_true (by first | (with_reducible assumption) | assumption)
                                                have q66 : (x14_3 : Int) < ((x9_3.length : Int) : Int) := of_decide_eq_true (by first | (with_reducible assumption) | assumption)
                                                obtain ⟨hx66_0, hf66_0⟩ := Kd.R_celln 0 HO_9.out (x14_3 : Int) p66 q66
                                                replace p66 := eq_true p66
                                                replace q66 := eq_true q66
                                                have HP69 := Kd.R_putg HO_9.out (x14_3 : Int) (wrap64 ((rd x9_3 (rd x11_2 x12_2)) + 1))
                                                go_wp2_with (first | ((with_reducible refine gate_store (t := 2) (p := 90) rfl ?_); refine store_event (t := 2) (p := 90) (v := ?vo_w70) (w1 := (wr.setCell ⟨go14, (x14_3 : Int).toNat, none⟩ (.int .i64 (wrap64 ((rd x9_3 (rd x11_2 x12_2)) + 1))))) ?hg ?ho ?hn ?hr ?_; (case ho => rfl); (case hg => rfl); (case hn => rfl); (case hr => first | (go_simp; done) | (go_simp; rfl)); intro w70 hw; have hg : wr.grownBy w70 (some go14) := (by rw [hw]; exact HP69.2); have hp_ : Kd.R (Kd.int .i64) 2 w70 w.heap.size (fun k_ => some k_ ≠ (u11 : Value).ownBlock) (.slice (some ⟨go14, 0, none⟩) x9_3.length co14) y158 := (by rw [hw, Ny158.out]; exact HP69.1); clear HP69; have n0_ := Aside0.mk (hp_); have n1_ := Aside0.mk (Kd.R_after (v := (.slice (some ⟨go14, 0, none⟩) x9_3.length co14)) (v1 := (.slice (some ⟨go14, 0, none⟩) x9_3.length co14)) (ok := (fun _ => True)) (by (with_reducible repeat (first | apply Kd.R_alloc | apply Kd.R_drewN | apply Kd.R_drew)); exact Kd.R_mono HO_11.out (fun _ hk => ⟨trivial, hk⟩)) hg (.inl rfl)); have n2_ := Aside0.mk (blk_grown (g := gb128) (o := .cells #[.int .i64 a0_0, .slice (some ad140) l0_1.length c0_1] 26 (0, 0)) (by (with_reducible repeat (first | refine blk_drewN ?_ _ | refine blk_drew ?_ | refine blk_alloc ?_ _)); exact BK128.out) hg (Kd.R_ne HO_9.out BK128.out (by decide))); have n3_ := Aside0.mk ((by rw [hw]; exact below_set (HB.out) GB14.out : Below w.heap.size w w70)); clear HO_9; clear HO_11; clear BK128; clear HB; have HO_9 := n0_; have HO_11 := n1_; have BK128 := n2_; have HB := n3_; clear n0_ n1_ n2_ n3_; clear hg hw hp_) | ((with_reducible refine gate_builtin (b := .append) (xs := #[.tmp 91, .tmp 93]) rfl ?_); at_builtin; refine Kd.R_append (Kd.int .i64) (w0 := w) w.heap.size rfl (.tmp 91) (.tmp 93) 24 2 (.int .i64 0) 8 rfl Tryd.underlying24 info2 rfl (by decide) (by omega) u11 x11_3 x14_3 [.int .i64 x14_3] (fun k_ => some k_ ≠ (.slice (some ⟨go14, 0, none⟩) x9_3.length co14 : Value).ownBlock) (fun _ => False) rfl rfl ?aP (fun _ hk => hk.elim) ?aF ?aO ?aB ?aS ?aL ?_; (case aP => exact rfl); (case aB => exact (by repeat (first | (with_reducible first | exact HB.out | apply below_alloc | apply pw_below_drewN | apply below_drew1 | refine below_set ?_ GE128.out) | exact HB.out))); (case aF => exact (fun k_ hk => Kd.fresh' (Kd.R_lt (by (with_reducible repeat (first | apply Kd.R_alloc | apply Kd.R_drewN | apply Kd.R_drew)); exact HO_9.out)) k_ hk)); (case aO => exact (by (with_reducible repeat (first | apply Kd.R_alloc | apply Kd.R_drewN | apply Kd.R_drew)); exact Kd.R_mono HO_11.out (fun _ hk => hk.2))); (case aS => exact (below_size (by repeat (first | (with_reducible first | exact HB.out | apply below_alloc | apply pw_below_drewN | apply below_drew1 | refine below_set ?_ GE128.out) | exact HB.out)))); (case aL => have := LMc67.out; omega); intro v160 w71 ho hb hg hat; rw [← Ny159.out] at ho; have n0_ := Aside0.mk (Kd.R_after (ok := (fun _ => True)) (by (with_reducible repeat (first | apply Kd.R_alloc | apply Kd.R_drewN | apply Kd.R_drew)); exact Kd.R_mono HO_9.out (fun _ hk => ⟨trivial, hk⟩)) hg hat); have n1_ := Aside0.mk (blk_grown (g := gb128) (o := .cells #[.int .i64 a0_0, .slice (some ad140) l0_1.length c0_1] 26 (0, 0)) (by (with_reducible repeat (first | refine blk_drewN ?_ _ | refine blk_drew ?_ | refine blk_alloc ?_ _)); exact BK128.out) hg (Kd.R_ne HO_11.out BK128.out (by decide))); have n2_ := Aside0.mk (hb); have n3_ := Aside0.mk (ho); clear HO_9; clear BK128; clear HB; clear HO_11; have HO_9 := n0_; have BK128 := n1_; have HB := n2_; have HO161 := n3_; clear n0_ n1_ n2_ n3_; clear ho hb hg hat))
                                                (try simp only [← hl9_3])
                                                go_roundg k3
                                                case measure => have := HK1.out; have := HK2.out; have := HK3.out; omega
                                                case rel => exact ⟨(y158), (y159), (wrap64 (x14_3 + 1)), (by first | rfl | (simp; done) | (simp [*]; done)), H', ⟨by have := HK1.out; have := HK2.out; have := HK3.out; omega⟩, ⟨by (try simp only [hl9_2]); (try simp only [hl9_3]); (with_reducible repeat (first | apply Kd.R_alloc | apply Kd.R_drewN | apply Kd.R_drew)); exact Kd.R_mono HO_9.out (fun _ hk => hk.2)⟩, ⟨by (try simp only [hl9_2]); (try simp only [hl9_3]); (with_reducible repeat (first | apply Kd.R_alloc | apply Kd.R_drewN | apply Kd.R_drew)); exact HO161.out⟩, ⟨by (try simp only [hl9_2]); (try simp only [hl9_3]); (with_reducible repeat (first | refine blk_drewN ?_ _ | refine blk_drew ?_ | refine blk_alloc ?_ _)); exact BK128.out⟩, ⟨by repeat (first | (with_reducible first | exact HB.out | apply below_alloc | apply pw_below_drewN | apply below_drew1 | refine below_set ?_ GE128.out) | exact HB.out)⟩⟩
                                                all_goals ((try simp only [← hl9_3]); go_roundg k3; (case measure => have := HK1.out; have := HK2.out; have := HK3.out; omega); (case rel => exact ⟨(y158), (y159), (wrap64 (x14_3 + 1)), (by first | rfl | (simp; done) | (simp [*]; done)), H', ⟨by have := HK1.out; have := HK2.out; have := HK3.out; omega⟩, ⟨by (try simp only [hl9_2]); (try simp only [hl9_3]); (with_reducible repeat (first | apply Kd.R_alloc | apply Kd.R_drewN | apply Kd.R_drew)); exact Kd.R_mono HO_9.out (fun _ hk => hk.2)⟩, ⟨by (try simp only [hl9_2]); (try simp only [hl9_3]); (with_reducible repeat (first | apply Kd.R_alloc | apply Kd.R_drewN | apply Kd.R_drew)); exact HO161.out⟩, ⟨by (try simp only [hl9_2]); (try simp only [hl9_3]); (with_reducible repeat (first | refine blk_drewN ?_ _ | refine blk_drew ?_ | refine blk_alloc ?_ _)); exact BK128.out⟩, ⟨by repeat (first | (with_reducible first | exact HB.out | apply below_alloc | apply pw_below_drewN | apply below_drew1 | refine below_set ?_ GE128.out) | exact HB.out)⟩⟩))
                                              · rw [if_neg c67] at H
                                                exact absurd H (by simp)
                                            · rw [if_neg c65] at H
                                              exact absurd H (by simp)
                                    · rw [if_neg c32] at H
                                      exact absurd H (by simp)
                                  · rw [if_neg c31] at H
                                    exact absurd H (by simp)
                              · rw [if_neg c27] at H
                                exact absurd H (by simp)
                            · rw [if_neg c25] at H
                              exact absurd H (by simp)
                          · rw [if_neg c24] at H
                            exact absurd H (by simp)
                        · rw [if_neg c23] at H
                          have c23b0 : decide (x14_3 < a0_0) = false := decide_eq_false c23
                          clear c23
                          have H' := Aside0.mk H
                          clear H
                          have hcz72_0 : wr.cell? ⟨gb128, 0, none⟩ = some (.int .i64 a0_0) := (blk_cell BK128.out 0).trans rfl
                          have hcz72_1 : wr.cell? ⟨gb128, 1, none⟩ = some (.slice A0_1 l0_1.length c0_1) := (blk_cell BK128.out 1).trans rfl
                          have hfz72_0 := blk_frozen BK128.out 0
                          have hfz72_1 := blk_frozen BK128.out 1
                          go_wp2
                          (try simp only [← hl9_2, ← hl9_3])
                          go_roundg k3
                          case measure => have := HK1.out; have := HK2.out; have := HK3.out; omega
                          case rel => exact ⟨(x9_3), (x11_3), (wrap64 (x12_2 + 1)), (by first | rfl | (simp; done) | (simp [*]; done)), H', ⟨by have := HK1.out; have := HK2.out; have := HK3.out; omega⟩, ⟨by (try simp only [hl9_2]); (try simp only [hl9_3]); (with_reducible repeat (first | apply Kd.R_alloc | apply Kd.R_drewN | apply Kd.R_drew)); exact HO_9.out⟩, ⟨by (try simp only [hl9_2]); (try simp only [hl9_3]); (with_reducible repeat (first | apply Kd.R_alloc | apply Kd.R_drewN | apply Kd.R_drew)); exact HO_11.out⟩, ⟨by (try simp only [hl9_2]); (try simp only [hl9_3]); (with_reducible repeat (first | refine blk_drewN ?_ _ | refine blk_drew ?_ | refine blk_alloc ?_ _)); exact BK128.out⟩, ⟨by repeat (first | (with_reducible first | exact HB.out | apply below_alloc | apply pw_below_drewN | apply below_drew1 | refine below_set ?_ GE128.out) | exact HB.out)⟩⟩
                          all_goals ((try simp only [← hl9_2, ← hl9_3]); go_roundg k3; (case measure => have := HK1.out; have := HK2.out; have := HK3.out; omega); (case rel => exact ⟨(x9_3), (x11_3), (wrap64 (x12_2 + 1)), (by first | rfl | (simp; done) | (simp [*]; done)), H', ⟨by have := HK1.out; have := HK2.out; have := HK3.out; omega⟩, ⟨by (try simp only [hl9_2]); (try simp only [hl9_3]); (with_reducible repeat (first | apply Kd.R_alloc | apply Kd.R_drewN | apply Kd.R_drew)); exact HO_9.out⟩, ⟨by (try simp only [hl9_2]); (try simp only [hl9_3]); (with_reducible repeat (first | apply Kd.R_alloc | apply Kd.R_drewN | apply Kd.R_drew)); exact HO_11.out⟩, ⟨by (try simp only [hl9_2]); (try simp only [hl9_3]); (with_reducible repeat (first | refine blk_drewN ?_ _ | refine blk_drew ?_ | refine blk_alloc ?_ _)); exact BK128.out⟩, ⟨by repeat (first | (with_reducible first | exact HB.out | apply below_alloc | apply pw_below_drewN | apply below_drew1 | refine below_set ?_ GE128.out) | exact HB.out)⟩⟩))
                  · rw [if_neg c21] at H
                    exact absurd H (by simp)
                · rw [if_neg c20] at H
                  have c20b0 : decide (x12_2 < (x11_2.length : Int)) = false := decide_eq_false c20
                  clear c20
                  obtain rfl := Option.some.inj H
                  obtain ⟨Ao73, co73, eo73⟩ := Kd.R_slice HO_11.out
                  subst eo73
                  go_wp2
                  go_ret
                  exact ⟨_, by first | rfl | (simp [errW_none, errW_some] <;> rfl) | (simp [*, errW_none, errW_some] <;> rfl), by (with_reducible repeat (first | apply Kd.R_alloc | apply Kd.R_drewN | apply Kd.R_drew)); exact Kd.R_mono HO_9.out (fun _ hk => trivial), by repeat (first | (with_reducible first | exact HB.out | apply below_alloc | apply pw_below_drewN | apply below_drew1 | refine below_set ?_ GE128.out) | exact HB.out)⟩
          · rw [if_neg c13] at H
            exact absurd H (by simp)
        · rw [if_neg c12] at H
          exact absurd H (by simp)

end Go.Proofs.YtggbhpjakakgeaaDoor.XFnExactCountShortest
