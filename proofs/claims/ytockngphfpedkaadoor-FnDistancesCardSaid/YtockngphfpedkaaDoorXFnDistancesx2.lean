-- Written by this project's own program (mprint.py) by means of the kit's printer: with contracts of its own for the functions that the printer leaves out.
import Derived.Test.YtockngphfpedkaaDoorXFnDistancesx0
import Derived.Test.YtockngphfpedkaaDoorXFnDistancesx1
namespace Go.Proofs.YtockngphfpedkaaDoor.XFnDistances
open Go.RowKit Go.Proofs.YtockngphfpedkaaDoorW.PrintWords Go.Proofs.YtockngphfpedkaaDoorW.PrintLast Go.Proofs.YtockngphfpedkaaDoorW.PrintMore
attribute [local go_sem] max2_int min2_int max_two min_two max_three min_three max_four min_four   -- for this text's walks alone
set_option linter.unusedVariables false
set_option linter.unusedSimpArgs false

/-! ### spec_l01Jumps: function 103 -/
def spec_l01Jumps.l0 : Nat → Int → List Int → Int → Int → List Int → Option (Int × List Int)
  | 0, _, _, _, _, _ => none
  | k + 1, x0, x1, x6, x120000, x120001 => if x6 < x0 then (if x0 = 0 then (none) else ((spec_l01Put.f x120000 x120001 x6 (Int.tmod (wrap64 (x6 + 1)) x0)).bind fun t120 => (if (x1.length : Int) > 0 then (if (x1.length : Int) = 0 then (none) else (if 0 ≤ (Int.tmod x6 (x1.length : Int)) then (if (Int.tmod x6 (x1.length : Int)) < (x1.length : Int) then ((spec_l01Put.f x120000 t120 x6 (Int.tmod (wrap64 (x6 + (rd x1 (Int.tmod x6 (x1.length : Int))))) x0)).bind fun t122 => (spec_l01Jumps.l0 k x0 x1 (wrap64 (x6 + 1)) x120000 t122)) else (none)) else (none))) else (spec_l01Jumps.l0 k x0 x1 (wrap64 (x6 + 1)) x120000 t120)))) else (some (x120000, x120001))
def spec_l01Jumps.f (k : Nat) (a0 : Int) (l1 : List Int) : Option (Int × List Int) := (spec_l01Empty.f a0).bind fun bt115 => (spec_l01Jumps.l0 k a0 l1 0 bt115.1 bt115.2)
theorem spec_l01Jumps.mono_l : ∀ k, (∀ y0 y1 y2 y3 y4, LeO (spec_l01Jumps.l0 k y0 y1 y2 y3 y4) (spec_l01Jumps.l0 (k + 1) y0 y1 y2 y3 y4))
  | 0 => fun _ _ _ _ _ r h => by simp [spec_l01Jumps.l0] at h
  | k + 1 => by
    have ih0 := spec_l01Jumps.mono_l k
    · intro y0 y1 y2 y3 y4
      unfold spec_l01Jumps.l0
      repeat' first
      | (with_reducible exact ih0 _ _ _ _ _)
      | (with_reducible exact LeO.refl _)
      | (with_reducible exact LeO.none _)
      | (with_reducible refine LeO.ite ?_ ?_)
      | (with_reducible refine LeO.bind ?_ (fun _ => ?_))
      | exact ih0 _ _ _ _ _
      | exact LeO.none _
      | refine LeO.ite ?_ ?_
      | refine LeO.bind ?_ (fun _ => ?_)
theorem spec_l01Jumps.mono : ∀ a0 a1 k, LeO (spec_l01Jumps.f k a0 a1) (spec_l01Jumps.f (k + 1) a0 a1) := by
  intro a0 a1 k
  have ih0 := spec_l01Jumps.mono_l k
  unfold spec_l01Jumps.f
  repeat' first
      | (with_reducible exact ih0 _ _ _ _ _)
      | (with_reducible exact LeO.refl _)
      | (with_reducible exact LeO.none _)
      | (with_reducible refine LeO.ite ?_ ?_)
      | (with_reducible refine LeO.bind ?_ (fun _ => ?_))
      | exact ih0 _ _ _ _ _
      | exact LeO.none _
      | refine LeO.ite ?_ ?_
      | refine LeO.bind ?_ (fun _ => ?_)
def spec_l01Jumps.T7 : Bool × List (List Nat × List Nat) := (true, [([], []), ([], []), ([], []), ([], []), ([], []), ([], []), ([5], [5]), ([4, 6], [4, 6]), ([3, 7], [3, 7]), ([8], [8]), ([2, 9], [2, 9]), ([], []), ([10, 11], [10, 11]), ([0, 1, 12], [0, 1, 12])])
def spec_l01Jumps.B7 : List Nat := [0, 0, 0, 0, 0, 0, 32, 112, 248, 504, 1020, 0, 4092, 8191]
theorem spec_l01Jumps.tab7 : rtab .any (opsOf Tryd.f103 7) = spec_l01Jumps.T7 := by kernel_rfl
theorem spec_l01Jumps.bits7 : waitsOk spec_l01Jumps.T7.2 spec_l01Jumps.B7 = true := by kernel_rfl
set_option maxHeartbeats 8000000 in
set_option maxRecDepth 100000 in
theorem spec_l01Jumps.calls (k : Nat) (a0 : Int) (A1 : Option Addr) (c1 : Nat) (l1 : List Int) (r1 : Int) (r2 : List Int) (w : World) (hr1 : Kd.C (Kd.int .i64) w A1 l1.length l1) (hc1 : l1.length ≤ c1) (h : spec_l01Jumps.f k a0 l1 = some (r1, r2)) :
    Calls Tryd.prog 103 #[.int .i64 a0, .slice A1 l1.length c1] w fun e w' => ∃ v1_ : Value, e = .returned (.agg #[.int .i64 r1, v1_]) ∧ Kd.R (Kd.int .i64) 2 w' w.heap.size (fun _ => True) v1_ r2 ∧ Below w.heap.size w w' := by
  have hu26 := Tryd.underlying26
  have HR1 := Fa.mk hr1
  have HC1 := Fa.mk hc1
  clear hr1 hc1
  have HB := Fa.mk (Below.refl w.heap.size w)
  have H : ((spec_l01Empty.f a0).bind fun bt115 => (spec_l01Jumps.l0 k a0 l1 0 bt115.1 bt115.2)) = some (r1, r2) := h
  clear h
  replace H := Option.bind_eq_some_iff.mp H
  obtain ⟨⟨t115, t116⟩, A30, H⟩ := H
  dsimp only at H
  have A3 := Fa.mk A30
  clear A30
  have H' := Fa.mk H
  clear H
  go_enter Tryd.func103, Tryd.ntmps103
  go_wp2_with (first | ((with_reducible refine gd 4 rfl ?_); refine box_event ?hg (N := 4) ?hd (cs := #[.int .i64 0, .slice none 0 0]) (t := 26) ?hr ?_; (case hd => rfl); (case hg => rfl); (case hr => first | (go_simp; done) | (go_simp; rfl)); intro gb114 hg w4 hbox hb; have BK114 := Fa.mk hbox; have GW114 := Fa.mk (bsz hg (BU HB) : w.heap.size ≤ gb114); have GE114 := GW114; replace HB := Fa.mk (below_step (BU HB) hb); clear hb hbox hg) | ((with_reducible refine gc 68 rfl ?_); refine gL 8 Tryd.func68 #[.int .i64 a0] rfl (by first | rfl | (simp only [mA, mC, mN]; rfl)) ?_; (with_reducible refine (spec_l01Empty.calls a0 t115 t116 _ A3.out).mono ?_); rintro e w5 ⟨v117, rfl, ho0, hb⟩; refine ⟨_, rfl, ?_⟩; have HO118 := Fa.mk (Kd.R_lower ho0 (below_size (BU HB))); replace BK114 := Fa.mk (blk_below (bU BK114) hb); replace HB := Fa.mk (below_step (BU HB) hb)) | ((with_reducible refine gd 5 rfl ?_); refine box_event ?hg (N := 5) ?hd (cs := #[.int .i64 0, .slice none 0 0]) (t := 26) ?hr ?_; (case hd => rfl); (case hg => rfl); (case hr => first | (go_simp; done) | (go_simp; rfl)); intro gb119 hg w6 hbox hb; replace HO118 := Fa.mk (Kd.R_below (rU HO118) hb); have BK119 := Fa.mk hbox; have GW119 := Fa.mk (bsz hg (BU HB) : w.heap.size ≤ gb119); have GE119 := GW119; have NB114_119 := Fa.mk ((by rw [hg]; exact Nat.ne_of_lt (blk_lt (bU BK114)) : gb114 ≠ gb119)); have NB119_114 := Fa.mk ((by rw [hg]; exact Nat.ne_of_gt (blk_lt (bU BK114)) : gb119 ≠ gb114)); replace BK114 := Fa.mk (blk_below (bU BK114) hb); replace HB := Fa.mk (below_step (BU HB) hb); clear hb hbox hg; have hnb7 := NB119_114.out; have hnc7 := NB114_119.out; obtain ⟨hcz8_0, hcz8_1, hfz8_0, hfz8_1⟩ := cz2 BK119.out; obtain ⟨Ao9, co9, eo9⟩ := Kd.R_slice HO118.out; subst eo9))
  go_loopg [6] k (fun kq v6 w' => ∃ (x6_1 : Int) (x120001_1 : List Int) (u120001 : Value), v6 = .int .i64 x6_1 ∧ Fa (spec_l01Jumps.l0 kq a0 l1 x6_1 t115 x120001_1 = some (r1, r2)) ∧ Fa (kq ≤ k) ∧ Fa (Kd.R (Kd.int .i64) 2 w' w.heap.size (fun _ => True) u120001 x120001_1) ∧ Fa (w'.heap[gb114]? = some (.cells #[.int .i64 0, (.slice none 0 0)] 26 (0, 0))) ∧ Fa (w'.heap[gb119]? = some (.cells #[.int .i64 t115, u120001] 26 (0, 0))) ∧ Fa (Below w.heap.size w w'))
  case atStart => exact ⟨(0), (t116), (.slice Ao9 t116.length co9), rfl, H', ⟨Nat.le_refl _⟩, ⟨by (with_reducible repeat (first | apply Kd.R_alloc | apply Kd.R_drewN | apply Kd.R_drew)); exact Kd.R_mono (Kd.R_far (p := ⟨gb119, 1, none⟩) (Kd.R_far (p := ⟨gb119, 0, none⟩) (Kd.R_types HO118.out BK119.out (by decide)) (fun _ hk => hk.2) (.int .i64 t115)) (fun _ hk => hk.2) (.slice Ao9 t116.length co9)) (fun _ hk => trivial)⟩, ⟨by (with_reducible repeat (first | refine blk_drewN ?_ _ | refine blk_drew ?_ | refine blk_alloc ?_ _)); refine blk_far ?_ NB114_119.out _; (with_reducible repeat (first | refine blk_drewN ?_ _ | refine blk_drew ?_ | refine blk_alloc ?_ _)); refine blk_far ?_ NB114_119.out _; (with_reducible repeat (first | refine blk_drewN ?_ _ | refine blk_drew ?_ | refine blk_alloc ?_ _)); exact BK114.out⟩, ⟨oo⟩, ⟨BU HB⟩⟩
  case round =>
    clear H'
    obtain ⟨x6_1, x120001_1, u120001, rfl, HA, HK1, HO_120001, BK114, BK119, HB⟩ := hrel
    cases gk with
    | zero => exact absurd HA.out (by simp [spec_l01Jumps.l0])
    | succ k1 =>
      have H := HA.out
      clear HA
      simp only [spec_l01Jumps.l0] at H
      by_cases c10 : x6_1 < a0
      · rw [if_pos c10] at H
        have c10b0 := decide_eq_true c10
        clear c10
        by_cases c11 : a0 = 0
        · rw [if_pos c11] at H
          exact absurd H (by simp)
        · rw [if_neg c11] at H
          have c11b0 := beq_eq_false_iff_ne.mpr c11
          have c11b1 := bne_iff_ne.mpr c11
          replace H := Option.bind_eq_some_iff.mp H
          obtain ⟨t120, A120, H⟩ := H
          replace H : (if (l1.length : Int) > 0 then (if (l1.length : Int) = 0 then (none) else (if 0 ≤ (Int.tmod x6_1 (l1.length : Int)) then (if (Int.tmod x6_1 (l1.length : Int)) < (l1.length : Int) then ((spec_l01Put.f t115 t120 x6_1 (Int.tmod (wrap64 (x6_1 + (rd l1 (Int.tmod x6_1 (l1.length : Int))))) a0)).bind fun t122 => (spec_l01Jumps.l0 k1 a0 l1 (wrap64 (x6_1 + 1)) t115 t122)) else (none)) else (none))) else (spec_l01Jumps.l0 k1 a0 l1 (wrap64 (x6_1 + 1)) t115 t120)) = some (r1, r2) := H
          have A12 := Fa.mk A120
          clear A120
          by_cases c13 : (l1.length : Int) > 0
          · rw [if_pos c13] at H
            have c13b0 := decide_eq_true c13
            have c13b1 : decide (0 < l1.length) = true := decide_eq_true (by omega)
            clear c13
            by_cases c14 : (l1.length : Int) = 0
            · rw [if_pos c14] at H
              exact absurd H (by simp)
            · rw [if_neg c14] at H
              have c14b0 := beq_eq_false_iff_ne.mpr c14
              have c14b1 := bne_iff_ne.mpr c14
              have c14b2 : ¬ (l1 = []) := fun h_ => c14 (by rw [h_]; rfl)
              obtain ⟨ji15, hji15⟩ : ∃ j_ : Int, (Int.tmod x6_1 (l1.length : Int)) = j_ := ⟨_, rfl⟩
              rw [hji15] at H
              (try rw [hji15] at A12)
              by_cases c16 : 0 ≤ (ji15)
              · rw [if_pos c16] at H
                have c16b0 := decide_eq_true c16
                clear c16
                by_cases c17 : (ji15) < (l1.length : Int)
                · rw [if_pos c17] at H
                  have c17b0 := decide_eq_true c17
                  clear c17
                  replace H := Option.bind_eq_some_iff.mp H
                  obtain ⟨t122, A180, H⟩ := H
                  replace H : (spec_l01Jumps.l0 k1 a0 l1 (wrap64 (x6_1 + 1)) t115 t122) = some (r1, r2) := H
                  have A18 := Fa.mk A180
                  clear A180
                  have H' := Fa.mk H
                  clear H
                  try go_wp2
                  replace HO_120001 := Fa.mk (Kd.R_drew HO_120001.out); replace BK114 := Fa.mk (blk_drew BK114.out); replace BK119 := Fa.mk (blk_drew BK119.out); replace HB := Fa.mk (below_drew1 HB.out)
                  obtain ⟨Ao20, co20, eo20⟩ := Kd.R_slice HO_120001.out
                  (first | subst eo20 | (injection eo20 with f1_ f2_ f3_; have f4_ := f1_.symm; have f5_ := f3_.symm; clear f1_ f2_ f3_; subst f4_; subst f5_))
                  refine start_ (n := 7) (S := fun w' => w'.cell? ⟨gb119, 0, none⟩ = some (.int .i64 t115) ∧ w'.cell? ⟨gb119, 1, none⟩ = some (.slice Ao20 x120001_1.length co20)) (ds := []) #[ff, ff, ff, ff, ff, ff, ff] (by kernel_rfl) rfl rfl ⟨(blk_cell BK119.out 0).trans rfl, (blk_cell BK119.out 1).trans rfl⟩ (fun hHeld => ?_)
                  generalize wr.drew = w19 at HO_120001 BK114 BK119 HB hHeld ⊢
                  refine pu 1 15 ?_ #[ff, tt, ff, ff, ff, ff, ff] rfl rfl (by kernel_rfl) (Or.inl ⟨by rfl, ?_⟩) ?_ ?_ ?_; rotate_left; intro w'; go_simp; with_reducible rfl; rotate_left; simp only [Act.put, sA, sZ, sC, i64_w, i32_w]; rfl
                  refine pu 2 16 ?_ #[ff, tt, tt, ff, ff, ff, ff] rfl rfl (by kernel_rfl) (Or.inl ⟨by rfl, ?_⟩) ?_ ?_ ?_; rotate_left; intro w'; go_simp; with_reducible rfl; rotate_left; simp only [Act.put, sA, sZ, sC, i64_w, i32_w]; rfl
                  refine pu 3 17 ?_ #[ff, tt, tt, tt, ff, ff, ff] rfl rfl (by kernel_rfl) (Or.inl ⟨by rfl, ?_⟩) ?_ ?_ ?_; rotate_left; intro w'; go_simp; with_reducible rfl; rotate_left; simp only [Act.put, sA, sZ, sC, i64_w, i32_w]; rfl
                  refine pu 4 18 ?_ #[ff, tt, tt, tt, tt, ff, ff] rfl rfl (by kernel_rfl) (Or.inl ⟨by rfl, ?_⟩) ?_ ?_ ?_; rotate_left; intro w'; go_simp; with_reducible rfl; rotate_left; simp only [Act.put, sA, sZ, sC, i64_w, i32_w]; rfl
                  refine pu 5 19 ?_ #[ff, tt, tt, tt, tt, tt, ff] rfl rfl (by kernel_rfl) (Or.inl ⟨by rfl, ?_⟩) ?_ ?_ ?_; rotate_left; intro w'; go_simp; with_reducible rfl; rotate_left; simp only [Act.put, sA, sZ, sC, i64_w, i32_w]; rfl
                  refine tk 0 14 ?_ #[tt, tt, tt, tt, tt, tt, ff] rfl rfl (by kernel_rfl) (Or.inl ⟨by rfl, ?_⟩) hHeld ?_ ?_ ?_; rotate_left; rintro w' ⟨s0, s1⟩; go_simp; with_reducible rfl; rotate_left; simp only [Act.put, sA, sZ, sC, i64_w, i32_w]; rfl
                  refine one_ (i := 6) (N := some 20) #[tt, tt, tt, tt, tt, tt, tt] rfl rfl (by kernel_rfl) (by decide) (fun K hK => ?_)
                  refine goes_ Tryd.func86 (by kernel_rfl) rfl #[.agg #[.int .i64 t115, .slice Ao20 x120001_1.length co20], .int .i64 x6_1, .int .i64 (Int.tmod (wrap64 (x6_1 + 1)) a0)] (by rfl) rfl rfl (by first | rfl | (simp only [mA, mC, mN]; rfl)) ?_
                  with_reducible refine (spec_l01Put.calls t115 (fun k_ => some k_ = (.slice Ao20 x120001_1.length co20 : Value).ownBlock) (.slice Ao20 x120001_1.length co20) x120001_1 x6_1 (Int.tmod (wrap64 (x6_1 + 1)) a0) t120 w _ ?side1 ?side2 A12.out).mono ?_
                  (case side1 => exact BU HB)
                  (case side2 => exact Kd.R_tight rfl HO_120001.out)
                  rintro e w21 ⟨rfl, hy0, hb, hkp⟩
                  refine ⟨_, rfl, ?_⟩
                  replace BK114 := Fa.mk (blk_kept (bU BK114) hkp (fun hs_ => (fun e_ => (Kd.R_ne HO_120001.out BK114.out (by decide)) e_) hs_)); replace BK119 := Fa.mk (blk_kept (bU BK119) hkp (fun hs_ => (fun e_ => (Kd.R_ne HO_120001.out BK119.out (by decide)) e_) hs_)); replace HO_120001 := Fa.mk (Kd.R_reok rfl hy0 (fun k_ e_ => HO_120001.out.1 k_ e_)); replace HB := Fa.mk hb
                  refine hK.out _ _ ⟨(blk_cell BK119.out 0).trans rfl, (blk_cell BK119.out 1).trans rfl⟩ (fun hHeld => ?_)
                  clear hK K
                  refine norm_ (a' := ?_) ?_ ?_
                  rotate_left
                  · show Act.put _ (some 20) _ = _
                    simp only [Act.put, sA, sZ, sC, i64_w, i32_w]
                    rfl
                  refine done_ (by kernel_rfl) ?_
                  try go_wp2
                  replace HO_120001 := Fa.mk (Kd.R_drew HO_120001.out); replace BK114 := Fa.mk (blk_drew BK114.out); replace BK119 := Fa.mk (blk_drew BK119.out); replace HB := Fa.mk (below_drew1 HB.out)
                  have p121 : 0 ≤ ((ji15) : Int) := of_decide_eq_true (by assumption)
                  have q121 : (ji15) < (l1.length : Int) := of_decide_eq_true (by assumption)
                  obtain ⟨ad121, e121, hx121_0⟩ := Kd.at_int HR1.out (ji15) p121 q121
                  have hw121_0 := hx121_0
                  cases e121
                  replace hx121_0 := (HB.out.cell (World.block_lt_of_cell? w _ hx121_0)).trans hx121_0
                  replace p121 := eq_true p121
                  replace q121 := eq_true q121
                  refine start_ (n := 14) (S := fun w' => w'.cell? ⟨gb119, 0, none⟩ = some (.int .i64 t115) ∧ w'.cell? ⟨gb119, 1, none⟩ = some (.slice Ao20 x120001_1.length co20) ∧ w'.cell? (ad121.add ((ji15)).toNat) = some (.int .i64 (rd l1 (ji15)))) (ds := []) #[ff, ff, ff, ff, ff, ff, ff, ff, ff, ff, ff, ff, ff, ff] (by kernel_rfl) rfl rfl ⟨(blk_cell BK119.out 0).trans rfl, (blk_cell BK119.out 1).trans rfl, ((HB.out.cell (World.block_lt_of_cell? _ _ hw121_0)).trans hw121_0)⟩ (fun hHeld => ?_); refine with_tabW spec_l01Jumps.tab7 spec_l01Jumps.bits7 (fun HT_ HW_ => ?_)
                  generalize w21.drew = w22 at HO_120001 BK114 BK119 HB hx121_0 hHeld ⊢
                  refine pu 1 25 ?_ #[ff, tt, ff, ff, ff, ff, ff, ff, ff, ff, ff, ff, ff, ff] rfl rfl (any_of HT_.out (by kernel_rfl)) (Or.inl ⟨by rfl, ?_⟩) ?_ ?_ ?_; rotate_left; intro w'; go_simp; with_reducible rfl; rotate_left; simp only [Act.put, sA, sZ, sC, i64_w, i32_w]; rfl
                  refine pu 2 26 ?_ #[ff, tt, tt, ff, ff, ff, ff, ff, ff, ff, ff, ff, ff, ff] rfl rfl (any_of HT_.out (by kernel_rfl)) (Or.inl ⟨by rfl, ?_⟩) ?_ ?_ ?_; rotate_left; intro w'; go_simp; with_reducible rfl; rotate_left; simp only [Act.put, sA, sZ, sC, i64_w, i32_w]; rfl
                  refine pu 3 27 ?_ #[ff, tt, tt, tt, ff, ff, ff, ff, ff, ff, ff, ff, ff, ff] rfl rfl (any_of HT_.out (by kernel_rfl)) (Or.inl ⟨by rfl, ?_⟩) ?_ ?_ ?_; rotate_left; intro w'; go_simp; with_reducible rfl; rotate_left; simp only [Act.put, sA, sZ, sC, i64_w, i32_w]; rfl
                  refine pu 4 28 ?_ #[ff, tt, tt, tt, tt, ff, ff, ff, ff, ff, ff, ff, ff, ff] rfl rfl (any_of HT_.out (by kernel_rfl)) (Or.inl ⟨by rfl, ?_⟩) ?_ ?_ ?_; rotate_left; intro w'; go_simp; with_reducible rfl; rotate_left; simp only [Act.put, sA, sZ, sC, i64_w, i32_w]; rfl
                  refine pu 5 29 ?_ #[ff, tt, tt, tt, tt, tt, ff, ff, ff, ff, ff, ff, ff, ff] rfl rfl (any_of HT_.out (by kernel_rfl)) (Or.inl ⟨by rfl, ?_⟩) ?_ ?_ ?_; rotate_left; intro w'; go_simp; with_reducible rfl; rotate_left; simp only [Act.put, sA, sZ, sC, i64_w, i32_w]; rfl
                  refine pu 6 30 ?_ #[ff, tt, tt, tt, tt, tt, tt, ff, ff, ff, ff, ff, ff, ff] rfl rfl (any_of HT_.out (by kernel_rfl)) (Or.inl ⟨by rfl, ?_⟩) ?_ ?_ ?_; rotate_left; intro w'; go_simp; with_reducible rfl; rotate_left; simp only [Act.put, sA, sZ, sC, i64_w, i32_w]; rfl
                  refine pu 7 31 ?_ #[ff, tt, tt, tt, tt, tt, tt, tt, ff, ff, ff, ff, ff, ff] rfl rfl (any_of HT_.out (by kernel_rfl)) (Or.inl ⟨by rfl, ?_⟩) ?_ ?_ ?_; rotate_left; intro w'; go_simp; with_reducible rfl; rotate_left; simp only [Act.put, sA, sZ, sC, i64_w, i32_w]; rfl
                  refine pu 8 32 ?_ #[ff, tt, tt, tt, tt, tt, tt, tt, tt, ff, ff, ff, ff, ff] rfl rfl (any_of HT_.out (by kernel_rfl)) (Or.inl ⟨by rfl, ?_⟩) ?_ ?_ ?_; rotate_left; intro w'; go_simp; with_reducible rfl; rotate_left; simp only [Act.put, sA, sZ, sC, i64_w, i32_w]; rfl
                  refine pu 11 35 ?_ #[ff, tt, tt, tt, tt, tt, tt, tt, tt, ff, ff, tt, ff, ff] rfl rfl (any_of HT_.out (by kernel_rfl)) (Or.inl ⟨by rfl, ?_⟩) ?_ ?_ ?_; rotate_left; intro w'; go_simp; with_reducible rfl; rotate_left; simp only [Act.put, sA, sZ, sC, i64_w, i32_w]; rfl
                  refine tk 0 24 ?_ #[tt, tt, tt, tt, tt, tt, tt, tt, tt, ff, ff, tt, ff, ff] rfl rfl (take_ofW HT_.out HW_.out (by kernel_rfl)) (Or.inl ⟨by rfl, ?_⟩) hHeld ?_ ?_ ?_; rotate_left; rintro w' ⟨s0, s1, s2⟩; go_simp; with_reducible rfl; rotate_left; simp only [Act.put, sA, sZ, sC, i64_w, i32_w]; rfl
                  refine tk 9 33 ?_ #[tt, tt, tt, tt, tt, tt, tt, tt, tt, tt, ff, tt, ff, ff] rfl rfl (take_ofW HT_.out HW_.out (by kernel_rfl)) (Or.inl ⟨by rfl, ?_⟩) hHeld ?_ ?_ ?_; rotate_left; rintro w' ⟨s0, s1, s2⟩; go_simp; with_reducible rfl; rotate_left; simp only [Act.put, sA, sZ, sC, i64_w, i32_w]; rfl
                  refine pu 10 34 ?_ #[tt, tt, tt, tt, tt, tt, tt, tt, tt, tt, tt, tt, ff, ff] rfl rfl (any_of HT_.out (by kernel_rfl)) (Or.inl ⟨by rfl, ?_⟩) ?_ ?_ ?_; rotate_left; intro w'; go_simp; with_reducible rfl; rotate_left; simp only [Act.put, sA, sZ, sC, i64_w, i32_w]; rfl
                  refine pu 12 36 ?_ #[tt, tt, tt, tt, tt, tt, tt, tt, tt, tt, tt, tt, tt, ff] rfl rfl (any_of HT_.out (by kernel_rfl)) (Or.inl ⟨by rfl, ?_⟩) ?_ ?_ ?_; rotate_left; intro w'; go_simp; with_reducible rfl; rotate_left; simp only [Act.put, sA, sZ, sC, i64_w, i32_w]; rfl
                  refine one_ (i := 13) (N := some 37) #[tt, tt, tt, tt, tt, tt, tt, tt, tt, tt, tt, tt, tt, tt] rfl rfl (one_of HT_.out (by kernel_rfl)) (by decide) (fun K hK => ?_)
                  refine goes_ Tryd.func86 (by kernel_rfl) rfl #[.agg #[.int .i64 t115, .slice Ao20 x120001_1.length co20], .int .i64 x6_1, .int .i64 (Int.tmod (wrap64 (x6_1 + (rd l1 (ji15)))) a0)] (by rfl) rfl rfl (by (try simp only [List.map_toArray, List.map_cons, List.map_nil]); first | done | (simp only [hji15]; rfl) | rfl | (simp only [List.length_drop, List.length_take]; rfl)) ?_
                  with_reducible refine (spec_l01Put.calls t115 (fun k_ => some k_ = (.slice Ao20 x120001_1.length co20 : Value).ownBlock) (.slice Ao20 x120001_1.length co20) t120 x6_1 (Int.tmod (wrap64 (x6_1 + (rd l1 (ji15)))) a0) t122 w _ ?side1 ?side2 A18.out).mono ?_
                  (case side1 => exact BU HB)
                  (case side2 => exact Kd.R_tight rfl HO_120001.out)
                  rintro e w23 ⟨rfl, hy0, hb, hkp⟩
                  refine ⟨_, rfl, ?_⟩
                  replace BK114 := Fa.mk (blk_kept (bU BK114) hkp (fun hs_ => (fun e_ => (Kd.R_ne HO_120001.out BK114.out (by decide)) e_) hs_)); replace BK119 := Fa.mk (blk_kept (bU BK119) hkp (fun hs_ => (fun e_ => (Kd.R_ne HO_120001.out BK119.out (by decide)) e_) hs_)); replace HO_120001 := Fa.mk (Kd.R_reok rfl hy0 (fun k_ e_ => HO_120001.out.1 k_ e_)); replace HB := Fa.mk hb
                  refine hK.out _ _ ⟨(blk_cell BK119.out 0).trans rfl, (blk_cell BK119.out 1).trans rfl, ((HB.out.cell (World.block_lt_of_cell? _ _ hw121_0)).trans hw121_0)⟩ (fun hHeld => ?_)
                  clear hK K
                  refine norm_ (a' := ?_) ?_ ?_
                  rotate_left
                  · show Act.put _ (some 37) _ = _
                    simp only [Act.put, sA, sZ, sC, i64_w, i32_w]
                    rfl
                  refine done_ (done_of HT_.out (by kernel_rfl)) ?_
                  try go_wp2
                  go_roundg k1
                  case measure => have := HK1.out; omega
                  case rel => exact ⟨(wrap64 (x6_1 + 1)), (t122), (.slice Ao20 x120001_1.length co20), rfl, H', ⟨by have := HK1.out; omega⟩, ⟨rU HO_120001⟩, ⟨bU BK114⟩, ⟨bU BK119⟩, ⟨BU HB⟩⟩
                · rw [if_neg c17] at H
                  exact absurd H (by simp)
              · rw [if_neg c16] at H
                exact absurd H (by simp)
          · rw [if_neg c13] at H
            have c13b0 := decide_eq_false c13
            have c13b1 : decide (0 < l1.length) = false := decide_eq_false (by omega)
            clear c13
            have H' := Fa.mk H
            clear H
            try go_wp2
            replace HO_120001 := Fa.mk (Kd.R_drew HO_120001.out); replace BK114 := Fa.mk (blk_drew BK114.out); replace BK119 := Fa.mk (blk_drew BK119.out); replace HB := Fa.mk (below_drew1 HB.out)
            obtain ⟨Ao25, co25, eo25⟩ := Kd.R_slice HO_120001.out
            (first | subst eo25 | (injection eo25 with f1_ f2_ f3_; have f4_ := f1_.symm; have f5_ := f3_.symm; clear f1_ f2_ f3_; subst f4_; subst f5_))
            refine start_ (n := 7) (S := fun w' => w'.cell? ⟨gb119, 0, none⟩ = some (.int .i64 t115) ∧ w'.cell? ⟨gb119, 1, none⟩ = some (.slice Ao25 x120001_1.length co25)) (ds := []) #[ff, ff, ff, ff, ff, ff, ff] (by kernel_rfl) rfl rfl ⟨(blk_cell BK119.out 0).trans rfl, (blk_cell BK119.out 1).trans rfl⟩ (fun hHeld => ?_)
            generalize wr.drew = w24 at HO_120001 BK114 BK119 HB hHeld ⊢
            refine pu 1 15 ?_ #[ff, tt, ff, ff, ff, ff, ff] rfl rfl (by kernel_rfl) (Or.inl ⟨by rfl, ?_⟩) ?_ ?_ ?_; rotate_left; intro w'; go_simp; with_reducible rfl; rotate_left; simp only [Act.put, sA, sZ, sC, i64_w, i32_w]; rfl
            refine pu 2 16 ?_ #[ff, tt, tt, ff, ff, ff, ff] rfl rfl (by kernel_rfl) (Or.inl ⟨by rfl, ?_⟩) ?_ ?_ ?_; rotate_left; intro w'; go_simp; with_reducible rfl; rotate_left; simp only [Act.put, sA, sZ, sC, i64_w, i32_w]; rfl
            refine pu 3 17 ?_ #[ff, tt, tt, tt, ff, ff, ff] rfl rfl (by kernel_rfl) (Or.inl ⟨by rfl, ?_⟩) ?_ ?_ ?_; rotate_left; intro w'; go_simp; with_reducible rfl; rotate_left; simp only [Act.put, sA, sZ, sC, i64_w, i32_w]; rfl
            refine pu 4 18 ?_ #[ff, tt, tt, tt, tt, ff, ff] rfl rfl (by kernel_rfl) (Or.inl ⟨by rfl, ?_⟩) ?_ ?_ ?_; rotate_left; intro w'; go_simp; with_reducible rfl; rotate_left; simp only [Act.put, sA, sZ, sC, i64_w, i32_w]; rfl
            refine pu 5 19 ?_ #[ff, tt, tt, tt, tt, tt, ff] rfl rfl (by kernel_rfl) (Or.inl ⟨by rfl, ?_⟩) ?_ ?_ ?_; rotate_left; intro w'; go_simp; with_reducible rfl; rotate_left; simp only [Act.put, sA, sZ, sC, i64_w, i32_w]; rfl
            refine tk 0 14 ?_ #[tt, tt, tt, tt, tt, tt, ff] rfl rfl (by kernel_rfl) (Or.inl ⟨by rfl, ?_⟩) hHeld ?_ ?_ ?_; rotate_left; rintro w' ⟨s0, s1⟩; go_simp; with_reducible rfl; rotate_left; simp only [Act.put, sA, sZ, sC, i64_w, i32_w]; rfl
            refine one_ (i := 6) (N := some 20) #[tt, tt, tt, tt, tt, tt, tt] rfl rfl (by kernel_rfl) (by decide) (fun K hK => ?_)
            refine goes_ Tryd.func86 (by kernel_rfl) rfl #[.agg #[.int .i64 t115, .slice Ao25 x120001_1.length co25], .int .i64 x6_1, .int .i64 (Int.tmod (wrap64 (x6_1 + 1)) a0)] (by rfl) rfl rfl (by first | rfl | (simp only [mA, mC, mN]; rfl)) ?_
            with_reducible refine (spec_l01Put.calls t115 (fun k_ => some k_ = (.slice Ao25 x120001_1.length co25 : Value).ownBlock) (.slice Ao25 x120001_1.length co25) x120001_1 x6_1 (Int.tmod (wrap64 (x6_1 + 1)) a0) t120 w _ ?side1 ?side2 A12.out).mono ?_
            (case side1 => exact BU HB)
            (case side2 => exact Kd.R_tight rfl HO_120001.out)
            rintro e w26 ⟨rfl, hy0, hb, hkp⟩
            refine ⟨_, rfl, ?_⟩
            replace BK114 := Fa.mk (blk_kept (bU BK114) hkp (fun hs_ => (fun e_ => (Kd.R_ne HO_120001.out BK114.out (by decide)) e_) hs_)); replace BK119 := Fa.mk (blk_kept (bU BK119) hkp (fun hs_ => (fun e_ => (Kd.R_ne HO_120001.out BK119.out (by decide)) e_) hs_)); replace HO_120001 := Fa.mk (Kd.R_reok rfl hy0 (fun k_ e_ => HO_120001.out.1 k_ e_)); replace HB := Fa.mk hb
            refine hK.out _ _ ⟨(blk_cell BK119.out 0).trans rfl, (blk_cell BK119.out 1).trans rfl⟩ (fun hHeld => ?_)
            clear hK K
            refine norm_ (a' := ?_) ?_ ?_
            rotate_left
            · show Act.put _ (some 20) _ = _
              simp only [Act.put, sA, sZ, sC, i64_w, i32_w]
              rfl
            refine done_ (by kernel_rfl) ?_
            try go_wp2
            go_roundg k1
            case measure => have := HK1.out; omega
            case rel => exact ⟨(wrap64 (x6_1 + 1)), (t120), (.slice Ao25 x120001_1.length co25), rfl, H', ⟨by have := HK1.out; omega⟩, ⟨rU HO_120001⟩, ⟨bU BK114⟩, ⟨bU BK119⟩, ⟨BU HB⟩⟩
      · rw [if_neg c10] at H
        have c10b0 := decide_eq_false c10
        clear c10
        simp only [Option.some.injEq, Prod.mk.injEq] at H
        obtain ⟨rfl, rfl⟩ := H
        have hnb27 := NB119_114.out
        have hnc27 := NB114_119.out
        obtain ⟨hcz28_0, hcz28_1, hfz28_0, hfz28_1⟩ := cz2 BK119.out
        obtain ⟨hcz29_0, hcz29_1, hfz29_0, hfz29_1⟩ := cz2 BK114.out
        obtain ⟨Ao30, co30, eo30⟩ := Kd.R_slice HO_120001.out
        subst eo30
        go_wp2
        refine bodyPost_ret (results_cell_row rfl _ _ gb114 26 #[.int .i64 t115, .slice Ao30 x120001_1.length co30] (0, 0) _ rfl oo Tryd.underlying26 rfl (by kernel_rfl)) rfl ?_
        exact ⟨_, rfl, by (with_reducible repeat (first | apply Kd.R_alloc | apply Kd.R_drewN | apply Kd.R_drew)); exact Kd.R_mono (Kd.R_far (p := ⟨gb114, 1, none⟩) (Kd.R_far (p := ⟨gb114, 0, none⟩) (Kd.R_types HO_120001.out BK114.out (by decide)) (fun _ hk => hk.2) (.int .i64 t115)) (fun _ hk => hk.2) (.slice Ao30 x120001_1.length co30)) (fun _ hk => trivial), BU HB⟩

end Go.Proofs.YtockngphfpedkaaDoor.XFnDistances
