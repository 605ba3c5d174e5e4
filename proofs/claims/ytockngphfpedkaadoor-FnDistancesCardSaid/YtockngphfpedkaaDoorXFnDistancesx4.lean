-- Written by this project's own program (mprint.py) by means of the kit's printer: with contracts of its own for the functions that the printer leaves out.
import Derived.Test.YtockngphfpedkaaDoorXFnDistancesx0
import Derived.Test.YtockngphfpedkaaDoorXFnDistancesx3
namespace Go.Proofs.YtockngphfpedkaaDoor.XFnDistances
open Go.RowKit Go.Proofs.YtockngphfpedkaaDoorW.PrintWords Go.Proofs.YtockngphfpedkaaDoorW.PrintLast Go.Proofs.YtockngphfpedkaaDoorW.PrintMore
attribute [local go_sem] max2_int min2_int max_two min_two max_three min_three max_four min_four   -- for this text's walks alone
set_option linter.unusedVariables false
set_option linter.unusedSimpArgs false

/-! ### spec_l01Beside: function 130 -/
def spec_l01Beside.l0 : Nat → Int → Int → List Int → Int → List Int → Int → List Int → Option (Int × List Int)
  | 0, _, _, _, _, _, _, _ => none
  | k + 1, x6, x139000, x139001, x140000, x140001, x145000, x145001 => if x6 < x140000 then (if 0 ≤ x6 then (if x6 < (x140001.length : Int) then (if 0 ≤ (IntKind.u64.wrap (x139000)) then (if x145001.length < 17592186044416 then (spec_l01Beside.l0 k (wrap64 (x6 + 1)) x139000 x139001 x140000 x140001 x145000 (x145001 ++ [shl .i64 (rd x140001 x6) (IntKind.u64.wrap (x139000))])) else (none)) else (none)) else (none)) else (none)) else (some (x145000, x145001))
def spec_l01Beside.f (k : Nat) (a0_0 : Int) (l0_1 : List Int) (a1_0 : Int) (l1_1 : List Int) : Option (Int × List Int) := (spec_l01Own.f l0_1).bind fun t141 => (spec_l01Beside.l0 k 0 a0_0 l0_1 a1_0 l1_1 (wrap64 (a0_0 + a1_0)) t141)
theorem spec_l01Beside.mono_l : ∀ k, (∀ y0 y1 y2 y3 y4 y5 y6, LeO (spec_l01Beside.l0 k y0 y1 y2 y3 y4 y5 y6) (spec_l01Beside.l0 (k + 1) y0 y1 y2 y3 y4 y5 y6))
  | 0 => fun _ _ _ _ _ _ _ r h => by simp [spec_l01Beside.l0] at h
  | k + 1 => by
    have ih0 := spec_l01Beside.mono_l k
    · intro y0 y1 y2 y3 y4 y5 y6
      unfold spec_l01Beside.l0
      repeat' first
      | (with_reducible exact ih0 _ _ _ _ _ _ _)
      | (with_reducible exact LeO.refl _)
      | (with_reducible exact LeO.none _)
      | (with_reducible refine LeO.ite ?_ ?_)
      | (with_reducible refine LeO.bind ?_ (fun _ => ?_))
      | exact ih0 _ _ _ _ _ _ _
      | exact LeO.none _
      | refine LeO.ite ?_ ?_
      | refine LeO.bind ?_ (fun _ => ?_)
theorem spec_l01Beside.mono : ∀ a0 a1 a2 a3 k, LeO (spec_l01Beside.f k a0 a1 a2 a3) (spec_l01Beside.f (k + 1) a0 a1 a2 a3) := by
  intro a0 a1 a2 a3 k
  have ih0 := spec_l01Beside.mono_l k
  unfold spec_l01Beside.f
  repeat' first
      | (with_reducible exact ih0 _ _ _ _ _ _ _)
      | (with_reducible exact LeO.refl _)
      | (with_reducible exact LeO.none _)
      | (with_reducible refine LeO.ite ?_ ?_)
      | (with_reducible refine LeO.bind ?_ (fun _ => ?_))
      | exact ih0 _ _ _ _ _ _ _
      | exact LeO.none _
      | refine LeO.ite ?_ ?_
      | refine LeO.bind ?_ (fun _ => ?_)
def spec_l01Beside.T1 : Bool × List (List Nat × List Nat) := (true, [([], []), ([0], [0]), ([], []), ([2], [2]), ([1, 3], [1, 3]), ([], []), ([5], [5]), ([6], [6]), ([4, 7], [4, 7]), ([], []), ([9, 8, 7, 0, 1, 2, 3, 4, 5, 6, 7, 8, 9], [8, 9])])
def spec_l01Beside.B1 : List Nat := [0, 1, 0, 4, 15, 0, 32, 96, 255, 0, 1023]
theorem spec_l01Beside.tab1 : rtab .any (opsOf Tryd.f130 1) = spec_l01Beside.T1 := by kernel_rfl
theorem spec_l01Beside.bits1 : waitsOk spec_l01Beside.T1.2 spec_l01Beside.B1 = true := by kernel_rfl
def spec_l01Beside.T5 : Bool × List (List Nat × List Nat) := (true, [([], []), ([0], [0]), ([], []), ([2], [2]), ([], []), ([3, 4], [3, 4]), ([5], [5]), ([], []), ([7], [7]), ([8], [8]), ([6, 9], [6, 9]), ([10], [10]), ([1, 11], [1, 11]), ([0, 1, 2, 3, 4, 5, 6, 7, 8, 9, 10, 11, 12], []), ([13, 12, 12, 0, 1, 2, 3, 4, 5, 6, 7, 8, 9, 10, 11, 12], [12, 13])])
def spec_l01Beside.B5 : List Nat := [0, 1, 0, 4, 0, 28, 60, 0, 128, 384, 1020, 2044, 4095, 8191, 16383]
theorem spec_l01Beside.tab5 : rtab .any (opsOf Tryd.f130 5) = spec_l01Beside.T5 := by kernel_rfl
theorem spec_l01Beside.bits5 : waitsOk spec_l01Beside.T5.2 spec_l01Beside.B5 = true := by kernel_rfl
set_option maxHeartbeats 8000000 in
set_option maxRecDepth 100000 in
theorem spec_l01Beside.calls (k : Nat) (a0_0 : Int) (A0_1 : Option Addr) (c0_1 : Nat) (l0_1 : List Int) (a1_0 : Int) (A1_1 : Option Addr) (c1_1 : Nat) (l1_1 : List Int) (r1 : Int) (r2 : List Int) (w : World) (hr0_1 : Kd.C (Kd.int .i64) w A0_1 l0_1.length l0_1) (hc0_1 : l0_1.length ≤ c0_1) (hr1_1 : Kd.C (Kd.int .i64) w A1_1 l1_1.length l1_1) (hc1_1 : l1_1.length ≤ c1_1) (h : spec_l01Beside.f k a0_0 l0_1 a1_0 l1_1 = some (r1, r2)) :
    Calls Tryd.prog 130 #[.agg #[.int .i64 a0_0, .slice A0_1 l0_1.length c0_1], .agg #[.int .i64 a1_0, .slice A1_1 l1_1.length c1_1]] w fun e w' => ∃ v1_ : Value, e = .returned (.agg #[.int .i64 r1, v1_]) ∧ Kd.R (Kd.int .i64) 2 w' w.heap.size (fun _ => True) v1_ r2 ∧ Below w.heap.size w w' := by
  have hu26 := Tryd.underlying26
  have HR0_1 := Fa.mk hr0_1
  have HC0_1 := Fa.mk hc0_1
  clear hr0_1 hc0_1
  have HR1_1 := Fa.mk hr1_1
  have HC1_1 := Fa.mk hc1_1
  clear hr1_1 hc1_1
  have HB := Fa.mk (Below.refl w.heap.size w)
  unfold spec_l01Beside.f at h; have H := h
  clear h
  replace H := Option.bind_eq_some_iff.mp H
  obtain ⟨t141, A30, H⟩ := H
  replace H : (spec_l01Beside.l0 k 0 a0_0 l0_1 a1_0 l1_1 (wrap64 (a0_0 + a1_0)) t141) = some (r1, r2) := H
  have A3 := Fa.mk A30
  clear A30
  have H' := Fa.mk H
  clear H
  go_enter Tryd.func130, Tryd.ntmps130
  try go_wp2_with (first | ((with_reducible refine gd 2 rfl ?_); refine box_event ?hg (N := 2) ?hd (cs := #[.int .i64 a0_0, .slice A0_1 l0_1.length c0_1]) (t := 26) ?hr ?_; (case hd => rfl); (case hg => rfl); (case hr => first | (go_simp; done) | (go_simp; rfl)); intro gb138 hg w4 hbox hb; have BK138 := Fa.mk hbox; have GW138 := Fa.mk (bsz hg (BU HB) : w.heap.size ≤ gb138); have GE138 := GW138; replace HB := Fa.mk (below_step (BU HB) hb); clear hb hbox hg) | ((with_reducible refine gd 3 rfl ?_); refine box_event ?hg (N := 3) ?hd (cs := #[.int .i64 a1_0, .slice A1_1 l1_1.length c1_1]) (t := 26) ?hr ?_; (case hd => rfl); (case hg => rfl); (case hr => first | (go_simp; done) | (go_simp; rfl)); intro gb139 hg w5 hbox hb; have BK139 := Fa.mk hbox; have GW139 := Fa.mk (bsz hg (BU HB) : w.heap.size ≤ gb139); have GE139 := GW139; have NB138_139 := Fa.mk ((by rw [hg]; exact Nat.ne_of_lt (blk_lt (bU BK138)) : gb138 ≠ gb139)); have NB139_138 := Fa.mk ((by rw [hg]; exact Nat.ne_of_gt (blk_lt (bU BK138)) : gb139 ≠ gb138)); replace BK138 := Fa.mk (blk_below (bU BK138) hb); replace HB := Fa.mk (below_step (BU HB) hb); clear hb hbox hg) | ((with_reducible refine gd 4 rfl ?_); refine box_event ?hg (N := 4) ?hd (cs := #[.int .i64 0, .slice none 0 0]) (t := 26) ?hr ?_; (case hd => rfl); (case hg => rfl); (case hr => first | (go_simp; done) | (go_simp; rfl)); intro gb140 hg w6 hbox hb; have BK140 := Fa.mk hbox; have GW140 := Fa.mk (bsz hg (BU HB) : w.heap.size ≤ gb140); have GE140 := GW140; have NB138_140 := Fa.mk ((by rw [hg]; exact Nat.ne_of_lt (blk_lt (bU BK138)) : gb138 ≠ gb140)); have NB140_138 := Fa.mk ((by rw [hg]; exact Nat.ne_of_gt (blk_lt (bU BK138)) : gb140 ≠ gb138)); replace BK138 := Fa.mk (blk_below (bU BK138) hb); have NB139_140 := Fa.mk ((by rw [hg]; exact Nat.ne_of_lt (blk_lt (bU BK139)) : gb139 ≠ gb140)); have NB140_139 := Fa.mk ((by rw [hg]; exact Nat.ne_of_gt (blk_lt (bU BK139)) : gb140 ≠ gb139)); replace BK139 := Fa.mk (blk_below (bU BK139) hb); replace HB := Fa.mk (below_step (BU HB) hb); clear hb hbox hg))
  replace BK138 := Fa.mk (blk_drew BK138.out); replace BK139 := Fa.mk (blk_drew BK139.out); replace BK140 := Fa.mk (blk_drew BK140.out); replace HB := Fa.mk (below_drew1 HB.out)
  refine start_ (n := 11) (S := fun w' => w'.cell? ⟨gb138, 0, none⟩ = some (.int .i64 a0_0) ∧ w'.cell? ⟨gb138, 1, none⟩ = some (.slice A0_1 l0_1.length c0_1) ∧ w'.cell? ⟨gb139, 0, none⟩ = some (.int .i64 a1_0) ∧ w'.cell? ⟨gb139, 1, none⟩ = some (.slice A1_1 l1_1.length c1_1)) (ds := []) #[ff, ff, ff, ff, ff, ff, ff, ff, ff, ff, ff] (by kernel_rfl) rfl rfl ⟨(blk_cell BK138.out 0).trans rfl, (blk_cell BK138.out 1).trans rfl, (blk_cell BK139.out 0).trans rfl, (blk_cell BK139.out 1).trans rfl⟩ (fun hHeld => ?_); refine with_tabW spec_l01Beside.tab1 spec_l01Beside.bits1 (fun HT_ HW_ => ?_)
  generalize w6.drew = w7 at BK138 BK139 BK140 HB hHeld ⊢
  refine pu 0 7 ?_ #[tt, ff, ff, ff, ff, ff, ff, ff, ff, ff, ff] rfl rfl (any_of HT_.out (by kernel_rfl)) (Or.inl ⟨by rfl, ?_⟩) ?_ ?_ ?_; rotate_left; intro w'; go_simp; with_reducible rfl; rotate_left; simp only [Act.put, sA, sZ, sC, i64_w, i32_w]; rfl
  refine pu 2 9 ?_ #[tt, ff, tt, ff, ff, ff, ff, ff, ff, ff, ff] rfl rfl (any_of HT_.out (by kernel_rfl)) (Or.inl ⟨by rfl, ?_⟩) ?_ ?_ ?_; rotate_left; intro w'; go_simp; with_reducible rfl; rotate_left; simp only [Act.put, sA, sZ, sC, i64_w, i32_w]; rfl
  refine pu 5 12 ?_ #[tt, ff, tt, ff, ff, tt, ff, ff, ff, ff, ff] rfl rfl (any_of HT_.out (by kernel_rfl)) (Or.inl ⟨by rfl, ?_⟩) ?_ ?_ ?_; rotate_left; intro w'; go_simp; with_reducible rfl; rotate_left; simp only [Act.put, sA, sZ, sC, i64_w, i32_w]; rfl
  refine tk 1 8 ?_ #[tt, tt, tt, ff, ff, tt, ff, ff, ff, ff, ff] rfl rfl (take_ofW HT_.out HW_.out (by kernel_rfl)) (Or.inl ⟨by rfl, ?_⟩) hHeld ?_ ?_ ?_; rotate_left; rintro w' ⟨s0, s1, s2, s3⟩; go_simp; with_reducible rfl; rotate_left; simp only [Act.put, sA, sZ, sC, i64_w, i32_w]; rfl
  refine tk 3 10 ?_ #[tt, tt, tt, tt, ff, tt, ff, ff, ff, ff, ff] rfl rfl (take_ofW HT_.out HW_.out (by kernel_rfl)) (Or.inl ⟨by rfl, ?_⟩) hHeld ?_ ?_ ?_; rotate_left; rintro w' ⟨s0, s1, s2, s3⟩; go_simp; with_reducible rfl; rotate_left; simp only [Act.put, sA, sZ, sC, i64_w, i32_w]; rfl
  refine pu 4 11 ?_ #[tt, tt, tt, tt, tt, tt, ff, ff, ff, ff, ff] rfl rfl (any_of HT_.out (by kernel_rfl)) (Or.inl ⟨by rfl, ?_⟩) ?_ ?_ ?_; rotate_left; intro w'; go_simp; with_reducible rfl; rotate_left; simp only [Act.put, sA, sZ, sC, i64_w, i32_w]; rfl
  refine tk 6 13 ?_ #[tt, tt, tt, tt, tt, tt, tt, ff, ff, ff, ff] rfl rfl (take_ofW HT_.out HW_.out (by kernel_rfl)) (Or.inl ⟨by rfl, ?_⟩) hHeld ?_ ?_ ?_; rotate_left; rintro w' ⟨s0, s1, s2, s3⟩; go_simp; with_reducible rfl; rotate_left; simp only [Act.put, sA, sZ, sC, i64_w, i32_w]; rfl
  refine join_ (σ := Value × Nat) 1 #[tt, tt, tt, tt, tt, tt, tt, tt, tt, tt, ff] (fun s_ => [(14, s_.1), (5, .pointer (some ⟨s_.2, 0, none⟩)), (15, .agg #[.int .i64 (wrap64 (a0_0 + a1_0)), s_.1])]) (fun s_ w' => (w'.cell? ⟨gb138, 0, none⟩ = some (.int .i64 a0_0) ∧ w'.cell? ⟨gb138, 1, none⟩ = some (.slice A0_1 l0_1.length c0_1) ∧ w'.cell? ⟨gb139, 0, none⟩ = some (.int .i64 a1_0) ∧ w'.cell? ⟨gb139, 1, none⟩ = some (.slice A1_1 l1_1.length c1_1)) ∧ (Kd.R (Kd.int .i64) 2 w' w.heap.size (fun _ => True) s_.1 t141) ∧ (w'.heap[gb138]? = some (.cells #[.int .i64 a0_0, .slice A0_1 l0_1.length c0_1] 26 (0, 0))) ∧ (w'.heap[gb139]? = some (.cells #[.int .i64 a1_0, .slice A1_1 l1_1.length c1_1] 26 (0, 0))) ∧ (w'.heap[gb140]? = some (.cells #[.int .i64 0, .slice none 0 0] 26 (0, 0))) ∧ (w'.heap[s_.2]? = some (.cells #[.int .i64 0, .slice none 0 0] 26 (0, 0))) ∧ (w.heap.size ≤ s_.2) ∧ (w.heap.size ≤ s_.2) ∧ (gb138 ≠ s_.2) ∧ (s_.2 ≠ gb138) ∧ (gb139 ≠ s_.2) ∧ (s_.2 ≠ gb139) ∧ (gb140 ≠ s_.2) ∧ (s_.2 ≠ gb140) ∧ (Below w.heap.size w w')) ?_ ?_
  rotate_left
  · intro hCont
    refine two_ (i := 7) (j := 9) (Ni := some 14) (Nj := some 5) #[tt, tt, tt, tt, tt, tt, tt, tt, ff, ff, ff] #[tt, tt, tt, tt, tt, tt, tt, ff, ff, tt, ff] rfl rfl rfl rfl (two_of HT_.out (by kernel_rfl)) (by decide) (by decide) (fun K hK => ?_) (fun K hK => ?_)
    · skip
      refine goes_ Tryd.func131 (by kernel_rfl) rfl #[.slice A0_1 l0_1.length c0_1] (by rfl) rfl rfl (by first | rfl | (simp only [mA, mC, mN]; rfl)) ?_
      with_reducible refine (spec_l01Own.calls _ _ l0_1 t141 _ ?side1 ?side2 A3.out).mono ?_
      (case side1 => exact Kd.C_below HR0_1.out (BU HB))
      (case side2 => exact HC0_1.out)
      rintro e w8 ⟨v142, rfl, ho0, hb⟩
      refine ⟨_, rfl, ?_⟩
      have HO143 := Fa.mk (Kd.R_lower ho0 (below_size (BU HB))); replace BK138 := Fa.mk (blk_below (bU BK138) hb); replace BK139 := Fa.mk (blk_below (bU BK139) hb); replace BK140 := Fa.mk (blk_below (bU BK140) hb); replace HB := Fa.mk (below_step (BU HB) hb)
      obtain ⟨Ao9, co9, eo9⟩ := Kd.R_slice HO143.out
      (first | subst eo9 | (injection eo9 with f1_ f2_ f3_; have f4_ := f1_.symm; have f5_ := f3_.symm; clear f1_ f2_ f3_; subst f4_; subst f5_))
      refine hK.out _ _ ⟨(blk_cell BK138.out 0).trans rfl, (blk_cell BK138.out 1).trans rfl, (blk_cell BK139.out 0).trans rfl, (blk_cell BK139.out 1).trans rfl⟩ (fun hHeld => ?_)
      clear hK K
      refine norm_ (a' := ?_) ?_ ?_
      rotate_left
      · show Act.put _ (some 14) _ = _
        simp only [Act.put, sA, sZ, sC, i64_w, i32_w]
        rfl
      refine pu 8 15 ?_ #[tt, tt, tt, tt, tt, tt, tt, tt, tt, ff, ff] rfl rfl (any_of HT_.out (by kernel_rfl)) (Or.inl ⟨by rfl, ?_⟩) ?_ ?_ ?_; rotate_left; intro w'; go_simp; with_reducible rfl; rotate_left; simp only [Act.put, sA, sZ, sC, i64_w, i32_w]; rfl
      refine one_ (i := 9) (N := some 5) #[tt, tt, tt, tt, tt, tt, tt, tt, tt, tt, ff] rfl rfl (one_of HT_.out (by kernel_rfl)) (by decide) (fun K hK => ?_)
      refine box_step ?hg (N := 5) ?hd (cs := #[.int .i64 0, .slice none 0 0]) (t := 26) ?hr ?_; (case hd => rfl); (case hg => rfl); (case hr => first | (go_simp; done) | (go_simp; rfl))
      intro gb144 hg w10 hbox hb
      have n0_ := Fa.mk (Kd.R_below (rU HO143) hb)
      have n1_ := Fa.mk (blk_below (bU BK138) hb)
      have n2_ := Fa.mk (blk_below (bU BK139) hb)
      have n3_ := Fa.mk (blk_below (bU BK140) hb)
      have n4_ := Fa.mk (below_step (BU HB) hb)
      have n5_ := Fa.mk hbox
      have n6_ := Fa.mk ((bsz hg (BU HB) : w.heap.size ≤ gb144))
      have n7_ := Fa.mk ((bsz hg (BU HB) : w.heap.size ≤ gb144))
      have n8_ := Fa.mk ((by rw [hg]; exact Nat.ne_of_lt (blk_lt (bU BK138)) : gb138 ≠ gb144))
      have n9_ := Fa.mk ((by rw [hg]; exact Nat.ne_of_gt (blk_lt (bU BK138)) : gb144 ≠ gb138))
      have n10_ := Fa.mk ((by rw [hg]; exact Nat.ne_of_lt (blk_lt (bU BK139)) : gb139 ≠ gb144))
      have n11_ := Fa.mk ((by rw [hg]; exact Nat.ne_of_gt (blk_lt (bU BK139)) : gb144 ≠ gb139))
      have n12_ := Fa.mk ((by rw [hg]; exact Nat.ne_of_lt (blk_lt (bU BK140)) : gb140 ≠ gb144))
      have n13_ := Fa.mk ((by rw [hg]; exact Nat.ne_of_gt (blk_lt (bU BK140)) : gb144 ≠ gb140))
      clear HO143
      clear BK138
      clear BK139
      clear BK140
      clear HB
      have HO143 := n0_
      have BK138 := n1_
      have BK139 := n2_
      have BK140 := n3_
      have HB := n4_
      have BK144 := n5_
      have GW144 := n6_
      have GE144 := n7_
      have NB138_144 := n8_
      have NB144_138 := n9_
      have NB139_144 := n10_
      have NB144_139 := n11_
      have NB140_144 := n12_
      have NB144_140 := n13_
      clear n0_ n1_ n2_ n3_ n4_ n5_ n6_ n7_ n8_ n9_ n10_ n11_ n12_ n13_
      clear hb hbox hg
      refine hK.out _ _ ⟨(blk_cell BK138.out 0).trans rfl, (blk_cell BK138.out 1).trans rfl, (blk_cell BK139.out 0).trans rfl, (blk_cell BK139.out 1).trans rfl⟩ (fun hHeld => ?_)
      clear hK K
      refine norm_ (a' := ?_) ?_ ?_
      rotate_left
      · show Act.put _ (some 5) _ = _
        simp only [Act.put, sA, sZ, sC, i64_w, i32_w]
        rfl
      exact norm_ (by simp only [putAll, Act.put, sA, sZ, sC]) (hCont (.slice Ao9 t141.length co9, gb144) _ ⟨hHeld, (rU HO143), (bU BK138), (bU BK139), (bU BK140), (bU BK144), GW144.out, GE144.out, NB138_144.out, NB144_138.out, NB139_144.out, NB144_139.out, NB140_144.out, NB144_140.out, (BU HB)⟩)
    · skip
      refine box_step ?hg (N := 5) ?hd (cs := #[.int .i64 0, .slice none 0 0]) (t := 26) ?hr ?_; (case hd => rfl); (case hg => rfl); (case hr => first | (go_simp; done) | (go_simp; rfl))
      intro gb144 hg w8 hbox hb
      have n0_ := Fa.mk (blk_below (bU BK138) hb)
      have n1_ := Fa.mk (blk_below (bU BK139) hb)
      have n2_ := Fa.mk (blk_below (bU BK140) hb)
      have n3_ := Fa.mk (below_step (BU HB) hb)
      have n4_ := Fa.mk hbox
      have n5_ := Fa.mk ((bsz hg (BU HB) : w.heap.size ≤ gb144))
      have n6_ := Fa.mk ((bsz hg (BU HB) : w.heap.size ≤ gb144))
      have n7_ := Fa.mk ((by rw [hg]; exact Nat.ne_of_lt (blk_lt (bU BK138)) : gb138 ≠ gb144))
      have n8_ := Fa.mk ((by rw [hg]; exact Nat.ne_of_gt (blk_lt (bU BK138)) : gb144 ≠ gb138))
      have n9_ := Fa.mk ((by rw [hg]; exact Nat.ne_of_lt (blk_lt (bU BK139)) : gb139 ≠ gb144))
      have n10_ := Fa.mk ((by rw [hg]; exact Nat.ne_of_gt (blk_lt (bU BK139)) : gb144 ≠ gb139))
      have n11_ := Fa.mk ((by rw [hg]; exact Nat.ne_of_lt (blk_lt (bU BK140)) : gb140 ≠ gb144))
      have n12_ := Fa.mk ((by rw [hg]; exact Nat.ne_of_gt (blk_lt (bU BK140)) : gb144 ≠ gb140))
      clear BK138
      clear BK139
      clear BK140
      clear HB
      have BK138 := n0_
      have BK139 := n1_
      have BK140 := n2_
      have HB := n3_
      have BK144 := n4_
      have GW144 := n5_
      have GE144 := n6_
      have NB138_144 := n7_
      have NB144_138 := n8_
      have NB139_144 := n9_
      have NB144_139 := n10_
      have NB140_144 := n11_
      have NB144_140 := n12_
      clear n0_ n1_ n2_ n3_ n4_ n5_ n6_ n7_ n8_ n9_ n10_ n11_ n12_
      clear hb hbox hg
      refine hK.out _ _ ⟨(blk_cell BK138.out 0).trans rfl, (blk_cell BK138.out 1).trans rfl, (blk_cell BK139.out 0).trans rfl, (blk_cell BK139.out 1).trans rfl⟩ (fun hHeld => ?_)
      clear hK K
      refine norm_ (a' := ?_) ?_ ?_
      rotate_left
      · show Act.put _ (some 5) _ = _
        simp only [Act.put, sA, sZ, sC, i64_w, i32_w]
        rfl
      refine one_ (i := 7) (N := some 14) #[tt, tt, tt, tt, tt, tt, tt, tt, ff, tt, ff] rfl rfl (one_of HT_.out (by kernel_rfl)) (by decide) (fun K hK => ?_)
      refine goes_ Tryd.func131 (by kernel_rfl) rfl #[.slice A0_1 l0_1.length c0_1] (by rfl) rfl rfl (by first | rfl | (simp only [mA, mC, mN]; rfl)) ?_
      with_reducible refine (spec_l01Own.calls _ _ l0_1 t141 _ ?side1 ?side2 A3.out).mono ?_
      (case side1 => exact Kd.C_below HR0_1.out (BU HB))
      (case side2 => exact HC0_1.out)
      rintro e w9 ⟨v142, rfl, ho0, hb⟩
      refine ⟨_, rfl, ?_⟩
      have HO143 := Fa.mk (Kd.R_lower ho0 (below_size (BU HB))); replace BK138 := Fa.mk (blk_below (bU BK138) hb); replace BK139 := Fa.mk (blk_below (bU BK139) hb); replace BK140 := Fa.mk (blk_below (bU BK140) hb); replace BK144 := Fa.mk (blk_below (bU BK144) hb); replace HB := Fa.mk (below_step (BU HB) hb)
      obtain ⟨Ao10, co10, eo10⟩ := Kd.R_slice HO143.out
      (first | subst eo10 | (injection eo10 with f1_ f2_ f3_; have f4_ := f1_.symm; have f5_ := f3_.symm; clear f1_ f2_ f3_; subst f4_; subst f5_))
      refine hK.out _ _ ⟨(blk_cell BK138.out 0).trans rfl, (blk_cell BK138.out 1).trans rfl, (blk_cell BK139.out 0).trans rfl, (blk_cell BK139.out 1).trans rfl⟩ (fun hHeld => ?_)
      clear hK K
      refine norm_ (a' := ?_) ?_ ?_
      rotate_left
      · show Act.put _ (some 14) _ = _
        simp only [Act.put, sA, sZ, sC, i64_w, i32_w]
        rfl
      refine pu 8 15 ?_ #[tt, tt, tt, tt, tt, tt, tt, tt, tt, tt, ff] rfl rfl (any_of HT_.out (by kernel_rfl)) (Or.inl ⟨by rfl, ?_⟩) ?_ ?_ ?_; rotate_left; intro w'; go_simp; with_reducible rfl; rotate_left; simp only [Act.put, sA, sZ, sC, i64_w, i32_w]; rfl
      exact norm_ (by simp only [putAll, Act.put, sA, sZ, sC]) (hCont (.slice Ao10 t141.length co10, gb144) _ ⟨hHeld, (rU HO143), (bU BK138), (bU BK139), (bU BK140), (bU BK144), GW144.out, GE144.out, NB138_144.out, NB144_138.out, NB139_144.out, NB144_139.out, NB140_144.out, NB144_140.out, (BU HB)⟩)
  rintro ⟨v142, gb144⟩ w11 ⟨hS_, h0_, h1_, h2_, h3_, h4_, h5_, h6_, h7_, h8_, h9_, h10_, h11_, h12_, h13_⟩
  have n0_ : Fa (Kd.R (Kd.int .i64) 2 w11 w.heap.size (fun _ => True) v142 t141) := ⟨h0_⟩
  have n1_ : Fa (w11.heap[gb138]? = some (.cells #[.int .i64 a0_0, .slice A0_1 l0_1.length c0_1] 26 (0, 0))) := ⟨h1_⟩
  have n2_ : Fa (w11.heap[gb139]? = some (.cells #[.int .i64 a1_0, .slice A1_1 l1_1.length c1_1] 26 (0, 0))) := ⟨h2_⟩
  have n3_ : Fa (w11.heap[gb140]? = some (.cells #[.int .i64 0, .slice none 0 0] 26 (0, 0))) := ⟨h3_⟩
  have n4_ : Fa (w11.heap[gb144]? = some (.cells #[.int .i64 0, .slice none 0 0] 26 (0, 0))) := ⟨h4_⟩
  have n5_ : Fa (w.heap.size ≤ gb144) := ⟨h5_⟩
  have n6_ : Fa (w.heap.size ≤ gb144) := ⟨h6_⟩
  have n7_ : Fa (gb138 ≠ gb144) := ⟨h7_⟩
  have n8_ : Fa (gb144 ≠ gb138) := ⟨h8_⟩
  have n9_ : Fa (gb139 ≠ gb144) := ⟨h9_⟩
  have n10_ : Fa (gb144 ≠ gb139) := ⟨h10_⟩
  have n11_ : Fa (gb140 ≠ gb144) := ⟨h11_⟩
  have n12_ : Fa (gb144 ≠ gb140) := ⟨h12_⟩
  have n13_ : Fa (Below w.heap.size w w11) := ⟨h13_⟩
  clear BK138
  clear BK139
  clear BK140
  clear HB
  clear h0_ h1_ h2_ h3_ h4_ h5_ h6_ h7_ h8_ h9_ h10_ h11_ h12_ h13_
  have HO143 := n0_
  have BK138 := n1_
  have BK139 := n2_
  have BK140 := n3_
  have BK144 := n4_
  have GW144 := n5_
  have GE144 := n6_
  have NB138_144 := n7_
  have NB144_138 := n8_
  have NB139_144 := n9_
  have NB144_139 := n10_
  have NB140_144 := n11_
  have NB144_140 := n12_
  have HB := n13_
  clear n0_ n1_ n2_ n3_ n4_ n5_ n6_ n7_ n8_ n9_ n10_ n11_ n12_ n13_
  have hHeld : w11.cell? ⟨gb138, 0, none⟩ = some (.int .i64 a0_0) ∧ w11.cell? ⟨gb138, 1, none⟩ = some (.slice A0_1 l0_1.length c0_1) ∧ w11.cell? ⟨gb139, 0, none⟩ = some (.int .i64 a1_0) ∧ w11.cell? ⟨gb139, 1, none⟩ = some (.slice A1_1 l1_1.length c1_1) := hS_
  obtain ⟨Ao12, co12, eo12⟩ := Kd.R_slice HO143.out
  (first | subst eo12 | (injection eo12 with f1_ f2_ f3_; have f4_ := f1_.symm; have f5_ := f3_.symm; clear f1_ f2_ f3_; subst f4_; subst f5_))
  refine norm_ (a' := ?_) ?_ ?_
  rotate_left
  · simp only [putAll, Act.put, sA, sZ, sC]
    rfl
  refine one_ (i := 10) (N := none) #[tt, tt, tt, tt, tt, tt, tt, tt, tt, tt, tt] rfl rfl (one_of HT_.out (by kernel_rfl)) (by decide) (fun K hK => ?_)
  have hs13 : w11.cell? ⟨gb144, 0, none⟩ = some (.int .i64 0) := (blk_cell BK144.out 0).trans rfl
  have hfs13 := blk_frozen BK144.out 0
  have hns13_0 := NB138_144.out
  have hns13_1 := NB139_144.out
  have hns13_2 := NB140_144.out
  have hms13_0 := NB144_138.out
  have hms13_1 := NB144_139.out
  have hms13_2 := NB144_140.out
  have hs14 : w11.cell? ⟨gb144, 1, none⟩ = some (.slice none 0 0) := (blk_cell BK144.out 1).trans rfl
  have hfs14 := blk_frozen BK144.out 1
  have hns14_0 := NB138_144.out
  have hns14_1 := NB139_144.out
  have hns14_2 := NB140_144.out
  have hms14_0 := NB144_138.out
  have hms14_1 := NB144_139.out
  have hms14_2 := NB144_140.out
  refine skip_ (w1 := ?_) (by rfl) rfl ?_ ?_
  rotate_left
  · go_simp
    rfl
  refine hK.out _ _ ⟨((cell_far (p := ⟨gb144, _, none⟩) NB138_144.out _).trans (((cell_far (p := ⟨gb144, _, none⟩) NB138_144.out _).trans (hHeld.1)))), ((cell_far (p := ⟨gb144, _, none⟩) NB138_144.out _).trans (((cell_far (p := ⟨gb144, _, none⟩) NB138_144.out _).trans (hHeld.2.1)))), ((cell_far (p := ⟨gb144, _, none⟩) NB139_144.out _).trans (((cell_far (p := ⟨gb144, _, none⟩) NB139_144.out _).trans (hHeld.2.2.1)))), ((cell_far (p := ⟨gb144, _, none⟩) NB139_144.out _).trans (((cell_far (p := ⟨gb144, _, none⟩) NB139_144.out _).trans (hHeld.2.2.2))))⟩ (fun hHeld => ?_)
  clear hK K
  refine done_ (done_of HT_.out (by kernel_rfl)) ?_
  try go_wp2
  go_loopg [6] k (fun kq v6 w' => ∃ (x6_1 : Int) (x145001_1 : List Int) (u145001 : Value), v6 = .int .i64 x6_1 ∧ Fa (spec_l01Beside.l0 kq x6_1 a0_0 l0_1 a1_0 l1_1 (wrap64 (a0_0 + a1_0)) x145001_1 = some (r1, r2)) ∧ Fa (kq ≤ k) ∧ Fa (Kd.R (Kd.int .i64) 2 w' w.heap.size (fun _ => True) u145001 x145001_1) ∧ Fa (w'.heap[gb138]? = some (.cells #[.int .i64 a0_0, (.slice A0_1 l0_1.length c0_1)] 26 (0, 0))) ∧ Fa (w'.heap[gb139]? = some (.cells #[.int .i64 a1_0, (.slice A1_1 l1_1.length c1_1)] 26 (0, 0))) ∧ Fa (w'.heap[gb140]? = some (.cells #[.int .i64 0, (.slice none 0 0)] 26 (0, 0))) ∧ Fa (w'.heap[gb144]? = some (.cells #[.int .i64 (wrap64 (a0_0 + a1_0)), u145001] 26 (0, 0))) ∧ Fa (Below w.heap.size w w'))
  case atStart => exact ⟨(0), (t141), (.slice Ao12 t141.length co12), rfl, H', ⟨Nat.le_refl _⟩, ⟨by (with_reducible repeat (first | apply Kd.R_alloc | apply Kd.R_drewN | apply Kd.R_drew)); exact Kd.R_mono (Kd.R_far (p := ⟨gb144, 1, none⟩) (Kd.R_far (p := ⟨gb144, 0, none⟩) (Kd.R_types HO143.out BK144.out (by decide)) (fun _ hk => hk.2) (.int .i64 (wrap64 (a0_0 + a1_0)))) (fun _ hk => hk.2) (.slice Ao12 t141.length co12)) (fun _ hk => trivial)⟩, ⟨by (with_reducible repeat (first | refine blk_drewN ?_ _ | refine blk_drew ?_ | refine blk_alloc ?_ _)); refine blk_far ?_ NB138_144.out _; (with_reducible repeat (first | refine blk_drewN ?_ _ | refine blk_drew ?_ | refine blk_alloc ?_ _)); refine blk_far ?_ NB138_144.out _; (with_reducible repeat (first | refine blk_drewN ?_ _ | refine blk_drew ?_ | refine blk_alloc ?_ _)); exact BK138.out⟩, ⟨by (with_reducible repeat (first | refine blk_drewN ?_ _ | refine blk_drew ?_ | refine blk_alloc ?_ _)); refine blk_far ?_ NB139_144.out _; (with_reducible repeat (first | refine blk_drewN ?_ _ | refine blk_drew ?_ | refine blk_alloc ?_ _)); refine blk_far ?_ NB139_144.out _; (with_reducible repeat (first | refine blk_drewN ?_ _ | refine blk_drew ?_ | refine blk_alloc ?_ _)); exact BK139.out⟩, ⟨by (with_reducible repeat (first | refine blk_drewN ?_ _ | refine blk_drew ?_ | refine blk_alloc ?_ _)); refine blk_far ?_ NB140_144.out _; (with_reducible repeat (first | refine blk_drewN ?_ _ | refine blk_drew ?_ | refine blk_alloc ?_ _)); refine blk_far ?_ NB140_144.out _; (with_reducible repeat (first | refine blk_drewN ?_ _ | refine blk_drew ?_ | refine blk_alloc ?_ _)); exact BK140.out⟩, ⟨oo⟩, ⟨BU HB⟩⟩
  case round =>
    clear H'
    obtain ⟨x6_1, x145001_1, u145001, rfl, HA, HK1, HO_145001, BK138, BK139, BK140, BK144, HB⟩ := hrel
    cases gk with
    | zero => exact absurd HA.out (by simp [spec_l01Beside.l0])
    | succ k1 =>
      have H := HA.out
      clear HA
      simp only [spec_l01Beside.l0] at H
      by_cases c15 : x6_1 < a1_0
      · rw [if_pos c15] at H
        have c15b0 := decide_eq_true c15
        clear c15
        by_cases c16 : 0 ≤ x6_1
        · rw [if_pos c16] at H
          have c16b0 := decide_eq_true c16
          clear c16
          by_cases c17 : x6_1 < (l1_1.length : Int)
          · rw [if_pos c17] at H
            have c17b0 := decide_eq_true c17
            clear c17
            obtain ⟨ji18, hji18⟩ : ∃ j_ : Int, (IntKind.u64.wrap (a0_0)) = j_ := ⟨_, rfl⟩
            rw [hji18] at H
            by_cases c19 : 0 ≤ (ji18)
            · rw [if_pos c19] at H
              have c19b0 := eq_true c19
              have c19b1 := decide_eq_true c19
              clear c19
              obtain ⟨ji20, hji20⟩ : ∃ j_ : Int, (shl .i64 (rd l1_1 x6_1) (ji18)) = j_ := ⟨_, rfl⟩
              rw [hji20] at H
              have hji20_ : (IntKind.i64.wrap ((rd l1_1 x6_1) * 2 ^ min (ji18).toNat 64)) = ji20 := hji20
              have hji20z : (ji18) ≤ 64 → (IntKind.i64.wrap ((rd l1_1 x6_1) * 2 ^ (ji18).toNat)) = ji20 := shl_small hji20
              have hji20y : (wrap64 ((rd l1_1 x6_1) * 2 ^ min (ji18).toNat 64)) = ji20 := (i64_w _).symm.trans hji20_
              have hji20x : (ji18) ≤ 64 → (wrap64 ((rd l1_1 x6_1) * 2 ^ (ji18).toNat)) = ji20 := fun h_ => (i64_w _).symm.trans (hji20z h_)
              by_cases c21 : x145001_1.length < 17592186044416
              · rw [if_pos c21] at H
                have LMc21 := Fa.mk c21
                clear c21
                obtain ⟨y146, hy146⟩ : ∃ y_ : List Int, y_ = (x145001_1 ++ [ji20]) := ⟨_, rfl⟩
                first | replace H := bs_ hy146 H | rw [← hy146] at H
                have Ny146 := Fa.mk hy146
                clear hy146
                have H' := Fa.mk H
                clear H
                have hnb22 := NB139_138.out
                have hnc22 := NB138_139.out
                have hnb23 := NB139_140.out
                have hnc23 := NB140_139.out
                have hnb24 := NB139_144.out
                have hnc24 := NB144_139.out
                obtain ⟨hcz25_0, hcz25_1, hfz25_0, hfz25_1⟩ := cz2 BK139.out
                try go_wp2
                replace HO_145001 := Fa.mk (Kd.R_drew HO_145001.out); replace BK138 := Fa.mk (blk_drew BK138.out); replace BK139 := Fa.mk (blk_drew BK139.out); replace BK140 := Fa.mk (blk_drew BK140.out); replace BK144 := Fa.mk (blk_drew BK144.out); replace HB := Fa.mk (below_drew1 HB.out)
                have p145 : 0 ≤ (x6_1 : Int) := of_decide_eq_true (by assumption)
                have q145 : x6_1 < (l1_1.length : Int) := of_decide_eq_true (by assumption)
                obtain ⟨ad145, e145, hx145_0⟩ := Kd.at_int HR1_1.out x6_1 p145 q145
                have hw145_0 := hx145_0
                cases e145
                replace hx145_0 := (HB.out.cell (World.block_lt_of_cell? w _ hx145_0)).trans hx145_0
                replace p145 := eq_true p145
                replace q145 := eq_true q145
                refine start_ (n := 15) (S := fun w' => w'.cell? ⟨gb144, 0, none⟩ = some (.int .i64 (wrap64 (a0_0 + a1_0))) ∧ w'.cell? ⟨gb144, 1, none⟩ = some (u145001) ∧ w'.cell? ⟨gb139, 0, none⟩ = some (.int .i64 a1_0) ∧ w'.cell? ⟨gb139, 1, none⟩ = some (.slice (some ad145) l1_1.length c1_1) ∧ w'.cell? ⟨gb138, 0, none⟩ = some (.int .i64 a0_0) ∧ w'.cell? ⟨gb138, 1, none⟩ = some (.slice A0_1 l0_1.length c0_1) ∧ w'.cell? (ad145.add (x6_1).toNat) = some (.int .i64 (rd l1_1 x6_1))) (ds := [14]) #[ff, ff, ff, ff, ff, ff, ff, ff, ff, ff, ff, ff, ff, ff, ff] (by kernel_rfl) rfl rfl ⟨(blk_cell BK144.out 0).trans rfl, (blk_cell BK144.out 1).trans rfl, (blk_cell BK139.out 0).trans rfl, (blk_cell BK139.out 1).trans rfl, (blk_cell BK138.out 0).trans rfl, (blk_cell BK138.out 1).trans rfl, ((HB.out.cell (World.block_lt_of_cell? _ _ hw145_0)).trans hw145_0)⟩ (fun hHeld => ?_); refine with_tabW spec_l01Beside.tab5 spec_l01Beside.bits5 (fun HT_ HW_ => ?_)
                generalize wr.drew = w26 at HO_145001 BK138 BK139 BK140 BK144 HB hx145_0 hHeld ⊢
                refine pu 0 22 ?_ #[tt, ff, ff, ff, ff, ff, ff, ff, ff, ff, ff, ff, ff, ff, ff] rfl rfl (any_of HT_.out (by kernel_rfl)) (Or.inl ⟨by rfl, ?_⟩) ?_ ?_ ?_; rotate_left; intro w'; go_simp; with_reducible rfl; rotate_left; simp only [Act.put, sA, sZ, sC, i64_w, i32_w]; rfl
                refine pu 2 24 ?_ #[tt, ff, tt, ff, ff, ff, ff, ff, ff, ff, ff, ff, ff, ff, ff] rfl rfl (any_of HT_.out (by kernel_rfl)) (Or.inl ⟨by rfl, ?_⟩) ?_ ?_ ?_; rotate_left; intro w'; go_simp; with_reducible rfl; rotate_left; simp only [Act.put, sA, sZ, sC, i64_w, i32_w]; rfl
                refine pu 4 26 ?_ #[tt, ff, tt, ff, tt, ff, ff, ff, ff, ff, ff, ff, ff, ff, ff] rfl rfl (any_of HT_.out (by kernel_rfl)) (Or.inl ⟨by rfl, ?_⟩) ?_ ?_ ?_; rotate_left; intro w'; go_simp; with_reducible rfl; rotate_left; simp only [Act.put, sA, sZ, sC, i64_w, i32_w]; rfl
                refine pu 7 29 ?_ #[tt, ff, tt, ff, tt, ff, ff, tt, ff, ff, ff, ff, ff, ff, ff] rfl rfl (any_of HT_.out (by kernel_rfl)) (Or.inl ⟨by rfl, ?_⟩) ?_ ?_ ?_; rotate_left; intro w'; go_simp; with_reducible rfl; rotate_left; simp only [Act.put, sA, sZ, sC, i64_w, i32_w]; rfl
                refine tk 1 23 ?_ #[tt, tt, tt, ff, tt, ff, ff, tt, ff, ff, ff, ff, ff, ff, ff] rfl rfl (take_ofW HT_.out HW_.out (by kernel_rfl)) (Or.inl ⟨by rfl, ?_⟩) hHeld ?_ ?_ ?_; rotate_left; rintro w' ⟨s0, s1, s2, s3, s4, s5, s6⟩; go_simp; with_reducible rfl; rotate_left; simp only [Act.put, sA, sZ, sC, i64_w, i32_w]; rfl
                refine tk 3 25 ?_ #[tt, tt, tt, tt, tt, ff, ff, tt, ff, ff, ff, ff, ff, ff, ff] rfl rfl (take_ofW HT_.out HW_.out (by kernel_rfl)) (Or.inl ⟨by rfl, ?_⟩) hHeld ?_ ?_ ?_; rotate_left; rintro w' ⟨s0, s1, s2, s3, s4, s5, s6⟩; go_simp; with_reducible rfl; rotate_left; simp only [Act.put, sA, sZ, sC, i64_w, i32_w]; rfl
                refine pu 5 27 ?_ #[tt, tt, tt, tt, tt, tt, ff, tt, ff, ff, ff, ff, ff, ff, ff] rfl rfl (any_of HT_.out (by kernel_rfl)) (Or.inl ⟨by rfl, ?_⟩) ?_ ?_ ?_; rotate_left; intro w'; go_simp; with_reducible rfl; rotate_left; simp only [Act.put, sA, sZ, sC, i64_w, i32_w]; rfl
                refine tk 6 28 ?_ #[tt, tt, tt, tt, tt, tt, tt, tt, ff, ff, ff, ff, ff, ff, ff] rfl rfl (take_ofW HT_.out HW_.out (by kernel_rfl)) (Or.inl ⟨by rfl, ?_⟩) hHeld ?_ ?_ ?_; rotate_left; rintro w' ⟨s0, s1, s2, s3, s4, s5, s6⟩; go_simp; with_reducible rfl; rotate_left; simp only [Act.put, sA, sZ, sC, i64_w, i32_w]; rfl
                refine tk 8 30 ?_ #[tt, tt, tt, tt, tt, tt, tt, tt, tt, ff, ff, ff, ff, ff, ff] rfl rfl (take_ofW HT_.out HW_.out (by kernel_rfl)) (Or.inl ⟨by rfl, ?_⟩) hHeld ?_ ?_ ?_; rotate_left; rintro w' ⟨s0, s1, s2, s3, s4, s5, s6⟩; go_simp; with_reducible rfl; rotate_left; simp only [Act.put, sA, sZ, sC, i64_w, i32_w]; rfl
                refine pu 9 31 ?_ #[tt, tt, tt, tt, tt, tt, tt, tt, tt, tt, ff, ff, ff, ff, ff] rfl rfl (any_of HT_.out (by kernel_rfl)) (Or.inl ⟨by rfl, ?_⟩) ?_ ?_ ?_; rotate_left; intro w'; go_simp; with_reducible rfl; rotate_left; simp only [Act.put, sA, sZ, sC, i64_w, i32_w]; rfl
                refine pu 10 32 ?_ #[tt, tt, tt, tt, tt, tt, tt, tt, tt, tt, tt, ff, ff, ff, ff] rfl rfl (any_of HT_.out (by kernel_rfl)) (Or.inl ⟨by rfl, ?_⟩) ?_ ?_ ?_; rotate_left; intro w'; go_simp; with_reducible rfl; rotate_left; simp only [Act.put, sA, sZ, sC, i64_w, i32_w]; rfl
                refine one_ (i := 11) (N := some 33) #[tt, tt, tt, tt, tt, tt, tt, tt, tt, tt, tt, tt, ff, ff, ff] rfl rfl (one_of HT_.out (by kernel_rfl)) (by decide) (fun K hK => ?_)
                refine value_ (w1 := ?_) (v := ?_) (by rfl) rfl ?_ ?_
                rotate_left 2
                · go_simp
                  constructor
                  · rfl
                  · rfl
                refine hK.out _ _ ⟨(blk_cell (blk_alloc BK144.out _) 0).trans rfl, (blk_cell (blk_alloc BK144.out _) 1).trans rfl, (blk_cell (blk_alloc BK139.out _) 0).trans rfl, (blk_cell (blk_alloc BK139.out _) 1).trans rfl, (blk_cell (blk_alloc BK138.out _) 0).trans rfl, (blk_cell (blk_alloc BK138.out _) 1).trans rfl, (World.cell?_alloc_lt _ _ _ (World.block_lt_of_cell? _ _ (((HB.out.cell (World.block_lt_of_cell? _ _ hw145_0)).trans hw145_0)))).trans (((HB.out.cell (World.block_lt_of_cell? _ _ hw145_0)).trans hw145_0))⟩ (fun hHeld => ?_)
                clear hK K
                refine norm_ (a' := ?_) ?_ ?_
                rotate_left
                · show Act.put _ (some 33) _ = _
                  simp only [Act.put, sA, sZ, sC, i64_w, i32_w]
                  rfl
                refine one_ (i := 12) (N := some 34) #[tt, tt, tt, tt, tt, tt, tt, tt, tt, tt, tt, tt, tt, ff, ff] rfl rfl (one_of HT_.out (by kernel_rfl)) (by decide) (fun K hK => ?_)
                refine Kd.R_append_step (Kd.int .i64) (w0 := w) w.heap.size (by rfl) (.tmp 23) (.tmp 33) 24 2 (.int .i64 0) 8 rfl Tryd.underlying24 info2 rfl (by decide) (by omega) u145001 x145001_1 ji20 [.int .i64 ji20] (fun _ => True) (fun _ => False) rfl rfl ?aP (fun _ hk => hk.elim) ?aF ?aO ?aB ?aS ?aL ?_
                (case aP => exact rfl)
                (case aB => exact (BU HB))
                (case aF => exact (fun _ _ => trivial))
                (case aO => exact (rU HO_145001))
                (case aS => exact (below_size (BU HB)))
                (case aL => have := LMc21.out; omega)
                intro v147 w27 ho hb hg hat
                rw [← Ny146.out] at ho
                replace BK138 := Fa.mk (blk_grown (bU BK138) hg (Kd.R_ne HO_145001.out BK138.out (by decide))); replace BK139 := Fa.mk (blk_grown (bU BK139) hg (Kd.R_ne HO_145001.out BK139.out (by decide))); replace BK140 := Fa.mk (blk_grown (bU BK140) hg (Kd.R_ne HO_145001.out BK140.out (by decide))); replace BK144 := Fa.mk (blk_grown (bU BK144) hg (Kd.R_ne HO_145001.out BK144.out (by decide))); have HO148 := Fa.mk ho; replace HB := Fa.mk hb; clear HO_145001
                clear ho hb hg hat
                obtain ⟨Ao28, co28, eo28⟩ := Kd.R_slice HO148.out
                (first | subst eo28 | (injection eo28 with f1_ f2_ f3_; have f4_ := f1_.symm; have f5_ := f3_.symm; clear f1_ f2_ f3_; subst f4_; subst f5_))
                refine hK.out _ _ ⟨(blk_cell BK144.out 0).trans rfl, (blk_cell BK144.out 1).trans rfl, (blk_cell BK139.out 0).trans rfl, (blk_cell BK139.out 1).trans rfl, (blk_cell BK138.out 0).trans rfl, (blk_cell BK138.out 1).trans rfl, ((HB.out.cell (World.block_lt_of_cell? _ _ hw145_0)).trans hw145_0)⟩ (fun hHeld => ?_)
                clear hK K
                refine norm_ (a' := ?_) ?_ ?_
                rotate_left
                · show Act.put _ (some 34) _ = _
                  simp only [Act.put, sA, sZ, sC, i64_w, i32_w]
                  rfl
                refine pu 13 35 ?_ #[tt, tt, tt, tt, tt, tt, tt, tt, tt, tt, tt, tt, tt, tt, ff] rfl rfl (any_of HT_.out (by kernel_rfl)) (Or.inl ⟨by rfl, ?_⟩) ?_ ?_ ?_; rotate_left; intro w'; go_simp; with_reducible rfl; rotate_left; simp only [Act.put, sA, sZ, sC, i64_w, i32_w]; rfl
                refine last_ (i := 14) (N := none) #[tt, tt, tt, tt, tt, tt, tt, tt, tt, tt, tt, tt, tt, tt, tt] rfl rfl (one_of HT_.out (by kernel_rfl)) (by decide) (fun K hK => ?_)
                have hs29 : w27.cell? ⟨gb144, 1, none⟩ = some (u145001) := (blk_cell BK144.out 1).trans rfl
                have hfs29 := blk_frozen BK144.out 1
                have hns29_0 := NB138_144.out
                have hns29_1 := NB139_144.out
                have hns29_2 := NB140_144.out
                have hms29_0 := NB144_138.out
                have hms29_1 := NB144_139.out
                have hms29_2 := NB144_140.out
                refine skip_ (w1 := ?_) (by rfl) rfl ?_ ?_
                rotate_left
                · go_simp
                  rfl
                refine hK.out _ _ ?_
                clear hK K
                refine done_ (done_of HT_.out (by kernel_rfl)) ?_
                try go_wp2
                go_roundg k1
                case measure => have := HK1.out; omega
                case rel => exact ⟨(wrap64 (x6_1 + 1)), (y146), (.slice Ao28 y146.length co28), rfl, H', ⟨by have := HK1.out; omega⟩, ⟨by (with_reducible repeat (first | apply Kd.R_alloc | apply Kd.R_drewN | apply Kd.R_drew)); exact Kd.R_mono (Kd.R_far (p := ⟨gb144, 1, none⟩) (Kd.R_types HO148.out BK144.out (by decide)) (fun _ hk => hk.2) (.slice Ao28 y146.length co28)) (fun _ hk => trivial)⟩, ⟨by (with_reducible repeat (first | refine blk_drewN ?_ _ | refine blk_drew ?_ | refine blk_alloc ?_ _)); refine blk_far ?_ NB138_144.out _; (with_reducible repeat (first | refine blk_drewN ?_ _ | refine blk_drew ?_ | refine blk_alloc ?_ _)); exact BK138.out⟩, ⟨by (with_reducible repeat (first | refine blk_drewN ?_ _ | refine blk_drew ?_ | refine blk_alloc ?_ _)); refine blk_far ?_ NB139_144.out _; (with_reducible repeat (first | refine blk_drewN ?_ _ | refine blk_drew ?_ | refine blk_alloc ?_ _)); exact BK139.out⟩, ⟨by (with_reducible repeat (first | refine blk_drewN ?_ _ | refine blk_drew ?_ | refine blk_alloc ?_ _)); refine blk_far ?_ NB140_144.out _; (with_reducible repeat (first | refine blk_drewN ?_ _ | refine blk_drew ?_ | refine blk_alloc ?_ _)); exact BK140.out⟩, ⟨oo⟩, ⟨BU HB⟩⟩
              · rw [if_neg c21] at H
                exact absurd H (by simp)
            · rw [if_neg c19] at H
              exact absurd H (by simp)
          · rw [if_neg c17] at H
            exact absurd H (by simp)
        · rw [if_neg c16] at H
          exact absurd H (by simp)
      · rw [if_neg c15] at H
        have c15b0 := decide_eq_false c15
        clear c15
        simp only [Option.some.injEq, Prod.mk.injEq] at H
        obtain ⟨rfl, rfl⟩ := H
        have hnb30 := NB139_138.out
        have hnc30 := NB138_139.out
        have hnb31 := NB139_140.out
        have hnc31 := NB140_139.out
        have hnb32 := NB139_144.out
        have hnc32 := NB144_139.out
        obtain ⟨hcz33_0, hcz33_1, hfz33_0, hfz33_1⟩ := cz2 BK139.out
        have hnb34 := NB144_138.out
        have hnc34 := NB138_144.out
        have hnb35 := NB144_140.out
        have hnc35 := NB140_144.out
        obtain ⟨hcz36_0, hcz36_1, hfz36_0, hfz36_1⟩ := cz2 BK144.out
        have hnb37 := NB140_138.out
        have hnc37 := NB138_140.out
        obtain ⟨hcz38_0, hcz38_1, hfz38_0, hfz38_1⟩ := cz2 BK140.out
        obtain ⟨Ao39, co39, eo39⟩ := Kd.R_slice HO_145001.out
        subst eo39
        go_wp2
        refine bodyPost_ret (results_cell_row rfl _ _ gb140 26 #[.int .i64 (wrap64 (a0_0 + a1_0)), .slice Ao39 x145001_1.length co39] (0, 0) _ rfl oo Tryd.underlying26 rfl (by kernel_rfl)) rfl ?_
        exact ⟨_, rfl, by (with_reducible repeat (first | apply Kd.R_alloc | apply Kd.R_drewN | apply Kd.R_drew)); exact Kd.R_mono (Kd.R_far (p := ⟨gb140, 1, none⟩) (Kd.R_far (p := ⟨gb140, 0, none⟩) (Kd.R_types HO_145001.out BK140.out (by decide)) (fun _ hk => hk.2) (.int .i64 (wrap64 (a0_0 + a1_0)))) (fun _ hk => hk.2) (.slice Ao39 x145001_1.length co39)) (fun _ hk => trivial), BU HB⟩

end Go.Proofs.YtockngphfpedkaaDoor.XFnDistances
