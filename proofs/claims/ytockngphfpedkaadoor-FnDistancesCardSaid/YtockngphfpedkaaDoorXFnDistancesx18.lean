-- Written by this project's own program (mprint.py) by means of the kit's printer: with contracts of its own for the functions that the printer leaves out.
import Derived.Test.YtockngphfpedkaaDoorXFnDistancesx0
import Derived.Test.YtockngphfpedkaaDoorXFnDistancesx11
import Derived.Test.YtockngphfpedkaaDoorXFnDistancesx12
import Derived.Test.YtockngphfpedkaaDoorXFnDistancesx15
import Derived.Test.YtockngphfpedkaaDoorXFnDistancesx16
import Derived.Test.YtockngphfpedkaaDoorXFnDistancesx17
namespace Go.Proofs.YtockngphfpedkaaDoor.XFnDistances
open Go.RowKit Go.Proofs.YtockngphfpedkaaDoorW.PrintWords Go.Proofs.YtockngphfpedkaaDoorW.PrintLast Go.Proofs.YtockngphfpedkaaDoorW.PrintMore
attribute [local go_sem] max2_int min2_int max_two min_two max_three min_three max_four min_four   -- for this text's walks alone
set_option linter.unusedVariables false
set_option linter.unusedSimpArgs false

/-! ### impl_Graph_connected: function 82 -/
def impl_Graph_connected.f (k : Nat) (a0_0 : Int) (l0_1 : List Int) : Option (Bool) := (impl_Graph_part.f k a0_0 l0_1 0).bind fun t714 => ((impl_all.f a0_0).bind fun t715 => (some (t714 == t715)))
set_option maxHeartbeats 8000000 in
set_option maxRecDepth 100000 in
theorem impl_Graph_connected.calls (k : Nat) (a0_0 : Int) (A0_1 : Option Addr) (c0_1 : Nat) (l0_1 : List Int) (r : Bool) (w : World) (hr0_1 : Kd.C (Kd.int .i64) w A0_1 l0_1.length l0_1) (hc0_1 : l0_1.length ≤ c0_1) (ht : Tab w) (h : impl_Graph_connected.f k a0_0 l0_1 = some r) :
    Calls Tryd.prog 82 #[.agg #[.int .i64 a0_0, .slice A0_1 l0_1.length c0_1]] w fun e w' => e = .returned (.bool r) ∧ Below w.heap.size w w' := by
  have hu26 := Tryd.underlying26
  have HR0_1 := Fa.mk hr0_1
  have HC0_1 := Fa.mk hc0_1
  clear hr0_1 hc0_1
  have HB := Fa.mk (Below.refl w.heap.size w)
  have HT := Fa.mk ht
  clear ht
  unfold impl_Graph_connected.f at h; have H := h
  clear h
  replace H := Option.bind_eq_some_iff.mp H
  obtain ⟨t714, A20, H⟩ := H
  replace H : ((impl_all.f a0_0).bind fun t715 => (some (t714 == t715))) = some r := H
  have A2 := Fa.mk A20
  clear A20
  replace H := Option.bind_eq_some_iff.mp H
  obtain ⟨t715, A30, H⟩ := H
  replace H : (some (t714 == t715)) = some r := H
  have A3 := Fa.mk A30
  clear A30
  obtain rfl := Option.some.inj H
  go_enter Tryd.func82, Tryd.ntmps82
  try go_wp2_with (first | ((with_reducible refine gd 1 rfl ?_); refine box_event ?hg (N := 1) ?hd (cs := #[.int .i64 a0_0, .slice A0_1 l0_1.length c0_1]) (t := 26) ?hr ?_; (case hd => rfl); (case hg => rfl); (case hr => first | (go_simp; done) | (go_simp; rfl)); intro gb713 hg w4 hbox hb; have BK713 := Fa.mk hbox; have GW713 := Fa.mk (bsz hg (BU HB) : w.heap.size ≤ gb713); have GE713 := GW713; replace HB := Fa.mk (below_step (BU HB) hb); clear hb hbox hg))
  replace BK713 := Fa.mk (blk_drew BK713.out); replace HB := Fa.mk (below_drew1 HB.out)
  refine start_ (n := 7) (S := fun w' => w'.cell? ⟨gb713, 0, none⟩ = some (.int .i64 a0_0) ∧ w'.cell? ⟨gb713, 1, none⟩ = some (.slice A0_1 l0_1.length c0_1)) (ds := []) #[ff, ff, ff, ff, ff, ff, ff] (by kernel_rfl) rfl rfl ⟨(blk_cell BK713.out 0).trans rfl, (blk_cell BK713.out 1).trans rfl⟩ (fun hHeld => ?_)
  generalize w4.drew = w5 at BK713 HB hHeld ⊢
  refine pu 2 5 ?_ #[ff, ff, tt, ff, ff, ff, ff] rfl rfl (by kernel_rfl) (Or.inl ⟨by rfl, ?_⟩) ?_ ?_ ?_; rotate_left; intro w'; go_simp; with_reducible rfl; rotate_left; simp only [Act.put, sA, sZ, sC, i64_w, i32_w]; rfl
  refine tk 0 3 ?_ #[tt, ff, tt, ff, ff, ff, ff] rfl rfl (by kernel_rfl) (Or.inl ⟨by rfl, ?_⟩) hHeld ?_ ?_ ?_; rotate_left; rintro w' ⟨s0, s1⟩; go_simp; with_reducible rfl; rotate_left; simp only [Act.put, sA, sZ, sC, i64_w, i32_w]; rfl
  refine tk 3 6 ?_ #[tt, ff, tt, tt, ff, ff, ff] rfl rfl (by kernel_rfl) (Or.inl ⟨by rfl, ?_⟩) hHeld ?_ ?_ ?_; rotate_left; rintro w' ⟨s0, s1⟩; go_simp; with_reducible rfl; rotate_left; simp only [Act.put, sA, sZ, sC, i64_w, i32_w]; rfl
  refine one_ (i := 1) (N := some 4) #[tt, tt, tt, tt, ff, ff, ff] rfl rfl (by kernel_rfl) (by decide) (fun K hK => ?_)
  refine goes_ Tryd.func108 (by kernel_rfl) rfl #[.agg #[.int .i64 a0_0, .slice A0_1 l0_1.length c0_1], .int .i64 0] (by rfl) rfl rfl (by first | rfl | (simp only [mA, mC, mN]; rfl)) ?_
  with_reducible refine (impl_Graph_part.calls k a0_0 _ _ l0_1 0 t714 _ ?side1 ?side2 ?side3 A2.out).mono ?_
  (case side1 => exact Kd.C_below HR0_1.out (BU HB))
  (case side2 => exact HC0_1.out)
  (case side3 => exact Tab.below HT.out (BU HB))
  rintro e w6 ⟨rfl, hb⟩
  refine ⟨_, rfl, ?_⟩
  replace BK713 := Fa.mk (blk_below (bU BK713) hb); replace HB := Fa.mk (below_step (BU HB) hb)
  refine hK.out _ _ ⟨(blk_cell BK713.out 0).trans rfl, (blk_cell BK713.out 1).trans rfl⟩ (fun hHeld => ?_)
  clear hK K
  refine norm_ (a' := ?_) ?_ ?_
  rotate_left
  · show Act.put _ (some 4) _ = _
    simp only [Act.put, sA, sZ, sC, i64_w, i32_w]
    rfl
  refine one_ (i := 4) (N := some 7) #[tt, tt, tt, tt, tt, ff, ff] rfl rfl (by kernel_rfl) (by decide) (fun K hK => ?_)
  refine goes_ Tryd.func109 (by kernel_rfl) rfl #[.int .i64 a0_0] (by rfl) rfl rfl (by first | rfl | (simp only [mA, mC, mN]; rfl)) ?_
  with_reducible refine (impl_all.calls a0_0 t715 _ A3.out).mono ?_
  rintro e w' ⟨rfl, ⟨nd, rfl⟩⟩
  refine ⟨_, rfl, ?_⟩
  refine hK.out _ _ ⟨(blk_cell BK713.out 0).trans rfl, (blk_cell BK713.out 1).trans rfl⟩ (fun hHeld => ?_)
  clear hK K
  refine norm_ (a' := ?_) ?_ ?_
  rotate_left
  · show Act.put _ (some 7) _ = _
    simp only [Act.put, sA, sZ, sC, i64_w, i32_w]
    rfl
  refine pu 5 8 ?_ #[tt, tt, tt, tt, tt, tt, ff] rfl rfl (by kernel_rfl) (Or.inl ⟨by rfl, ?_⟩) ?_ ?_ ?_; rotate_left; intro w'; go_simp; with_reducible rfl; rotate_left; simp only [Act.put, sA, sZ, sC, i64_w, i32_w]; rfl
  refine pu 6 2 ?_ #[tt, tt, tt, tt, tt, tt, tt] rfl rfl (by kernel_rfl) (Or.inl ⟨by rfl, ?_⟩) ?_ ?_ ?_; rotate_left; intro w'; go_simp; with_reducible rfl; rotate_left; simp only [Act.put, sA, sZ, sC, i64_w, i32_w]; rfl
  refine done_ (by kernel_rfl) ?_
  try go_wp2
  go_ret
  exact ⟨rfl, BU HB⟩

/-! ### impl_connectedCode: function 45 -/
def impl_connectedCode.f (k : Nat) (a0_0 : Int) (l0_1 : List Int) : Option (Int) := (impl_IsGraph.f k a0_0 l0_1).bind fun t717 => (if t717 = true then ((impl_Graph_connected.f k a0_0 l0_1).bind fun t718 => (if t718 = true then (some 0) else (some 5))) else (some 1))
set_option maxHeartbeats 8000000 in
set_option maxRecDepth 100000 in
theorem impl_connectedCode.calls (k : Nat) (a0_0 : Int) (A0_1 : Option Addr) (c0_1 : Nat) (l0_1 : List Int) (r : Int) (w : World) (hr0_1 : Kd.C (Kd.int .i64) w A0_1 l0_1.length l0_1) (hc0_1 : l0_1.length ≤ c0_1) (ht : Tab w) (h : impl_connectedCode.f k a0_0 l0_1 = some r) :
    Calls Tryd.prog 45 #[.agg #[.int .i64 a0_0, .slice A0_1 l0_1.length c0_1]] w fun e w' => e = .returned (.int .i64 r) ∧ Below w.heap.size w w' := by
  have hu26 := Tryd.underlying26
  have HR0_1 := Fa.mk hr0_1
  have HC0_1 := Fa.mk hc0_1
  clear hr0_1 hc0_1
  have HB := Fa.mk (Below.refl w.heap.size w)
  have HT := Fa.mk ht
  clear ht
  unfold impl_connectedCode.f at h; have H := h
  clear h
  replace H := Option.bind_eq_some_iff.mp H
  obtain ⟨t717, A20, H⟩ := H
  replace H : (if t717 = true then ((impl_Graph_connected.f k a0_0 l0_1).bind fun t718 => (if t718 = true then (some 0) else (some 5))) else (some 1)) = some r := H
  have A2 := Fa.mk A20
  clear A20
  by_cases c3 : t717 = true
  · subst c3
    have H1 : ((impl_Graph_connected.f k a0_0 l0_1).bind fun t718 => (if t718 = true then (some 0) else (some 5))) = some r := by rw [if_pos rfl] at H; exact H
    clear H
    have H := H1
    clear H1
    replace H := Option.bind_eq_some_iff.mp H
    obtain ⟨t718, A40, H⟩ := H
    replace H : (if t718 = true then (some 0) else (some 5)) = some r := H
    have A4 := Fa.mk A40
    clear A40
    by_cases c5 : t718 = true
    · subst c5
      have H1 : (some 0) = some r := by rw [if_pos rfl] at H; exact H
      clear H
      have H := H1
      clear H1
      obtain rfl := Option.some.inj H
      go_enter Tryd.func45, Tryd.ntmps45
      go_wp2_with (first | ((with_reducible refine gd 1 rfl ?_); refine box_event ?hg (N := 1) ?hd (cs := #[.int .i64 a0_0, .slice A0_1 l0_1.length c0_1]) (t := 26) ?hr ?_; (case hd => rfl); (case hg => rfl); (case hr => first | (go_simp; done) | (go_simp; rfl)); intro gb716 hg w6 hbox hb; have BK716 := Fa.mk hbox; have GW716 := Fa.mk (bsz hg (BU HB) : w.heap.size ≤ gb716); have GE716 := GW716; replace HB := Fa.mk (below_step (BU HB) hb); clear hb hbox hg; obtain ⟨hcz7_0, hcz7_1, hfz7_0, hfz7_1⟩ := cz2 BK716.out) | ((with_reducible refine gc 51 rfl ?_); refine gL 5 Tryd.func51 #[.agg #[.int .i64 a0_0, .slice A0_1 l0_1.length c0_1]] rfl (by first | rfl | (simp only [mA, mC, mN]; rfl)) ?_; (with_reducible refine (impl_IsGraph.calls k a0_0 _ _ l0_1 true _ (Kd.C_below HR0_1.out (BU HB)) HC0_1.out A2.out).mono ?_); rintro e w8 ⟨rfl, hb⟩; refine ⟨_, rfl, ?_⟩; replace BK716 := Fa.mk (blk_below (bU BK716) hb); replace HB := Fa.mk (below_step (BU HB) hb); obtain ⟨hcz9_0, hcz9_1, hfz9_0, hfz9_1⟩ := cz2 BK716.out) | ((with_reducible refine gc 82 rfl ?_); refine gL 9 Tryd.func82 #[.agg #[.int .i64 a0_0, .slice A0_1 l0_1.length c0_1]] rfl (by first | rfl | (simp only [mA, mC, mN]; rfl)) ?_; (with_reducible refine (impl_Graph_connected.calls k a0_0 _ _ l0_1 true _ (Kd.C_below HR0_1.out (BU HB)) HC0_1.out (Tab.below HT.out (BU HB)) A4.out).mono ?_); rintro e w10 ⟨rfl, hb⟩; refine ⟨_, rfl, ?_⟩; replace BK716 := Fa.mk (blk_below (bU BK716) hb); replace HB := Fa.mk (below_step (BU HB) hb)))
      go_ret
      exact ⟨rfl, BU HB⟩
    · replace c5 := Bool.eq_false_iff.mpr c5
      subst c5
      have H1 : (some 5) = some r := by rw [if_neg (show ¬ (false = true) by decide)] at H; exact H
      clear H
      have H := H1
      clear H1
      obtain rfl := Option.some.inj H
      go_enter Tryd.func45, Tryd.ntmps45
      go_wp2_with (first | ((with_reducible refine gd 1 rfl ?_); refine box_event ?hg (N := 1) ?hd (cs := #[.int .i64 a0_0, .slice A0_1 l0_1.length c0_1]) (t := 26) ?hr ?_; (case hd => rfl); (case hg => rfl); (case hr => first | (go_simp; done) | (go_simp; rfl)); intro gb716 hg w11 hbox hb; have BK716 := Fa.mk hbox; have GW716 := Fa.mk (bsz hg (BU HB) : w.heap.size ≤ gb716); have GE716 := GW716; replace HB := Fa.mk (below_step (BU HB) hb); clear hb hbox hg; obtain ⟨hcz12_0, hcz12_1, hfz12_0, hfz12_1⟩ := cz2 BK716.out) | ((with_reducible refine gc 51 rfl ?_); refine gL 5 Tryd.func51 #[.agg #[.int .i64 a0_0, .slice A0_1 l0_1.length c0_1]] rfl (by first | rfl | (simp only [mA, mC, mN]; rfl)) ?_; (with_reducible refine (impl_IsGraph.calls k a0_0 _ _ l0_1 true _ (Kd.C_below HR0_1.out (BU HB)) HC0_1.out A2.out).mono ?_); rintro e w13 ⟨rfl, hb⟩; refine ⟨_, rfl, ?_⟩; replace BK716 := Fa.mk (blk_below (bU BK716) hb); replace HB := Fa.mk (below_step (BU HB) hb); obtain ⟨hcz14_0, hcz14_1, hfz14_0, hfz14_1⟩ := cz2 BK716.out) | ((with_reducible refine gc 82 rfl ?_); refine gL 9 Tryd.func82 #[.agg #[.int .i64 a0_0, .slice A0_1 l0_1.length c0_1]] rfl (by first | rfl | (simp only [mA, mC, mN]; rfl)) ?_; (with_reducible refine (impl_Graph_connected.calls k a0_0 _ _ l0_1 false _ (Kd.C_below HR0_1.out (BU HB)) HC0_1.out (Tab.below HT.out (BU HB)) A4.out).mono ?_); rintro e w15 ⟨rfl, hb⟩; refine ⟨_, rfl, ?_⟩; replace BK716 := Fa.mk (blk_below (bU BK716) hb); replace HB := Fa.mk (below_step (BU HB) hb)))
      go_ret
      exact ⟨rfl, BU HB⟩
  · replace c3 := Bool.eq_false_iff.mpr c3
    subst c3
    have H1 : (some 1) = some r := by rw [if_neg (show ¬ (false = true) by decide)] at H; exact H
    clear H
    have H := H1
    clear H1
    obtain rfl := Option.some.inj H
    go_enter Tryd.func45, Tryd.ntmps45
    go_wp2_with (first | ((with_reducible refine gd 1 rfl ?_); refine box_event ?hg (N := 1) ?hd (cs := #[.int .i64 a0_0, .slice A0_1 l0_1.length c0_1]) (t := 26) ?hr ?_; (case hd => rfl); (case hg => rfl); (case hr => first | (go_simp; done) | (go_simp; rfl)); intro gb716 hg w16 hbox hb; have BK716 := Fa.mk hbox; have GW716 := Fa.mk (bsz hg (BU HB) : w.heap.size ≤ gb716); have GE716 := GW716; replace HB := Fa.mk (below_step (BU HB) hb); clear hb hbox hg; obtain ⟨hcz17_0, hcz17_1, hfz17_0, hfz17_1⟩ := cz2 BK716.out) | ((with_reducible refine gc 51 rfl ?_); refine gL 5 Tryd.func51 #[.agg #[.int .i64 a0_0, .slice A0_1 l0_1.length c0_1]] rfl (by first | rfl | (simp only [mA, mC, mN]; rfl)) ?_; (with_reducible refine (impl_IsGraph.calls k a0_0 _ _ l0_1 false _ (Kd.C_below HR0_1.out (BU HB)) HC0_1.out A2.out).mono ?_); rintro e w18 ⟨rfl, hb⟩; refine ⟨_, rfl, ?_⟩; replace BK716 := Fa.mk (blk_below (bU BK716) hb); replace HB := Fa.mk (below_step (BU HB) hb)))
    go_ret
    exact ⟨rfl, BU HB⟩

/-! ### impl_Graph_reaches: function 46 -/
def impl_Graph_reaches.l0 : Nat → List Int → Int → Int → Int → List Int → Option (List Int)
  | 0, _, _, _, _, _ => none
  | k + 1, x3, x7, x8, x720000, x720001 => if x8 < x7 then ((impl_Graph_distances.f k x720000 x720001 x8).bind fun t723 => ((slices_Max_int64_int64.f k t723).bind fun t726 => (if x3.length < 17592186044416 then (impl_Graph_reaches.l0 k (x3 ++ [t726]) x7 (wrap64 (x8 + 1)) x720000 x720001) else (none)))) else (some x3)
def impl_Graph_reaches.f (k : Nat) (a0_0 : Int) (l0_1 : List Int) : Option (List Int) := impl_Graph_reaches.l0 k (([] : List Int)) a0_0 0 a0_0 l0_1
set_option maxHeartbeats 8000000 in
set_option maxRecDepth 100000 in
theorem impl_Graph_reaches.calls (k : Nat) (a0_0 : Int) (A0_1 : Option Addr) (c0_1 : Nat) (l0_1 : List Int) (r : List Int) (w : World) (hr0_1 : Kd.C (Kd.int .i64) w A0_1 l0_1.length l0_1) (hc0_1 : l0_1.length ≤ c0_1) (ht : Tab w) (h : impl_Graph_reaches.f k a0_0 l0_1 = some r) :
    Calls Tryd.prog 46 #[.agg #[.int .i64 a0_0, .slice A0_1 l0_1.length c0_1]] w fun e w' => ∃ v0_ : Value, e = .returned (v0_) ∧ Kd.R (Kd.int .i64) 2 w' w.heap.size (fun _ => True) v0_ r ∧ Below w.heap.size w w' := by
  have hu26 := Tryd.underlying26
  have HR0_1 := Fa.mk hr0_1
  have HC0_1 := Fa.mk hc0_1
  clear hr0_1 hc0_1
  have HB := Fa.mk (Below.refl w.heap.size w)
  have HT := Fa.mk ht
  clear ht
  have H : (impl_Graph_reaches.l0 k (([] : List Int)) a0_0 0 a0_0 l0_1) = some r := h
  clear h
  obtain ⟨y720, hy720⟩ : ∃ y_ : List Int, y_ = (([] : List Int)) := ⟨_, rfl⟩
  first | replace H := bs_ hy720 H | rw [← hy720] at H
  have Ny720 := Fa.mk hy720
  clear hy720
  have H' := Fa.mk H
  clear H
  go_enter Tryd.func46, Tryd.ntmps46
  go_wp2_with (first | ((with_reducible refine gd 1 rfl ?_); refine box_event ?hg (N := 1) ?hd (cs := #[.int .i64 a0_0, .slice A0_1 l0_1.length c0_1]) (t := 26) ?hr ?_; (case hd => rfl); (case hg => rfl); (case hr => first | (go_simp; done) | (go_simp; rfl)); intro gb719 hg w2 hbox hb; have BK719 := Fa.mk hbox; have GW719 := Fa.mk (bsz hg (BU HB) : w.heap.size ≤ gb719); have GE719 := GW719; replace HB := Fa.mk (below_step (BU HB) hb); clear hb hbox hg) | ((with_reducible refine gd 5 rfl ?_); refine Kd.R_lit (Kd.int .i64) _ 2 ?hg (N := 5) ?hd (xs := ([] : List Int)) (inner := []) (ok := fun _ => True) (okp := fun _ => True) ?hr ?hp (fun _ hk => hk) trivial (Below.refl _ _) (Nat.le_refl _) (by simp) ?_; (case hd => rfl); (case hg => rfl); (case hr => first | (go_simp; done) | (go_simp; rfl)); (case hp => exact (Reps.none _ _)); intro v721 w3 ho4 hb hg_ hnew_; clear hg_ hnew_; (first | rw [← Ny720.out] at ho4 | (simp only [Int.reduceToNat] at ho4; rw [← Ny720.out] at ho4)); have HO722 := Fa.mk (Kd.R_lower ho4 (below_size (BU HB))); replace BK719 := Fa.mk (blk_below (bU BK719) hb); replace HB := Fa.mk (below_step (BU HB) hb); clear hb ho4; obtain ⟨hcz5_0, hcz5_1, hfz5_0, hfz5_1⟩ := cz2 BK719.out))
  go_loopg [3, 8] k (fun kq v3 v8 w' => ∃ (x3_1 : List Int) (x8_1 : Int), v8 = .int .i64 x8_1 ∧ Fa (impl_Graph_reaches.l0 kq x3_1 a0_0 x8_1 a0_0 l0_1 = some r) ∧ Fa (kq ≤ k) ∧ Fa (Kd.R (Kd.int .i64) 2 w' w.heap.size (fun _ => True) v3 x3_1) ∧ Fa (w'.heap[gb719]? = some (.cells #[.int .i64 a0_0, (.slice A0_1 l0_1.length c0_1)] 26 (0, 0))) ∧ Fa (Below w.heap.size w w'))
  case atStart => exact ⟨(y720), (0), rfl, H', ⟨Nat.le_refl _⟩, ⟨rU HO722⟩, ⟨bU BK719⟩, ⟨BU HB⟩⟩
  case round =>
    clear H'
    obtain ⟨x3_1, x8_1, rfl, HA, HK1, HO_3, BK719, HB⟩ := hrel
    cases gk with
    | zero => exact absurd HA.out (by simp [impl_Graph_reaches.l0])
    | succ k1 =>
      have H := HA.out
      clear HA
      simp only [impl_Graph_reaches.l0] at H
      by_cases c6 : x8_1 < a0_0
      · rw [if_pos c6] at H
        have c6b0 := decide_eq_true c6
        clear c6
        replace H := Option.bind_eq_some_iff.mp H
        obtain ⟨t723, A70, H⟩ := H
        replace H : ((slices_Max_int64_int64.f k1 t723).bind fun t726 => (if x3_1.length < 17592186044416 then (impl_Graph_reaches.l0 k1 (x3_1 ++ [t726]) a0_0 (wrap64 (x8_1 + 1)) a0_0 l0_1) else (none))) = some r := H
        have A7 := Fa.mk A70
        clear A70
        replace H := Option.bind_eq_some_iff.mp H
        obtain ⟨t726, A80, H⟩ := H
        replace H : (if x3_1.length < 17592186044416 then (impl_Graph_reaches.l0 k1 (x3_1 ++ [t726]) a0_0 (wrap64 (x8_1 + 1)) a0_0 l0_1) else (none)) = some r := H
        have A8 := Fa.mk A80
        clear A80
        by_cases c9 : x3_1.length < 17592186044416
        · rw [if_pos c9] at H
          have LMc9 := Fa.mk c9
          clear c9
          obtain ⟨y727, hy727⟩ : ∃ y_ : List Int, y_ = (x3_1 ++ [t726]) := ⟨_, rfl⟩
          first | replace H := bs_ hy727 H | rw [← hy727] at H
          have Ny727 := Fa.mk hy727
          clear hy727
          have H' := Fa.mk H
          clear H
          obtain ⟨hcz10_0, hcz10_1, hfz10_0, hfz10_1⟩ := cz2 BK719.out
          go_wp2_with (first | ((with_reducible refine gc 37 rfl ?_); refine gL 14 Tryd.func37 #[.agg #[.int .i64 a0_0, .slice A0_1 l0_1.length c0_1], .int .i64 x8_1] rfl (by first | rfl | (simp only [mA, mC, mN]; rfl)) ?_; (with_reducible refine (impl_Graph_distances.calls k1 a0_0 _ _ l0_1 x8_1 t723 _ (Kd.C_below HR0_1.out (BU HB)) HC0_1.out (Tab.below HT.out (BU HB)) A7.out).mono ?_); rintro e w11 ⟨v724, rfl, ho0, hb⟩; refine ⟨_, rfl, ?_⟩; have HO725 := Fa.mk (Kd.R_lower (Kd.R_new' ho0 (Kd.R_lt (rU HO_3))) (below_size (BU HB))); replace HO_3 := Fa.mk (Kd.R_elder' (rU HO_3) (Kd.R_base ho0) hb); replace BK719 := Fa.mk (blk_below (bU BK719) hb); replace HB := Fa.mk (below_step (BU HB) hb); obtain ⟨Ao12, co12, eo12⟩ := Kd.R_slice HO725.out; subst eo12) | ((with_reducible refine gc 41 rfl ?_); refine gL 15 Tryd.func41 #[.slice Ao12 t723.length co12] rfl (by first | rfl | (simp only [mA, mC, mN]; rfl)) ?_; (with_reducible refine (slices_Max_int64_int64.calls k1 _ _ t723 t726 _ (rC HO725) ((Kd.R_reads' HO725.out).2.1) A8.out).mono ?_); rintro e w13 ⟨rfl, hb⟩; refine ⟨_, rfl, ?_⟩; replace HO_3 := Fa.mk (Kd.R_below (rU HO_3) hb); replace HO725 := Fa.mk (Kd.R_below (rU HO725) hb); replace BK719 := Fa.mk (blk_below (bU BK719) hb); replace HB := Fa.mk (below_step (BU HB) hb)) | ((with_reducible refine gate_builtin (b := .append) (xs := #[.tmp 11, .tmp 16]) rfl ?_); at_builtin; refine Kd.R_append (Kd.int .i64) (w0 := w) w.heap.size rfl (.tmp 11) (.tmp 16) 24 2 (.int .i64 0) 8 rfl Tryd.underlying24 info2 rfl (by decide) (by omega) u3 x3_1 t726 [.int .i64 t726] (fun k_ => some k_ ≠ (.slice Ao12 t723.length co12 : Value).ownBlock) (fun _ => False) rfl rfl ?aP (fun _ hk => hk.elim) ?aF ?aO ?aB ?aS ?aL ?_; (case aP => exact rfl); (case aB => exact (BU HB)); (case aF => exact (fun k_ hk => Kd.fresh' (Kd.R_lt (rU HO725)) k_ hk)); (case aO => exact (by (with_reducible repeat (first | apply Kd.R_alloc | apply Kd.R_drewN | apply Kd.R_drew)); exact Kd.R_mono HO_3.out (fun _ hk => hk.2))); (case aS => exact (below_size (BU HB))); (case aL => have := LMc9.out; omega); intro v728 w14 ho hb hg hat; rw [← Ny727.out] at ho; replace BK719 := Fa.mk (blk_grown (bU BK719) hg (Kd.R_ne HO_3.out BK719.out (by decide))); replace HO725 := Fa.mk (Kd.R_after (ok := (fun _ => True)) (rU HO725) hg hat); have HO729 := Fa.mk ho; replace HB := Fa.mk hb; clear HO_3; clear ho hb hg hat))
          go_roundg k1
          case measure => have := HK1.out; omega
          case rel => exact ⟨(y727), (wrap64 (x8_1 + 1)), rfl, H', ⟨by have := HK1.out; omega⟩, ⟨by (with_reducible repeat (first | apply Kd.R_alloc | apply Kd.R_drewN | apply Kd.R_drew)); exact Kd.R_mono HO729.out (fun _ hk => trivial)⟩, ⟨bU BK719⟩, ⟨BU HB⟩⟩
        · rw [if_neg c9] at H
          exact absurd H (by simp)
      · rw [if_neg c6] at H
        have c6b0 := decide_eq_false c6
        clear c6
        obtain rfl := Option.some.inj H
        go_wp2
        go_ret
        exact ⟨_, rfl, HO_3.out, BU HB⟩

/-! ### slices_Min_int64_int64: function 47 -/
def slices_Min_int64_int64.l0 : Nat → List Int → Int → Int → Option (Int)
  | 0, _, _, _ => none
  | k + 1, x0, x3, x4 => if x4 < (x0.length : Int) then (if 0 ≤ x4 then (slices_Min_int64_int64.l0 k x0 (mn x3 (rd x0 x4)) (wrap64 (x4 + 1))) else (none)) else (some x3)
def slices_Min_int64_int64.f (k : Nat) (l0 : List Int) : Option (Int) := if (l0.length : Int) < 1 then (none) else (if 0 < (l0.length : Int) then (slices_Min_int64_int64.l0 k l0 (rd l0 0) 1) else (none))
set_option maxHeartbeats 8000000 in
set_option maxRecDepth 100000 in
theorem slices_Min_int64_int64.calls (k : Nat) (A0 : Option Addr) (c0 : Nat) (l0 : List Int) (r : Int) (w : World) (hr0 : Kd.C (Kd.int .i64) w A0 l0.length l0) (hc0 : l0.length ≤ c0) (h : slices_Min_int64_int64.f k l0 = some r) :
    Calls Tryd.prog 47 #[.slice A0 l0.length c0] w fun e w' => e = .returned (.int .i64 r) ∧ Below w.heap.size w w' := by
  have HR0 := Fa.mk hr0
  have HC0 := Fa.mk hc0
  clear hr0 hc0
  have HB := Fa.mk (Below.refl w.heap.size w)
  unfold slices_Min_int64_int64.f at h; have H := h
  clear h
  by_cases c2 : (l0.length : Int) < 1
  · rw [if_pos c2] at H
    exact absurd H (by simp)
  · rw [if_neg c2] at H
    have c2b0 := decide_eq_false c2
    have c2b1 : decide (l0.length < 1) = false := decide_eq_false (by omega)
    clear c2
    by_cases c3 : 0 < (l0.length : Int)
    · rw [if_pos c3] at H
      have c3b0 := decide_eq_true c3
      have c3b1 : decide (0 < l0.length) = true := decide_eq_true (by omega)
      clear c3
      have H' := Fa.mk H
      clear H
      have p730 : 0 ≤ (0 : Int) := (by omega)
      have q730 : 0 < (l0.length : Int) := of_decide_eq_true (by assumption)
      obtain ⟨ad730, e730, hx730_0⟩ := Kd.at_int HR0.out 0 p730 q730
      cases e730
      have qi730 : (0 < l0.length) = True := eq_true (by omega)
      (try rw [show ((0 : Int)).toNat = 0 from rfl] at hx730_0)
      (try rw [Addr.add_zero'] at hx730_0)
      replace p730 := eq_true p730
      replace q730 := eq_true q730
      go_enter Tryd.func47, Tryd.ntmps47
      go_wp2
      go_loopg [3, 4] k (fun kq v3 v4 w' => ∃ (x3_1 : Int) (x4_1 : Int), v3 = .int .i64 x3_1 ∧ v4 = .int .i64 x4_1 ∧ Fa (slices_Min_int64_int64.l0 kq l0 x3_1 x4_1 = some r) ∧ Fa (kq ≤ k) ∧ Fa (Below w.heap.size w w'))
      case atStart => exact ⟨(rd l0 0), (1), rfl, rfl, H', ⟨Nat.le_refl _⟩, ⟨BU HB⟩⟩
      case round =>
        clear H'
        obtain ⟨x3_1, x4_1, rfl, rfl, HA, HK1, HB⟩ := hrel
        cases gk with
        | zero => exact absurd HA.out (by simp [slices_Min_int64_int64.l0])
        | succ k1 =>
          have H := HA.out
          clear HA
          simp only [slices_Min_int64_int64.l0] at H
          by_cases c4 : x4_1 < (l0.length : Int)
          · rw [if_pos c4] at H
            have c4b0 := decide_eq_true c4
            clear c4
            by_cases c5 : 0 ≤ x4_1
            · rw [if_pos c5] at H
              have c5b0 := decide_eq_true c5
              clear c5
              obtain ⟨ji6, hji6⟩ : ∃ j_ : Int, (mn x3_1 (rd l0 x4_1)) = j_ := ⟨_, rfl⟩
              rw [hji6] at H
              have hji6_ : (if (rd l0 x4_1) < x3_1 then (rd l0 x4_1) else x3_1) = ji6 := hji6
              have H' := Fa.mk H
              clear H
              have p731 : 0 ≤ (x4_1 : Int) := of_decide_eq_true (by assumption)
              have q731 : x4_1 < (l0.length : Int) := of_decide_eq_true (by assumption)
              obtain ⟨ad731, e731, hx731_0⟩ := Kd.at_int HR0.out x4_1 p731 q731
              obtain rfl : ad730 = ad731 := (by injection e731)
              replace hx731_0 := (HB.out.cell (World.block_lt_of_cell? w _ hx731_0)).trans hx731_0
              replace p731 := eq_true p731
              replace q731 := eq_true q731
              go_wp2
              go_roundg k1
              case measure => have := HK1.out; omega
              case rel => exact ⟨(ji6), (wrap64 (x4_1 + 1)), (by first | rfl | (simp; done) | (simp only [← hji6] <;> (first | rfl | simp)) | (simp [*]; done)), rfl, H', ⟨by have := HK1.out; omega⟩, ⟨BU HB⟩⟩
            · rw [if_neg c5] at H
              exact absurd H (by simp)
          · rw [if_neg c4] at H
            have c4b0 := decide_eq_false c4
            clear c4
            obtain rfl := Option.some.inj H
            go_wp2
            go_ret
            exact ⟨rfl, BU HB⟩
    · rw [if_neg c3] at H
      exact absurd H (by simp)

/-! ### impl_DiameterOf: function 18 -/
def impl_DiameterOf.f (k : Nat) (a0_0 : Int) (l0_1 : List Int) : Option (Int × Int × Int) := (impl_connectedCode.f k a0_0 l0_1).bind fun t733 => (if t733 = 0 then ((impl_Graph_reaches.f k a0_0 l0_1).bind fun t734 => ((slices_Max_int64_int64.f k t734).bind fun t737 => ((slices_Min_int64_int64.f k t734).bind fun t738 => (some (t737, t738, 0))))) else (some (0, 0, t733)))
set_option maxHeartbeats 8000000 in
set_option maxRecDepth 100000 in
theorem impl_DiameterOf.calls (k : Nat) (a0_0 : Int) (A0_1 : Option Addr) (c0_1 : Nat) (l0_1 : List Int) (r1 : Int) (r2 : Int) (r3 : Int) (w : World) (hr0_1 : Kd.C (Kd.int .i64) w A0_1 l0_1.length l0_1) (hc0_1 : l0_1.length ≤ c0_1) (ht : Tab w) (h : impl_DiameterOf.f k a0_0 l0_1 = some (r1, r2, r3)) :
    Calls Tryd.prog 18 #[.agg #[.int .i64 a0_0, .slice A0_1 l0_1.length c0_1]] w fun e w' => e = .returned (.tuple #[.int .i64 r1, .int .i64 r2, .int .i64 r3]) ∧ Below w.heap.size w w' := by
  have hu26 := Tryd.underlying26
  have HR0_1 := Fa.mk hr0_1
  have HC0_1 := Fa.mk hc0_1
  clear hr0_1 hc0_1
  have HB := Fa.mk (Below.refl w.heap.size w)
  have HT := Fa.mk ht
  clear ht
  unfold impl_DiameterOf.f at h; have H := h
  clear h
  replace H := Option.bind_eq_some_iff.mp H
  obtain ⟨t733, A20, H⟩ := H
  replace H : (if t733 = 0 then ((impl_Graph_reaches.f k a0_0 l0_1).bind fun t734 => ((slices_Max_int64_int64.f k t734).bind fun t737 => ((slices_Min_int64_int64.f k t734).bind fun t738 => (some (t737, t738, 0))))) else (some (0, 0, t733))) = some (r1, r2, r3) := H
  have A2 := Fa.mk A20
  clear A20
  by_cases c3 : t733 = 0
  · rw [if_pos c3] at H
    have c3b0 := beq_iff_eq.mpr c3
    have c3b1 := bne_eq_false_iff_eq.mpr c3
    clear c3
    replace H := Option.bind_eq_some_iff.mp H
    obtain ⟨t734, A40, H⟩ := H
    replace H : ((slices_Max_int64_int64.f k t734).bind fun t737 => ((slices_Min_int64_int64.f k t734).bind fun t738 => (some (t737, t738, 0)))) = some (r1, r2, r3) := H
    have A4 := Fa.mk A40
    clear A40
    replace H := Option.bind_eq_some_iff.mp H
    obtain ⟨t737, A50, H⟩ := H
    replace H : ((slices_Min_int64_int64.f k t734).bind fun t738 => (some (t737, t738, 0))) = some (r1, r2, r3) := H
    have A5 := Fa.mk A50
    clear A50
    replace H := Option.bind_eq_some_iff.mp H
    obtain ⟨t738, A60, H⟩ := H
    replace H : (some (t737, t738, 0)) = some (r1, r2, r3) := H
    have A6 := Fa.mk A60
    clear A60
    simp only [Option.some.injEq, Prod.mk.injEq] at H
    obtain ⟨rfl, rfl, rfl⟩ := H
    go_enter Tryd.func18, Tryd.ntmps18
    go_wp2_with (first | ((with_reducible refine gd 1 rfl ?_); refine box_event ?hg (N := 1) ?hd (cs := #[.int .i64 a0_0, .slice A0_1 l0_1.length c0_1]) (t := 26) ?hr ?_; (case hd => rfl); (case hg => rfl); (case hr => first | (go_simp; done) | (go_simp; rfl)); intro gb732 hg w7 hbox hb; have BK732 := Fa.mk hbox; have GW732 := Fa.mk (bsz hg (BU HB) : w.heap.size ≤ gb732); have GE732 := GW732; replace HB := Fa.mk (below_step (BU HB) hb); clear hb hbox hg; obtain ⟨hcz8_0, hcz8_1, hfz8_0, hfz8_1⟩ := cz2 BK732.out) | ((with_reducible refine gc 45 rfl ?_); refine gL 8 Tryd.func45 #[.agg #[.int .i64 a0_0, .slice A0_1 l0_1.length c0_1]] rfl (by first | rfl | (simp only [mA, mC, mN]; rfl)) ?_; (with_reducible refine (impl_connectedCode.calls k a0_0 _ _ l0_1 t733 _ (Kd.C_below HR0_1.out (BU HB)) HC0_1.out (Tab.below HT.out (BU HB)) A2.out).mono ?_); rintro e w9 ⟨rfl, hb⟩; refine ⟨_, rfl, ?_⟩; replace BK732 := Fa.mk (blk_below (bU BK732) hb); replace HB := Fa.mk (below_step (BU HB) hb); obtain ⟨hcz10_0, hcz10_1, hfz10_0, hfz10_1⟩ := cz2 BK732.out) | ((with_reducible refine gc 46 rfl ?_); refine gL 13 Tryd.func46 #[.agg #[.int .i64 a0_0, .slice A0_1 l0_1.length c0_1]] rfl (by first | rfl | (simp only [mA, mC, mN]; rfl)) ?_; (with_reducible refine (impl_Graph_reaches.calls k a0_0 _ _ l0_1 t734 _ (Kd.C_below HR0_1.out (BU HB)) HC0_1.out (Tab.below HT.out (BU HB)) A4.out).mono ?_); rintro e w11 ⟨v735, rfl, ho0, hb⟩; refine ⟨_, rfl, ?_⟩; have HO736 := Fa.mk (Kd.R_lower ho0 (below_size (BU HB))); replace BK732 := Fa.mk (blk_below (bU BK732) hb); replace HB := Fa.mk (below_step (BU HB) hb); obtain ⟨Ao12, co12, eo12⟩ := Kd.R_slice HO736.out; subst eo12) | ((with_reducible refine gc 41 rfl ?_); refine gL 15 Tryd.func41 #[.slice Ao12 t734.length co12] rfl (by first | rfl | (simp only [mA, mC, mN]; rfl)) ?_; (with_reducible refine (slices_Max_int64_int64.calls k _ _ t734 t737 _ (rC HO736) ((Kd.R_reads' HO736.out).2.1) A5.out).mono ?_); rintro e w13 ⟨rfl, hb⟩; refine ⟨_, rfl, ?_⟩; replace HO736 := Fa.mk (Kd.R_below (rU HO736) hb); replace BK732 := Fa.mk (blk_below (bU BK732) hb); replace HB := Fa.mk (below_step (BU HB) hb)) | ((with_reducible refine gc 47 rfl ?_); refine gL 17 Tryd.func47 #[.slice Ao12 t734.length co12] rfl (by first | rfl | (simp only [mA, mC, mN]; rfl)) ?_; (with_reducible refine (slices_Min_int64_int64.calls k _ _ t734 t738 _ (rC HO736) ((Kd.R_reads' HO736.out).2.1) A6.out).mono ?_); rintro e w14 ⟨rfl, hb⟩; refine ⟨_, rfl, ?_⟩; replace HO736 := Fa.mk (Kd.R_below (rU HO736) hb); replace BK732 := Fa.mk (blk_below (bU BK732) hb); replace HB := Fa.mk (below_step (BU HB) hb)))
    go_ret3
    exact ⟨rfl, BU HB⟩
  · rw [if_neg c3] at H
    have c3b0 := beq_eq_false_iff_ne.mpr c3
    have c3b1 := bne_iff_ne.mpr c3
    simp only [Option.some.injEq, Prod.mk.injEq] at H
    obtain ⟨rfl, rfl, rfl⟩ := H
    go_enter Tryd.func18, Tryd.ntmps18
    go_wp2_with (first | ((with_reducible refine gd 1 rfl ?_); refine box_event ?hg (N := 1) ?hd (cs := #[.int .i64 a0_0, .slice A0_1 l0_1.length c0_1]) (t := 26) ?hr ?_; (case hd => rfl); (case hg => rfl); (case hr => first | (go_simp; done) | (go_simp; rfl)); intro gb732 hg w15 hbox hb; have BK732 := Fa.mk hbox; have GW732 := Fa.mk (bsz hg (BU HB) : w.heap.size ≤ gb732); have GE732 := GW732; replace HB := Fa.mk (below_step (BU HB) hb); clear hb hbox hg; obtain ⟨hcz16_0, hcz16_1, hfz16_0, hfz16_1⟩ := cz2 BK732.out) | ((with_reducible refine gc 45 rfl ?_); refine gL 8 Tryd.func45 #[.agg #[.int .i64 a0_0, .slice A0_1 l0_1.length c0_1]] rfl (by first | rfl | (simp only [mA, mC, mN]; rfl)) ?_; (with_reducible refine (impl_connectedCode.calls k a0_0 _ _ l0_1 t733 _ (Kd.C_below HR0_1.out (BU HB)) HC0_1.out (Tab.below HT.out (BU HB)) A2.out).mono ?_); rintro e w17 ⟨rfl, hb⟩; refine ⟨_, rfl, ?_⟩; replace BK732 := Fa.mk (blk_below (bU BK732) hb); replace HB := Fa.mk (below_step (BU HB) hb)))
    go_ret3
    exact ⟨rfl, BU HB⟩

/-! ### spec_l02Connected: function 49 -/
def spec_l02Connected.l0 : Nat → List Int → Int → Option (Bool)
  | 0, _, _ => none
  | k + 1, x3, x4 => if x4 < (x3.length : Int) then (if 0 ≤ x4 then (if (rd x3 x4) < 0 then (some false) else (spec_l02Connected.l0 k x3 (wrap64 (x4 + 1)))) else (none)) else (some true)
def spec_l02Connected.f (k : Nat) (a0_0 : Int) (l0_1 : List Int) : Option (Bool) := (spec_l02From.f k a0_0 l0_1 0 (-1) (-1)).bind fun t740 => (spec_l02Connected.l0 k t740 0)
set_option maxHeartbeats 8000000 in
set_option maxRecDepth 100000 in
theorem spec_l02Connected.calls (k : Nat) (a0_0 : Int) (A0_1 : Option Addr) (c0_1 : Nat) (l0_1 : List Int) (r : Bool) (w : World) (hr0_1 : Kd.C (Kd.int .i64) w A0_1 l0_1.length l0_1) (hc0_1 : l0_1.length ≤ c0_1) (h : spec_l02Connected.f k a0_0 l0_1 = some r) :
    Calls Tryd.prog 49 #[.agg #[.int .i64 a0_0, .slice A0_1 l0_1.length c0_1]] w fun e w' => e = .returned (.bool r) ∧ Below w.heap.size w w' := by
  have hu26 := Tryd.underlying26
  have HR0_1 := Fa.mk hr0_1
  have HC0_1 := Fa.mk hc0_1
  clear hr0_1 hc0_1
  have HB := Fa.mk (Below.refl w.heap.size w)
  have H : ((spec_l02From.f k a0_0 l0_1 0 (-1) (-1)).bind fun t740 => (spec_l02Connected.l0 k t740 0)) = some r := h
  clear h
  replace H := Option.bind_eq_some_iff.mp H
  obtain ⟨t740, A20, H⟩ := H
  replace H : (spec_l02Connected.l0 k t740 0) = some r := H
  have A2 := Fa.mk A20
  clear A20
  have H' := Fa.mk H
  clear H
  go_enter Tryd.func49, Tryd.ntmps49
  go_wp2_with (first | ((with_reducible refine gd 1 rfl ?_); refine box_event ?hg (N := 1) ?hd (cs := #[.int .i64 a0_0, .slice A0_1 l0_1.length c0_1]) (t := 26) ?hr ?_; (case hd => rfl); (case hg => rfl); (case hr => first | (go_simp; done) | (go_simp; rfl)); intro gb739 hg w3 hbox hb; have BK739 := Fa.mk hbox; have GW739 := Fa.mk (bsz hg (BU HB) : w.heap.size ≤ gb739); have GE739 := GW739; replace HB := Fa.mk (below_step (BU HB) hb); clear hb hbox hg; obtain ⟨hcz4_0, hcz4_1, hfz4_0, hfz4_1⟩ := cz2 BK739.out) | ((with_reducible refine gc 39 rfl ?_); refine gL 6 Tryd.func39 #[.agg #[.int .i64 a0_0, .slice A0_1 l0_1.length c0_1], .int .i64 0, .int .i64 (-1), .int .i64 (-1)] rfl (by first | rfl | (simp only [mA, mC, mN]; rfl)) ?_; (with_reducible refine (spec_l02From.calls k a0_0 _ _ l0_1 0 (-1) (-1) t740 _ (Kd.C_below HR0_1.out (BU HB)) HC0_1.out A2.out).mono ?_); rintro e w5 ⟨v741, rfl, ho0, hb⟩; refine ⟨_, rfl, ?_⟩; have HO742 := Fa.mk (Kd.R_lower ho0 (below_size (BU HB))); replace BK739 := Fa.mk (blk_below (bU BK739) hb); replace HB := Fa.mk (below_step (BU HB) hb)))
  go_loopg [4] k (fun kq v4 w' => ∃ (x4_1 : Int), v4 = .int .i64 x4_1 ∧ Fa (spec_l02Connected.l0 kq t740 x4_1 = some r) ∧ Fa (kq ≤ k) ∧ Fa (Kd.R (Kd.int .i64) 2 w' w.heap.size (fun _ => True) v741 t740) ∧ Fa (w'.heap[gb739]? = some (.cells #[.int .i64 a0_0, (.slice A0_1 l0_1.length c0_1)] 26 (0, 0))) ∧ Fa (Below w.heap.size w w'))
  case atStart => exact ⟨(0), rfl, H', ⟨Nat.le_refl _⟩, ⟨rU HO742⟩, ⟨bU BK739⟩, ⟨BU HB⟩⟩
  case round =>
    clear H'
    obtain ⟨x4_1, rfl, HA, HK1, HO_3, BK739, HB⟩ := hrel
    cases gk with
    | zero => exact absurd HA.out (by simp [spec_l02Connected.l0])
    | succ k1 =>
      have H := HA.out
      clear HA
      simp only [spec_l02Connected.l0] at H
      by_cases c6 : x4_1 < (t740.length : Int)
      · rw [if_pos c6] at H
        have c6b0 := decide_eq_true c6
        clear c6
        by_cases c7 : 0 ≤ x4_1
        · rw [if_pos c7] at H
          have c7b0 := decide_eq_true c7
          clear c7
          by_cases c8 : (rd t740 x4_1) < 0
          · rw [if_pos c8] at H
            have c8b0 := decide_eq_true c8
            clear c8
            obtain rfl := Option.some.inj H
            obtain ⟨Ao9, co9, eo9⟩ := Kd.R_slice HO_3.out
            subst eo9
            have p743 : 0 ≤ (x4_1 : Int) := of_decide_eq_true (by assumption)
            have q743 : x4_1 < (t740.length : Int) := of_decide_eq_true (by assumption)
            obtain ⟨ad743, e743, hx743_0⟩ := Kd.at_int (Kd.R_reads' HO_3.out).2.2 x4_1 p743 q743
            cases e743
            replace p743 := eq_true p743
            replace q743 := eq_true q743
            go_wp2
            go_ret
            exact ⟨rfl, BU HB⟩
          · rw [if_neg c8] at H
            have c8b0 := decide_eq_false c8
            clear c8
            have H' := Fa.mk H
            clear H
            obtain ⟨Ao10, co10, eo10⟩ := Kd.R_slice HO_3.out
            subst eo10
            have p743 : 0 ≤ (x4_1 : Int) := of_decide_eq_true (by assumption)
            have q743 : x4_1 < (t740.length : Int) := of_decide_eq_true (by assumption)
            obtain ⟨ad743, e743, hx743_0⟩ := Kd.at_int (Kd.R_reads' HO_3.out).2.2 x4_1 p743 q743
            cases e743
            replace p743 := eq_true p743
            replace q743 := eq_true q743
            go_wp2
            go_roundg k1
            case measure => have := HK1.out; omega
            case rel => exact ⟨(wrap64 (x4_1 + 1)), rfl, H', ⟨by have := HK1.out; omega⟩, ⟨rU HO_3⟩, ⟨bU BK739⟩, ⟨BU HB⟩⟩
        · rw [if_neg c7] at H
          exact absurd H (by simp)
      · rw [if_neg c6] at H
        have c6b0 := decide_eq_false c6
        clear c6
        obtain rfl := Option.some.inj H
        obtain ⟨Ao11, co11, eo11⟩ := Kd.R_slice HO_3.out
        subst eo11
        go_wp2
        go_ret
        exact ⟨rfl, BU HB⟩

/-! ### spec_l02Reaches: function 52 -/
def spec_l02Reaches.l0 : Nat → List Int → Int → Int → List Int → Option (List Int)
  | 0, _, _, _, _ => none
  | k + 1, x3, x4, x745000, x745001 => if x4 < x745000 then ((spec_l02Levels.f k x745000 x745001 x4).bind fun t748 => (if x3.length < 17592186044416 then (spec_l02Reaches.l0 k (x3 ++ [wrap64 ((t748.length : Int) - 1)]) (wrap64 (x4 + 1)) x745000 x745001) else (none))) else (some x3)
def spec_l02Reaches.f (k : Nat) (a0_0 : Int) (l0_1 : List Int) : Option (List Int) := spec_l02Reaches.l0 k (([] : List Int)) 0 a0_0 l0_1
set_option maxHeartbeats 8000000 in
set_option maxRecDepth 100000 in
theorem spec_l02Reaches.calls (k : Nat) (a0_0 : Int) (A0_1 : Option Addr) (c0_1 : Nat) (l0_1 : List Int) (r : List Int) (w : World) (hr0_1 : Kd.C (Kd.int .i64) w A0_1 l0_1.length l0_1) (hc0_1 : l0_1.length ≤ c0_1) (h : spec_l02Reaches.f k a0_0 l0_1 = some r) :
    Calls Tryd.prog 52 #[.agg #[.int .i64 a0_0, .slice A0_1 l0_1.length c0_1]] w fun e w' => ∃ v0_ : Value, e = .returned (v0_) ∧ Kd.R (Kd.int .i64) 2 w' w.heap.size (fun _ => True) v0_ r ∧ Below w.heap.size w w' := by
  have hu26 := Tryd.underlying26
  have HR0_1 := Fa.mk hr0_1
  have HC0_1 := Fa.mk hc0_1
  clear hr0_1 hc0_1
  have HB := Fa.mk (Below.refl w.heap.size w)
  have H : (spec_l02Reaches.l0 k (([] : List Int)) 0 a0_0 l0_1) = some r := h
  clear h
  obtain ⟨y745, hy745⟩ : ∃ y_ : List Int, y_ = (([] : List Int)) := ⟨_, rfl⟩
  first | replace H := bs_ hy745 H | rw [← hy745] at H
  have Ny745 := Fa.mk hy745
  clear hy745
  have H' := Fa.mk H
  clear H
  go_enter Tryd.func52, Tryd.ntmps52
  go_wp2_with (first | ((with_reducible refine gd 1 rfl ?_); refine box_event ?hg (N := 1) ?hd (cs := #[.int .i64 a0_0, .slice A0_1 l0_1.length c0_1]) (t := 26) ?hr ?_; (case hd => rfl); (case hg => rfl); (case hr => first | (go_simp; done) | (go_simp; rfl)); intro gb744 hg w2 hbox hb; have BK744 := Fa.mk hbox; have GW744 := Fa.mk (bsz hg (BU HB) : w.heap.size ≤ gb744); have GE744 := GW744; replace HB := Fa.mk (below_step (BU HB) hb); clear hb hbox hg) | ((with_reducible refine gd 5 rfl ?_); refine Kd.R_lit (Kd.int .i64) _ 2 ?hg (N := 5) ?hd (xs := ([] : List Int)) (inner := []) (ok := fun _ => True) (okp := fun _ => True) ?hr ?hp (fun _ hk => hk) trivial (Below.refl _ _) (Nat.le_refl _) (by simp) ?_; (case hd => rfl); (case hg => rfl); (case hr => first | (go_simp; done) | (go_simp; rfl)); (case hp => exact (Reps.none _ _)); intro v746 w3 ho4 hb hg_ hnew_; clear hg_ hnew_; (first | rw [← Ny745.out] at ho4 | (simp only [Int.reduceToNat] at ho4; rw [← Ny745.out] at ho4)); have HO747 := Fa.mk (Kd.R_lower ho4 (below_size (BU HB))); replace BK744 := Fa.mk (blk_below (bU BK744) hb); replace HB := Fa.mk (below_step (BU HB) hb); clear hb ho4))
  go_loopg [3, 4] k (fun kq v3 v4 w' => ∃ (x3_1 : List Int) (x4_1 : Int), v4 = .int .i64 x4_1 ∧ Fa (spec_l02Reaches.l0 kq x3_1 x4_1 a0_0 l0_1 = some r) ∧ Fa (kq ≤ k) ∧ Fa (Kd.R (Kd.int .i64) 2 w' w.heap.size (fun _ => True) v3 x3_1) ∧ Fa (w'.heap[gb744]? = some (.cells #[.int .i64 a0_0, (.slice A0_1 l0_1.length c0_1)] 26 (0, 0))) ∧ Fa (Below w.heap.size w w'))
  case atStart => exact ⟨(y745), (0), rfl, H', ⟨Nat.le_refl _⟩, ⟨rU HO747⟩, ⟨bU BK744⟩, ⟨BU HB⟩⟩
  case round =>
    clear H'
    obtain ⟨x3_1, x4_1, rfl, HA, HK1, HO_3, BK744, HB⟩ := hrel
    cases gk with
    | zero => exact absurd HA.out (by simp [spec_l02Reaches.l0])
    | succ k1 =>
      have H := HA.out
      clear HA
      simp only [spec_l02Reaches.l0] at H
      by_cases c5 : x4_1 < a0_0
      · rw [if_pos c5] at H
        have c5b0 := decide_eq_true c5
        clear c5
        replace H := Option.bind_eq_some_iff.mp H
        obtain ⟨t748, A60, H⟩ := H
        replace H : (if x3_1.length < 17592186044416 then (spec_l02Reaches.l0 k1 (x3_1 ++ [wrap64 ((t748.length : Int) - 1)]) (wrap64 (x4_1 + 1)) a0_0 l0_1) else (none)) = some r := H
        have A6 := Fa.mk A60
        clear A60
        by_cases c7 : x3_1.length < 17592186044416
        · rw [if_pos c7] at H
          have LMc7 := Fa.mk c7
          clear c7
          obtain ⟨y751, hy751⟩ : ∃ y_ : List Int, y_ = (x3_1 ++ [wrap64 ((t748.length : Int) - 1)]) := ⟨_, rfl⟩
          first | replace H := bs_ hy751 H | rw [← hy751] at H
          have Ny751 := Fa.mk hy751
          clear hy751
          have H' := Fa.mk H
          clear H
          obtain ⟨hcz8_0, hcz8_1, hfz8_0, hfz8_1⟩ := cz2 BK744.out
          go_wp2_with (first | ((with_reducible refine gc 42 rfl ?_); refine gL 15 Tryd.func42 #[.agg #[.int .i64 a0_0, .slice A0_1 l0_1.length c0_1], .int .i64 x4_1] rfl (by first | rfl | (simp only [mA, mC, mN]; rfl)) ?_; (with_reducible refine (spec_l02Levels.calls k1 a0_0 _ _ l0_1 x4_1 t748 _ (Kd.C_below HR0_1.out (BU HB)) HC0_1.out A6.out).mono ?_); rintro e w9 ⟨v749, rfl, ho0, hb⟩; refine ⟨_, rfl, ?_⟩; have HO750 := Fa.mk (Kd.R_lower (Kd.R_new' ho0 (Kd.R_lt (rU HO_3))) (below_size (BU HB))); replace HO_3 := Fa.mk (Kd.R_elder' (rU HO_3) (Kd.R_base ho0) hb); replace BK744 := Fa.mk (blk_below (bU BK744) hb); replace HB := Fa.mk (below_step (BU HB) hb); obtain ⟨Ao10, co10, eo10⟩ := Kd.R_slice HO750.out; subst eo10) | ((with_reducible refine gate_builtin (b := .append) (xs := #[.tmp 12, .tmp 18]) rfl ?_); at_builtin; refine Kd.R_append (Kd.int .i64) (w0 := w) w.heap.size rfl (.tmp 12) (.tmp 18) 24 2 (.int .i64 0) 8 rfl Tryd.underlying24 info2 rfl (by decide) (by omega) u3 x3_1 (wrap64 ((t748.length : Int) - 1)) [.int .i64 (wrap64 ((t748.length : Int) - 1))] (fun k_ => some k_ ≠ (.slice Ao10 t748.length co10 : Value).ownBlock) (fun _ => False) rfl rfl ?aP (fun _ hk => hk.elim) ?aF ?aO ?aB ?aS ?aL ?_; (case aP => exact rfl); (case aB => exact (BU HB)); (case aF => exact (fun k_ hk => Kd.fresh' (Kd.R_lt (rU HO750)) k_ hk)); (case aO => exact (by (with_reducible repeat (first | apply Kd.R_alloc | apply Kd.R_drewN | apply Kd.R_drew)); exact Kd.R_mono HO_3.out (fun _ hk => hk.2))); (case aS => exact (below_size (BU HB))); (case aL => have := LMc7.out; omega); intro v752 w11 ho hb hg hat; rw [← Ny751.out] at ho; replace BK744 := Fa.mk (blk_grown (bU BK744) hg (Kd.R_ne HO_3.out BK744.out (by decide))); replace HO750 := Fa.mk (Kd.R_after (ok := (fun _ => True)) (rU HO750) hg hat); have HO753 := Fa.mk ho; replace HB := Fa.mk hb; clear HO_3; clear ho hb hg hat))
          go_roundg k1
          case measure => have := HK1.out; omega
          case rel => exact ⟨(y751), (wrap64 (x4_1 + 1)), rfl, H', ⟨by have := HK1.out; omega⟩, ⟨by (with_reducible repeat (first | apply Kd.R_alloc | apply Kd.R_drewN | apply Kd.R_drew)); exact Kd.R_mono HO753.out (fun _ hk => trivial)⟩, ⟨bU BK744⟩, ⟨BU HB⟩⟩
        · rw [if_neg c7] at H
          exact absurd H (by simp)
      · rw [if_neg c5] at H
        have c5b0 := decide_eq_false c5
        clear c5
        obtain rfl := Option.some.inj H
        obtain ⟨hcz12_0, hcz12_1, hfz12_0, hfz12_1⟩ := cz2 BK744.out
        go_wp2
        go_ret
        exact ⟨_, rfl, HO_3.out, BU HB⟩

end Go.Proofs.YtockngphfpedkaaDoor.XFnDistances
