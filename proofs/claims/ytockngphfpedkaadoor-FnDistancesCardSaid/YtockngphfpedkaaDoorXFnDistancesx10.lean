-- Written by this project's own program (mprint.py) by means of the kit's printer: with contracts of its own for the functions that the printer leaves out.
import Derived.Test.YtockngphfpedkaaDoorXFnDistancesx0
import Derived.Test.YtockngphfpedkaaDoorXFnDistancesx1
import Derived.Test.YtockngphfpedkaaDoorXFnDistancesx8
import Derived.Test.YtockngphfpedkaaDoorXFnDistancesx9
namespace Go.Proofs.YtockngphfpedkaaDoor.XFnDistances
open Go.RowKit Go.Proofs.YtockngphfpedkaaDoorW.PrintWords Go.Proofs.YtockngphfpedkaaDoorW.PrintLast Go.Proofs.YtockngphfpedkaaDoorW.PrintMore
attribute [local go_sem] max2_int min2_int max_two min_two max_three min_three max_four min_four   -- for this text's walks alone
set_option linter.unusedVariables false
set_option linter.unusedSimpArgs false

/-! ### spec_l01Spoil: function 81 -/
def spec_l01Spoil.f (k : Nat) (s0_0 : List Int) (s0_1 : Int) (s0_2 : Int) : Option (Int × List Int × Int × Int) := (spec_l01Draw.f k s0_0 s0_1 s0_2).bind fun bt446 => ((spec_l01Bad.f s0_0 bt446.2.2.1 bt446.2.2.2 bt446.1 bt446.2.1).bind fun bt452 => (some (bt452.1, bt452.2.1, bt452.2.2.1, bt452.2.2.2)))
set_option maxHeartbeats 8000000 in
set_option maxRecDepth 100000 in
theorem spec_l01Spoil.calls (k : Nat) (g : Nat) (s0_0 : List Int) (s0_1 : Int) (s0_2 : Int) (r1 : Int) (r2 : List Int) (r3 : Int) (r4 : Int) (w0 w : World) (hI : IsS92 w0 w g s0_0 s0_1 s0_2) (hB : Below w0.heap.size w0 w) (h : spec_l01Spoil.f k s0_0 s0_1 s0_2 = some (r1, r2, r3, r4)) :
    Calls Tryd.prog 81 #[.pointer (some ⟨g, 0, none⟩)] w fun e w' => ∃ v1_ : Value, e = .returned (.agg #[.int .i64 r1, v1_]) ∧ Kd.R (Kd.int .i64) 2 w' w.heap.size (fun _ => True) v1_ r2 ∧ IsS92 w0 w' g s0_0 r3 r4 ∧ Below w0.heap.size w0 w' ∧ KeepBut w w' g none := by
  have hu26 := Tryd.underlying26
  have HI0 := Fa.mk hI
  have HK := Fa.mk (KeepBut.refl w g none)
  have HL := Fa.mk hB.size
  clear hI
  have HW0 := Fa.mk hB.size
  have HB := Fa.mk hB
  clear hB
  unfold spec_l01Spoil.f at h; have H := h
  clear h
  replace H := Option.bind_eq_some_iff.mp H
  obtain ⟨⟨t446, t447, t450, t451⟩, A20, H⟩ := H
  dsimp only at H
  have A2 := Fa.mk A20
  clear A20
  replace H := Option.bind_eq_some_iff.mp H
  obtain ⟨⟨t452, t453, t456, t457⟩, A30, H⟩ := H
  dsimp only at H
  have A3 := Fa.mk A30
  clear A30
  simp only [Option.some.injEq, Prod.mk.injEq] at H
  obtain ⟨rfl, rfl, rfl, rfl⟩ := H
  go_enter Tryd.func81, Tryd.ntmps81
  go_wp2_with (first | ((with_reducible refine gd 2 rfl ?_); refine box_event ?hg (N := 2) ?hd (cs := #[.int .i64 0, .slice none 0 0]) (t := 26) ?hr ?_; (case hd => rfl); (case hg => rfl); (case hr => first | (go_simp; done) | (go_simp; rfl)); intro gb445 hg w4 hbox hb; have BK445 := Fa.mk hbox; have GW445 := Fa.mk ((by rw [hg]; exact (keep_size (w := w) (g := g) (row := none) (kU HK)) : w.heap.size ≤ gb445)); have GE445 := Fa.mk ((Nat.le_trans HW0.out (by rw [hg]; exact (keep_size (w := w) (g := g) (row := none) (kU HK)) : w.heap.size ≤ gb445) : w0.heap.size ≤ gb445)); have NB0_445 := Fa.mk ((by rw [hg]; exact Nat.ne_of_lt (IsS92.lt (show IsS92 w0 _ g s0_0 s0_1 s0_2 from oo)) : g ≠ gb445)); have NB445_0 := Fa.mk ((by rw [hg]; exact Nat.ne_of_gt (IsS92.lt (show IsS92 w0 _ g s0_0 s0_1 s0_2 from oo)) : gb445 ≠ g)); replace HI0 := Fa.mk (IsS92.below (sU HI0) hb); replace HK := Fa.mk (KeepBut.trans (kU HK) (KeepBut.of_below hb g none) (.inl rfl)); replace HB := Fa.mk (below_step (BU HB) hb); clear hb hbox hg) | ((with_reducible refine gc 107 rfl ?_); refine gL 5 Tryd.func107 #[.pointer (some ⟨g, 0, none⟩)] rfl (by first | rfl | (simp only [mA, mC, mN]; rfl)) ?_; (with_reducible refine (spec_l01Draw.calls k g s0_0 s0_1 s0_2 t446 t447 t450 t451 w0 _ oo (BU HB) A2.out).mono ?_); rintro e w5 ⟨v448, rfl, ho0, hi, hb, hk⟩; refine ⟨_, rfl, ?_⟩; replace BK445 := Fa.mk (KeepBut.blk hk (bU BK445) NB445_0.out (by simp)); have HO449 := Fa.mk (Kd.R_lower ho0 (keep_size (w := w) (g := g) (row := none) (kU HK))); replace HI0 := Fa.mk hi; replace HK := Fa.mk (KeepBut.trans (kU HK) hk (.inl rfl)); replace HB := Fa.mk hb; obtain ⟨Ao6, co6, eo6⟩ := Kd.R_slice HO449.out; subst eo6) | ((with_reducible refine gc 106 rfl ?_); refine gL 6 Tryd.func106 #[.pointer (some ⟨g, 0, none⟩), .agg #[.int .i64 t446, .slice Ao6 t447.length co6]] rfl (by first | rfl | (simp only [mA, mC, mN]; rfl)) ?_; (with_reducible refine (spec_l01Bad.calls g s0_0 t450 t451 t446 (fun k_ => some k_ = (.slice Ao6 t447.length co6 : Value).ownBlock) (.slice Ao6 t447.length co6) t447 t452 t453 t456 t457 w0 _ oo (BU HB) (Kd.R_lower (Kd.R_tight rfl HO449.out) HL.out) A3.out).mono ?_); rintro e w7 ⟨v454, rfl, ho0, hi, hb, hkp⟩; refine ⟨_, rfl, ?_⟩; replace HI0 := Fa.mk hi; replace BK445 := Fa.mk (blk_kept (bU BK445) hkp (fun hs_ => Or.elim hs_ (fun hs_ => (fun e_ => (Kd.R_ne HO449.out BK445.out (by decide)) e_) hs_) (fun e_ => NB445_0.out e_))); have HO455 := Fa.mk (Kd.R_mono (ok' := fun k_ => True) (Kd.R_raise (d := (Kd.int .i64)) (b := w0.heap.size) (b' := w.heap.size) (fun _ _ _ _ h_ => h_) ho0 (fun k_ e_ => Or.elim (ho0.1 k_ e_) (fun hs_ => (fun e_ => Kd.R_base HO449.out k_ e_.symm) hs_) (fun hn_ => Nat.le_trans (keep_size (w := w) (g := g) (row := none) (kU HK)) hn_))) (fun k_ hk_ => trivial)); replace HK := Fa.mk (Kept.keepG (kU HK) hkp (fun k_ hs_ => Or.elim hs_ (fun hs_ => (fun e_ => .inr (Kd.R_base HO449.out k_ e_.symm)) hs_) (fun e_ => .inl e_))); replace HB := Fa.mk hb; clear HO449; have hnb8 := NB445_0.out; have hnc8 := NB0_445.out; obtain ⟨hcz9_0, hcz9_1, hfz9_0, hfz9_1⟩ := cz2 BK445.out; obtain ⟨Ao10, co10, eo10⟩ := Kd.R_slice HO455.out; subst eo10))
  refine bodyPost_ret (results_cell_row rfl _ _ gb445 26 #[.int .i64 t452, .slice Ao10 t453.length co10] (0, 0) _ rfl oo Tryd.underlying26 rfl (by kernel_rfl)) rfl ?_
  exact ⟨_, rfl, by (with_reducible repeat (first | apply Kd.R_alloc | apply Kd.R_drewN | apply Kd.R_drew)); exact Kd.R_mono (Kd.R_far (p := ⟨gb445, 1, none⟩) (Kd.R_far (p := ⟨gb445, 0, none⟩) (Kd.R_types HO455.out BK445.out (by decide)) (fun _ hk => hk.2) (.int .i64 t452)) (fun _ hk => hk.2) (.slice Ao10 t453.length co10)) (fun _ hk => trivial), oo, BU HB, kU HK⟩

/-! ### spec_l02Draw: function 43 -/
def spec_l02Draw.f (k : Nat) (s0_0 : List Int) (s0_1 : Int) (s0_2 : Int) : Option (Int × List Int × Int × Int) := (spec_l01Next.f s0_0 s0_1 s0_2 2).bind fun bt459 => (if bt459.1 = 0 then ((spec_l01DrawRegular.f k s0_0 bt459.2.1 bt459.2.2).bind fun bt462 => (some (bt462.1, bt462.2.1, bt462.2.2.1, bt462.2.2.2))) else ((spec_l01Spoil.f k s0_0 bt459.2.1 bt459.2.2).bind fun bt468 => (some (bt468.1, bt468.2.1, bt468.2.2.1, bt468.2.2.2))))
set_option maxHeartbeats 8000000 in
set_option maxRecDepth 100000 in
theorem spec_l02Draw.calls (k : Nat) (g : Nat) (s0_0 : List Int) (s0_1 : Int) (s0_2 : Int) (r1 : Int) (r2 : List Int) (r3 : Int) (r4 : Int) (w0 w : World) (hI : IsS92 w0 w g s0_0 s0_1 s0_2) (hB : Below w0.heap.size w0 w) (h : spec_l02Draw.f k s0_0 s0_1 s0_2 = some (r1, r2, r3, r4)) :
    Calls Tryd.prog 43 #[.pointer (some ⟨g, 0, none⟩)] w fun e w' => ∃ v1_ : Value, e = .returned (.agg #[.int .i64 r1, v1_]) ∧ Kd.R (Kd.int .i64) 2 w' w.heap.size (fun _ => True) v1_ r2 ∧ IsS92 w0 w' g s0_0 r3 r4 ∧ Below w0.heap.size w0 w' ∧ KeepBut w w' g none := by
  have hu26 := Tryd.underlying26
  have HI0 := Fa.mk hI
  have HK := Fa.mk (KeepBut.refl w g none)
  have HL := Fa.mk hB.size
  clear hI
  have HW0 := Fa.mk hB.size
  have HB := Fa.mk hB
  clear hB
  unfold spec_l02Draw.f at h; have H := h
  clear h
  replace H := Option.bind_eq_some_iff.mp H
  obtain ⟨⟨t459, t460, t461⟩, A20, H⟩ := H
  dsimp only at H
  have A2 := Fa.mk A20
  clear A20
  by_cases c3 : t459 = 0
  · rw [if_pos c3] at H
    have c3b0 := beq_iff_eq.mpr c3
    have c3b1 := bne_eq_false_iff_eq.mpr c3
    clear c3
    replace H := Option.bind_eq_some_iff.mp H
    obtain ⟨⟨t462, t463, t466, t467⟩, A40, H⟩ := H
    dsimp only at H
    have A4 := Fa.mk A40
    clear A40
    simp only [Option.some.injEq, Prod.mk.injEq] at H
    obtain ⟨rfl, rfl, rfl, rfl⟩ := H
    go_enter Tryd.func43, Tryd.ntmps43
    go_wp2_with (first | ((with_reducible refine gd 2 rfl ?_); refine box_event ?hg (N := 2) ?hd (cs := #[.int .i64 0, .slice none 0 0]) (t := 26) ?hr ?_; (case hd => rfl); (case hg => rfl); (case hr => first | (go_simp; done) | (go_simp; rfl)); intro gb458 hg w5 hbox hb; have BK458 := Fa.mk hbox; have GW458 := Fa.mk ((by rw [hg]; exact (keep_size (w := w) (g := g) (row := none) (kU HK)) : w.heap.size ≤ gb458)); have GE458 := Fa.mk ((Nat.le_trans HW0.out (by rw [hg]; exact (keep_size (w := w) (g := g) (row := none) (kU HK)) : w.heap.size ≤ gb458) : w0.heap.size ≤ gb458)); have NB0_458 := Fa.mk ((by rw [hg]; exact Nat.ne_of_lt (IsS92.lt (show IsS92 w0 _ g s0_0 s0_1 s0_2 from oo)) : g ≠ gb458)); have NB458_0 := Fa.mk ((by rw [hg]; exact Nat.ne_of_gt (IsS92.lt (show IsS92 w0 _ g s0_0 s0_1 s0_2 from oo)) : gb458 ≠ g)); replace HI0 := Fa.mk (IsS92.below (sU HI0) hb); replace HK := Fa.mk (KeepBut.trans (kU HK) (KeepBut.of_below hb g none) (.inl rfl)); replace HB := Fa.mk (below_step (BU HB) hb); clear hb hbox hg) | ((with_reducible refine gc 77 rfl ?_); refine gL 4 Tryd.func77 #[.pointer (some ⟨g, 0, none⟩), .int .i64 2] rfl (by first | rfl | (simp only [mA, mC, mN]; rfl)) ?_; (with_reducible refine (spec_l01Next.calls g s0_0 s0_1 s0_2 2 t459 t460 t461 w0 _ oo (BU HB) A2.out).mono ?_); rintro e w6 ⟨rfl, hi, hb, hk⟩; refine ⟨_, rfl, ?_⟩; replace BK458 := Fa.mk (KeepBut.blk hk (bU BK458) NB458_0.out (by simp)); replace HI0 := Fa.mk hi; replace HK := Fa.mk (KeepBut.trans (kU HK) hk (.inl rfl)); replace HB := Fa.mk hb) | ((with_reducible refine gc 80 rfl ?_); refine gL 7 Tryd.func80 #[.pointer (some ⟨g, 0, none⟩)] rfl (by first | rfl | (simp only [mA, mC, mN]; rfl)) ?_; (with_reducible refine (spec_l01DrawRegular.calls k g s0_0 t460 t461 t462 t463 t466 t467 w0 _ oo (BU HB) A4.out).mono ?_); rintro e w7 ⟨v464, rfl, ho0, hi, hb, hk⟩; refine ⟨_, rfl, ?_⟩; replace BK458 := Fa.mk (KeepBut.blk hk (bU BK458) NB458_0.out (by simp)); have HO465 := Fa.mk (Kd.R_lower ho0 (keep_size (w := w) (g := g) (row := none) (kU HK))); replace HI0 := Fa.mk hi; replace HK := Fa.mk (KeepBut.trans (kU HK) hk (.inl rfl)); replace HB := Fa.mk hb; have hnb8 := NB458_0.out; have hnc8 := NB0_458.out; obtain ⟨hcz9_0, hcz9_1, hfz9_0, hfz9_1⟩ := cz2 BK458.out; obtain ⟨Ao10, co10, eo10⟩ := Kd.R_slice HO465.out; subst eo10))
    refine bodyPost_ret (results_cell_row rfl _ _ gb458 26 #[.int .i64 t462, .slice Ao10 t463.length co10] (0, 0) _ rfl oo Tryd.underlying26 rfl (by kernel_rfl)) rfl ?_
    exact ⟨_, rfl, by (with_reducible repeat (first | apply Kd.R_alloc | apply Kd.R_drewN | apply Kd.R_drew)); exact Kd.R_mono (Kd.R_far (p := ⟨gb458, 1, none⟩) (Kd.R_far (p := ⟨gb458, 0, none⟩) (Kd.R_types HO465.out BK458.out (by decide)) (fun _ hk => hk.2) (.int .i64 t462)) (fun _ hk => hk.2) (.slice Ao10 t463.length co10)) (fun _ hk => trivial), oo, BU HB, kU HK⟩
  · rw [if_neg c3] at H
    have c3b0 := beq_eq_false_iff_ne.mpr c3
    have c3b1 := bne_iff_ne.mpr c3
    replace H := Option.bind_eq_some_iff.mp H
    obtain ⟨⟨t468, t469, t472, t473⟩, A110, H⟩ := H
    dsimp only at H
    have A11 := Fa.mk A110
    clear A110
    simp only [Option.some.injEq, Prod.mk.injEq] at H
    obtain ⟨rfl, rfl, rfl, rfl⟩ := H
    go_enter Tryd.func43, Tryd.ntmps43
    go_wp2_with (first | ((with_reducible refine gd 2 rfl ?_); refine box_event ?hg (N := 2) ?hd (cs := #[.int .i64 0, .slice none 0 0]) (t := 26) ?hr ?_; (case hd => rfl); (case hg => rfl); (case hr => first | (go_simp; done) | (go_simp; rfl)); intro gb458 hg w12 hbox hb; have BK458 := Fa.mk hbox; have GW458 := Fa.mk ((by rw [hg]; exact (keep_size (w := w) (g := g) (row := none) (kU HK)) : w.heap.size ≤ gb458)); have GE458 := Fa.mk ((Nat.le_trans HW0.out (by rw [hg]; exact (keep_size (w := w) (g := g) (row := none) (kU HK)) : w.heap.size ≤ gb458) : w0.heap.size ≤ gb458)); have NB0_458 := Fa.mk ((by rw [hg]; exact Nat.ne_of_lt (IsS92.lt (show IsS92 w0 _ g s0_0 s0_1 s0_2 from oo)) : g ≠ gb458)); have NB458_0 := Fa.mk ((by rw [hg]; exact Nat.ne_of_gt (IsS92.lt (show IsS92 w0 _ g s0_0 s0_1 s0_2 from oo)) : gb458 ≠ g)); replace HI0 := Fa.mk (IsS92.below (sU HI0) hb); replace HK := Fa.mk (KeepBut.trans (kU HK) (KeepBut.of_below hb g none) (.inl rfl)); replace HB := Fa.mk (below_step (BU HB) hb); clear hb hbox hg) | ((with_reducible refine gc 77 rfl ?_); refine gL 4 Tryd.func77 #[.pointer (some ⟨g, 0, none⟩), .int .i64 2] rfl (by first | rfl | (simp only [mA, mC, mN]; rfl)) ?_; (with_reducible refine (spec_l01Next.calls g s0_0 s0_1 s0_2 2 t459 t460 t461 w0 _ oo (BU HB) A2.out).mono ?_); rintro e w13 ⟨rfl, hi, hb, hk⟩; refine ⟨_, rfl, ?_⟩; replace BK458 := Fa.mk (KeepBut.blk hk (bU BK458) NB458_0.out (by simp)); replace HI0 := Fa.mk hi; replace HK := Fa.mk (KeepBut.trans (kU HK) hk (.inl rfl)); replace HB := Fa.mk hb) | ((with_reducible refine gc 81 rfl ?_); refine gL 9 Tryd.func81 #[.pointer (some ⟨g, 0, none⟩)] rfl (by first | rfl | (simp only [mA, mC, mN]; rfl)) ?_; (with_reducible refine (spec_l01Spoil.calls k g s0_0 t460 t461 t468 t469 t472 t473 w0 _ oo (BU HB) A11.out).mono ?_); rintro e w14 ⟨v470, rfl, ho0, hi, hb, hk⟩; refine ⟨_, rfl, ?_⟩; replace BK458 := Fa.mk (KeepBut.blk hk (bU BK458) NB458_0.out (by simp)); have HO471 := Fa.mk (Kd.R_lower ho0 (keep_size (w := w) (g := g) (row := none) (kU HK))); replace HI0 := Fa.mk hi; replace HK := Fa.mk (KeepBut.trans (kU HK) hk (.inl rfl)); replace HB := Fa.mk hb; have hnb15 := NB458_0.out; have hnc15 := NB0_458.out; obtain ⟨hcz16_0, hcz16_1, hfz16_0, hfz16_1⟩ := cz2 BK458.out; obtain ⟨Ao17, co17, eo17⟩ := Kd.R_slice HO471.out; subst eo17))
    refine bodyPost_ret (results_cell_row rfl _ _ gb458 26 #[.int .i64 t468, .slice Ao17 t469.length co17] (0, 0) _ rfl oo Tryd.underlying26 rfl (by kernel_rfl)) rfl ?_
    exact ⟨_, rfl, by (with_reducible repeat (first | apply Kd.R_alloc | apply Kd.R_drewN | apply Kd.R_drew)); exact Kd.R_mono (Kd.R_far (p := ⟨gb458, 1, none⟩) (Kd.R_far (p := ⟨gb458, 0, none⟩) (Kd.R_types HO471.out BK458.out (by decide)) (fun _ hk => hk.2) (.int .i64 t468)) (fun _ hk => hk.2) (.slice Ao17 t469.length co17)) (fun _ hk => trivial), oo, BU HB, kU HK⟩

/-! ### spec_l01From: function 44 -/
def spec_l01From.l0 : Nat → List Int → Int → List Int → Int → Int → Option (List Int × Int × Int)
  | 0, _, _, _, _, _ => none
  | k + 1, x0, x4, x475000, x475001, x475002 => if x4 < (x0.length : Int) then (if x4 < 4096 then (if 0 ≤ x4 then (spec_l01From.l0 k x0 (wrap64 (x4 + 1)) x475000 x475001 (IntKind.u64.wrap ((IntKind.u64.wrap ((IntKind.u64.wrap (x475002 * 1099511628211)) + (IntKind.u64.wrap (rd x0 x4)))) + 157))) else (none)) else (some (x475000, x475001, x475002))) else (some (x475000, x475001, x475002))
def spec_l01From.f (k : Nat) (l0 : List Int) : Option (List Int × Int × Int) := spec_l01From.l0 k l0 0 l0 0 (IntKind.u64.wrap (13311 + (IntKind.u64.wrap ((l0.length : Int)))))
def spec_l01From.T5 : Bool × List (List Nat × List Nat) := (true, [([], []), ([], []), ([1], [1]), ([2], [2]), ([3], [3]), ([4], [4]), ([], []), ([], []), ([6, 7], [6, 7]), ([8], [8]), ([9], [9]), ([5, 10], [5, 10]), ([11], [11]), ([0, 0, 1, 2, 3, 4, 5, 6, 7, 8, 9, 10, 11, 12], [0]), ([13, 0, 1, 2, 3, 4, 5, 6, 7, 8, 9, 10, 11, 12], [13]), ([14, 12, 0, 1, 2, 3, 4, 5, 6, 7, 8, 9, 10, 11, 12], [12, 14])])
def spec_l01From.B5 : List Nat := [0, 0, 2, 6, 14, 30, 0, 0, 192, 448, 960, 2046, 4094, 8191, 16383, 32767]
theorem spec_l01From.tab5 : rtab .any (opsOf Tryd.f44 5) = spec_l01From.T5 := by kernel_rfl
theorem spec_l01From.bits5 : waitsOk spec_l01From.T5.2 spec_l01From.B5 = true := by kernel_rfl
set_option maxHeartbeats 8000000 in
set_option maxRecDepth 100000 in
theorem spec_l01From.calls (k : Nat) (A0 : Option Addr) (c0 : Nat) (l0 : List Int) (r1 : List Int) (r2 : Int) (r3 : Int) (w0 w : World) (hB : Below w0.heap.size w0 w) (hr0 : Kd.C (Kd.int .u8) w0 A0 l0.length l0) (hc0 : l0.length ≤ c0) (h : spec_l01From.f k l0 = some (r1, r2, r3)) :
    Calls Tryd.prog 44 #[.slice A0 l0.length c0] w fun e w' => ∃ g_ : Nat, e = .returned (.pointer (some ⟨g_, 0, none⟩)) ∧ IsS92 w0 w' g_ r1 r2 r3 ∧ Below w0.heap.size w0 w' ∧ Below w.heap.size w w' := by
  have hu92 := Tryd.underlying92
  have HR0 := Fa.mk hr0
  have HC0 := Fa.mk hc0
  clear hr0 hc0
  have HBW := Fa.mk (Below.refl w.heap.size w)
  have HW0 := Fa.mk hB.size
  have HB := Fa.mk hB
  clear hB
  unfold spec_l01From.f at h; have H := h
  clear h
  have H' := Fa.mk H
  clear H
  go_enter Tryd.func44, Tryd.ntmps44
  go_wp2_with (first | ((with_reducible refine gd 11 rfl ?_); refine box_event ?hg (N := 11) ?hd (cs := #[.slice A0 l0.length c0, .int .i64 0, .int .u64 (IntKind.u64.wrap (13311 + (IntKind.u64.wrap ((l0.length : Int)))))]) (t := 92) ?hr ?_; (case hd => rfl); (case hg => rfl); (case hr => first | (go_simp; done) | (go_simp; rfl)); intro gb474 hg w2 hbox hb; have BK474 := Fa.mk hbox; have GW474 := Fa.mk ((bsz hg (BU HBW) : w.heap.size ≤ gb474)); have GE474 := Fa.mk ((Nat.le_trans HW0.out (bsz hg (BU HBW) : w.heap.size ≤ gb474) : w0.heap.size ≤ gb474)); replace HBW := Fa.mk (below_step HBW.out hb); replace HB := Fa.mk (below_step (BU HB) hb); clear hb hbox hg))
  go_loopg [4] k (fun kq v4 w' => ∃ (x4_1 : Int) (x475002_1 : Int), v4 = .int .i64 x4_1 ∧ Fa (spec_l01From.l0 kq l0 x4_1 l0 0 x475002_1 = some (r1, r2, r3)) ∧ Fa (kq ≤ k) ∧ Fa (w'.heap[gb474]? = some (.cells #[(.slice A0 l0.length c0), .int .i64 0, .int .u64 x475002_1] 92 (0, 0))) ∧ Fa (Below w0.heap.size w0 w') ∧ Fa (Below w.heap.size w w'))
  case atStart => exact ⟨(0), (IntKind.u64.wrap (13311 + (IntKind.u64.wrap ((l0.length : Int))))), rfl, H', ⟨Nat.le_refl _⟩, ⟨bU BK474⟩, ⟨BU HB⟩, ⟨BU HBW⟩⟩
  case round =>
    clear H'
    obtain ⟨x4_1, x475002_1, rfl, HA, HK1, BK474, HB, HBW⟩ := hrel
    cases gk with
    | zero => exact absurd HA.out (by simp [spec_l01From.l0])
    | succ k1 =>
      have H := HA.out
      clear HA
      simp only [spec_l01From.l0] at H
      by_cases c3 : x4_1 < (l0.length : Int)
      · rw [if_pos c3] at H
        have c3b0 := decide_eq_true c3
        clear c3
        by_cases c4 : x4_1 < 4096
        · rw [if_pos c4] at H
          have c4b0 := decide_eq_true c4
          clear c4
          by_cases c5 : 0 ≤ x4_1
          · rw [if_pos c5] at H
            have c5b0 := decide_eq_true c5
            clear c5
            have H' := Fa.mk H
            clear H
            try go_wp2
            have n0_ := Fa.mk (blk_drew BK474.out)
            have n1_ := Fa.mk (below_drew1 HB.out)
            have nW_ := Fa.mk (below_drew1 HBW.out)
            clear BK474
            clear HB
            clear HBW
            have BK474 := n0_
            have HB := n1_
            have HBW := nW_
            clear nW_
            clear n0_ n1_
            have p475 : 0 ≤ (x4_1 : Int) := of_decide_eq_true (by assumption)
            have q475 : x4_1 < (l0.length : Int) := of_decide_eq_true (by assumption)
            obtain ⟨ad475, e475, hx475_0⟩ := Kd.at_int HR0.out x4_1 p475 q475
            have hw475_0 := hx475_0
            cases e475
            replace hx475_0 := pw_cell_below HB.out hx475_0
            replace p475 := eq_true p475
            replace q475 := eq_true q475
            refine start_ (n := 16) (S := fun w' => w'.cell? ⟨gb474, 0, none⟩ = some (.slice (some ad475) l0.length c0) ∧ w'.cell? ⟨gb474, 1, none⟩ = some (.int .i64 0) ∧ w'.cell? ⟨gb474, 2, none⟩ = some (.int .u64 x475002_1) ∧ w'.cell? (ad475.add (x4_1).toNat) = some (.int .u8 (rd l0 x4_1))) (ds := [15]) #[ff, ff, ff, ff, ff, ff, ff, ff, ff, ff, ff, ff, ff, ff, ff, ff] (by kernel_rfl) rfl rfl ⟨(blk_cell BK474.out 0).trans rfl, (blk_cell BK474.out 1).trans rfl, (blk_cell BK474.out 2).trans rfl, ((HB.out.cell (World.block_lt_of_cell? _ _ hw475_0)).trans hw475_0)⟩ (fun hHeld => ?_); refine with_tabW spec_l01From.tab5 spec_l01From.bits5 (fun HT_ HW_ => ?_)
            generalize wr.drew = w6 at BK474 HB HBW hx475_0 hHeld ⊢
            refine pu 0 22 ?_ #[tt, ff, ff, ff, ff, ff, ff, ff, ff, ff, ff, ff, ff, ff, ff, ff] rfl rfl (any_of HT_.out (by kernel_rfl)) (Or.inl ⟨by rfl, ?_⟩) ?_ ?_ ?_; rotate_left; intro w'; go_simp; with_reducible rfl; rotate_left; simp only [Act.put, sA, sZ, sC, i64_w, i32_w]; rfl
            refine pu 1 23 ?_ #[tt, tt, ff, ff, ff, ff, ff, ff, ff, ff, ff, ff, ff, ff, ff, ff] rfl rfl (any_of HT_.out (by kernel_rfl)) (Or.inl ⟨by rfl, ?_⟩) ?_ ?_ ?_; rotate_left; intro w'; go_simp; with_reducible rfl; rotate_left; simp only [Act.put, sA, sZ, sC, i64_w, i32_w]; rfl
            refine pu 2 24 ?_ #[tt, tt, tt, ff, ff, ff, ff, ff, ff, ff, ff, ff, ff, ff, ff, ff] rfl rfl (any_of HT_.out (by kernel_rfl)) (Or.inl ⟨by rfl, ?_⟩) ?_ ?_ ?_; rotate_left; intro w'; go_simp; with_reducible rfl; rotate_left; simp only [Act.put, sA, sZ, sC, i64_w, i32_w]; rfl
            refine pu 3 25 ?_ #[tt, tt, tt, tt, ff, ff, ff, ff, ff, ff, ff, ff, ff, ff, ff, ff] rfl rfl (any_of HT_.out (by kernel_rfl)) (Or.inl ⟨by rfl, ?_⟩) ?_ ?_ ?_; rotate_left; intro w'; go_simp; with_reducible rfl; rotate_left; simp only [Act.put, sA, sZ, sC, i64_w, i32_w]; rfl
            refine pu 6 28 ?_ #[tt, tt, tt, tt, ff, ff, tt, ff, ff, ff, ff, ff, ff, ff, ff, ff] rfl rfl (any_of HT_.out (by kernel_rfl)) (Or.inl ⟨by rfl, ?_⟩) ?_ ?_ ?_; rotate_left; intro w'; go_simp; with_reducible rfl; rotate_left; simp only [Act.put, sA, sZ, sC, i64_w, i32_w]; rfl
            refine pu 7 29 ?_ #[tt, tt, tt, tt, ff, ff, tt, tt, ff, ff, ff, ff, ff, ff, ff, ff] rfl rfl (any_of HT_.out (by kernel_rfl)) (Or.inl ⟨by rfl, ?_⟩) ?_ ?_ ?_; rotate_left; intro w'; go_simp; with_reducible rfl; rotate_left; simp only [Act.put, sA, sZ, sC, i64_w, i32_w]; rfl
            refine pu 8 30 ?_ #[tt, tt, tt, tt, ff, ff, tt, tt, tt, ff, ff, ff, ff, ff, ff, ff] rfl rfl (any_of HT_.out (by kernel_rfl)) (Or.inl ⟨by rfl, ?_⟩) ?_ ?_ ?_; rotate_left; intro w'; go_simp; with_reducible rfl; rotate_left; simp only [Act.put, sA, sZ, sC, i64_w, i32_w]; rfl
            refine tk 4 26 ?_ #[tt, tt, tt, tt, tt, ff, tt, tt, tt, ff, ff, ff, ff, ff, ff, ff] rfl rfl (take_ofW HT_.out HW_.out (by kernel_rfl)) (Or.inl ⟨by rfl, ?_⟩) hHeld ?_ ?_ ?_; rotate_left; rintro w' ⟨s0, s1, s2, s3⟩; go_simp; with_reducible rfl; rotate_left; simp only [Act.put, sA, sZ, sC, i64_w, i32_w]; rfl
            refine pu 5 27 ?_ #[tt, tt, tt, tt, tt, tt, tt, tt, tt, ff, ff, ff, ff, ff, ff, ff] rfl rfl (any_of HT_.out (by kernel_rfl)) (Or.inl ⟨by rfl, ?_⟩) ?_ ?_ ?_; rotate_left; intro w'; go_simp; with_reducible rfl; rotate_left; simp only [Act.put, sA, sZ, sC, i64_w, i32_w]; rfl
            refine tk 9 31 ?_ #[tt, tt, tt, tt, tt, tt, tt, tt, tt, tt, ff, ff, ff, ff, ff, ff] rfl rfl (take_ofW HT_.out HW_.out (by kernel_rfl)) (Or.inl ⟨by rfl, ?_⟩) hHeld ?_ ?_ ?_; rotate_left; rintro w' ⟨s0, s1, s2, s3⟩; go_simp; with_reducible rfl; rotate_left; simp only [Act.put, sA, sZ, sC, i64_w, i32_w]; rfl
            refine pu 10 32 ?_ #[tt, tt, tt, tt, tt, tt, tt, tt, tt, tt, tt, ff, ff, ff, ff, ff] rfl rfl (any_of HT_.out (by kernel_rfl)) (Or.inl ⟨by rfl, ?_⟩) ?_ ?_ ?_; rotate_left; intro w'; go_simp; with_reducible rfl; rotate_left; simp only [Act.put, sA, sZ, sC, i64_w, i32_w]; rfl
            refine pu 11 33 ?_ #[tt, tt, tt, tt, tt, tt, tt, tt, tt, tt, tt, tt, ff, ff, ff, ff] rfl rfl (any_of HT_.out (by kernel_rfl)) (Or.inl ⟨by rfl, ?_⟩) ?_ ?_ ?_; rotate_left; intro w'; go_simp; with_reducible rfl; rotate_left; simp only [Act.put, sA, sZ, sC, i64_w, i32_w]; rfl
            refine pu 12 34 ?_ #[tt, tt, tt, tt, tt, tt, tt, tt, tt, tt, tt, tt, tt, ff, ff, ff] rfl rfl (any_of HT_.out (by kernel_rfl)) (Or.inl ⟨by rfl, ?_⟩) ?_ ?_ ?_; rotate_left; intro w'; go_simp; with_reducible rfl; rotate_left; simp only [Act.put, sA, sZ, sC, i64_w, i32_w]; rfl
            refine pu 13 35 ?_ #[tt, tt, tt, tt, tt, tt, tt, tt, tt, tt, tt, tt, tt, tt, ff, ff] rfl rfl (any_of HT_.out (by kernel_rfl)) (Or.inl ⟨by rfl, ?_⟩) ?_ ?_ ?_; rotate_left; intro w'; go_simp; with_reducible rfl; rotate_left; simp only [Act.put, sA, sZ, sC, i64_w, i32_w]; rfl
            refine pu 14 36 ?_ #[tt, tt, tt, tt, tt, tt, tt, tt, tt, tt, tt, tt, tt, tt, tt, ff] rfl rfl (any_of HT_.out (by kernel_rfl)) (Or.inl ⟨by rfl, ?_⟩) ?_ ?_ ?_; rotate_left; intro w'; go_simp; with_reducible rfl; rotate_left; simp only [Act.put, sA, sZ, sC, i64_w, i32_w]; rfl
            refine last_ (i := 15) (N := none) #[tt, tt, tt, tt, tt, tt, tt, tt, tt, tt, tt, tt, tt, tt, tt, tt] rfl rfl (one_of HT_.out (by kernel_rfl)) (by decide) (fun K hK => ?_)
            have hs7 : w6.cell? ⟨gb474, 2, none⟩ = some (.int .u64 x475002_1) := (blk_cell BK474.out 2).trans rfl
            have hfs7 := blk_frozen BK474.out 2
            refine skip_ (w1 := ?_) (by rfl) rfl ?_ ?_
            rotate_left
            · go_simp
              rfl
            refine hK.out _ _ ?_
            clear hK K
            refine done_ (done_of HT_.out (by kernel_rfl)) ?_
            try go_wp2
            go_roundg k1
            case measure => have := HK1.out; omega
            case rel => exact ⟨(wrap64 (x4_1 + 1)), (IntKind.u64.wrap ((IntKind.u64.wrap ((IntKind.u64.wrap (x475002_1 * 1099511628211)) + (IntKind.u64.wrap (rd l0 x4_1)))) + 157)), rfl, H', ⟨by have := HK1.out; omega⟩, ⟨oo⟩, ⟨BU HB⟩, ⟨BU HBW⟩⟩
          · rw [if_neg c5] at H
            exact absurd H (by simp)
        · rw [if_neg c4] at H
          have c4b0 := decide_eq_false c4
          clear c4
          simp only [Option.some.injEq, Prod.mk.injEq] at H
          obtain ⟨rfl, rfl, rfl⟩ := H
          go_wp2
          go_ret
          exact ⟨_, rfl, (show IsS92 w0 _ gb474 l0 0 x475002_1 from ⟨_, _, bU BK474, GE474.out, HR0.out⟩), BU HB, BU HBW⟩
      · rw [if_neg c3] at H
        have c3b0 := decide_eq_false c3
        clear c3
        simp only [Option.some.injEq, Prod.mk.injEq] at H
        obtain ⟨rfl, rfl, rfl⟩ := H
        go_wp2
        go_ret
        exact ⟨_, rfl, (show IsS92 w0 _ gb474 l0 0 x475002_1 from ⟨_, _, bU BK474, GE474.out, HR0.out⟩), BU HB, BU HBW⟩

/-! ### spec_l02At: function 35 -/
def spec_l02At.f (k : Nat) (l0 : List Int) : Option (Int × List Int × Int) := (spec_l01From.f k l0).bind fun bt477 => ((spec_l02Draw.f k bt477.1 bt477.2.1 bt477.2.2).bind fun bt481 => ((spec_l01Next.f bt477.1 bt481.2.2.1 bt481.2.2.2 24).bind fun bt488 => ((spec_l01Next.f bt477.1 bt488.2.1 bt488.2.2 (wrap64 ((mn (mx bt481.1 1) 62) + (wrap64 (Int.tdiv bt488.1 23))))).bind fun bt491 => (some (bt481.1, bt481.2.1, bt491.1)))))
def spec_l02At.T3 : Bool × List (List Nat × List Nat) := (true, [([], []), ([], []), ([], []), ([2], [2]), ([3], [3]), ([4], [4]), ([], []), ([6], [6]), ([7], [7]), ([5, 8], [5, 8]), ([1, 9, 7], [1, 9]), ([0, 10, 0], [0]), ([10, 11, 0, 1, 2, 3, 4, 5, 6, 7, 8, 9, 10, 11], [10])])
def spec_l02At.B3 : List Nat := [0, 0, 0, 4, 12, 28, 0, 64, 192, 508, 1022, 2047, 4095]
theorem spec_l02At.tab3 : rtab .any (opsOf Tryd.f35 3) = spec_l02At.T3 := by kernel_rfl
theorem spec_l02At.bits3 : waitsOk spec_l02At.T3.2 spec_l02At.B3 = true := by kernel_rfl
set_option maxHeartbeats 8000000 in
set_option maxRecDepth 100000 in
theorem spec_l02At.calls (k : Nat) (A0 : Option Addr) (c0 : Nat) (l0 : List Int) (r1 : Int) (r2 : List Int) (r3 : Int) (w : World) (hr0 : Kd.C (Kd.int .u8) w A0 l0.length l0) (hc0 : l0.length ≤ c0) (h : spec_l02At.f k l0 = some (r1, r2, r3)) :
    Calls Tryd.prog 35 #[.slice A0 l0.length c0] w fun e w' => ∃ v1_ : Value, e = .returned (.tuple #[.agg #[.int .i64 r1, v1_], .int .i64 r3]) ∧ Kd.R (Kd.int .i64) 2 w' w.heap.size (fun _ => True) v1_ r2 ∧ Below w.heap.size w w' := by
  have hu26 := Tryd.underlying26
  have HR0 := Fa.mk hr0
  have HC0 := Fa.mk hc0
  clear hr0 hc0
  have HB := Fa.mk (Below.refl w.heap.size w)
  unfold spec_l02At.f at h; have H := h
  clear h
  replace H := Option.bind_eq_some_iff.mp H
  obtain ⟨⟨t477, t478, t479⟩, A20, H⟩ := H
  dsimp only at H
  have A2 := Fa.mk A20
  clear A20
  replace H := Option.bind_eq_some_iff.mp H
  obtain ⟨⟨t481, t482, t485, t486⟩, A30, H⟩ := H
  dsimp only at H
  have A3 := Fa.mk A30
  clear A30
  obtain ⟨ji4, hji4⟩ : ∃ j_ : Int, (mx t481 1) = j_ := ⟨_, rfl⟩
  rw [hji4] at H
  (try rw [hji4] at A2)
  (try rw [hji4] at A3)
  (try (have hji4l : 1 ≤ ji4 := by (rw [← hji4]; unfold mx; (repeat' split) <;> omega)))
  (try (have hji4m : 0 ≤ ji4 := by omega))
  have hji4_ : (if t481 < 1 then 1 else t481) = ji4 := hji4
  obtain ⟨ji5, hji5⟩ : ∃ j_ : Int, (mn (ji4) 62) = j_ := ⟨_, rfl⟩
  rw [hji5] at H
  (try rw [hji5] at A2)
  (try rw [hji5] at A3)
  have hji5_ : (if 62 < (ji4) then 62 else (ji4)) = ji5 := hji5
  replace H := Option.bind_eq_some_iff.mp H
  obtain ⟨⟨t488, t489, t490⟩, A60, H⟩ := H
  dsimp only at H
  have A6 := Fa.mk A60
  clear A60
  replace H := Option.bind_eq_some_iff.mp H
  obtain ⟨⟨t491, t492, t493⟩, A70, H⟩ := H
  dsimp only at H
  have A7 := Fa.mk A70
  clear A70
  simp only [Option.some.injEq, Prod.mk.injEq] at H
  obtain ⟨rfl, rfl, rfl⟩ := H
  go_enter Tryd.func35, Tryd.ntmps35
  try go_wp2_with (first | ((with_reducible refine gd 2 rfl ?_); refine box_event ?hg (N := 2) ?hd (cs := #[.int .i64 0, .slice none 0 0]) (t := 26) ?hr ?_; (case hd => rfl); (case hg => rfl); (case hr => first | (go_simp; done) | (go_simp; rfl)); intro gb476 hg w8 hbox hb; have BK476 := Fa.mk hbox; have GW476 := Fa.mk (bsz hg (BU HB) : w.heap.size ≤ gb476); have GE476 := GW476; replace HB := Fa.mk (below_step (BU HB) hb); clear hb hbox hg) | ((with_reducible refine gc 44 rfl ?_); refine gL 7 Tryd.func44 #[.slice A0 l0.length c0] rfl (by first | rfl | (simp only [mA, mC, mN]; rfl)) ?_; (with_reducible refine (spec_l01From.calls k _ _ l0 t477 t478 t479 w _ (BU HB) HR0.out HC0.out A2.out).mono ?_); rintro e w9 ⟨g480, rfl, hi, hb, hb2⟩; refine ⟨_, rfl, ?_⟩; have HI480 := Fa.mk hi; have NB480_476 := Fa.mk (IsS92.ne_blk hi (blk_below (bU BK476) hb2) (by decide)); have NB476_480 := Fa.mk (Ne.symm (IsS92.ne_blk hi (blk_below (bU BK476) hb2) (by decide))); replace BK476 := Fa.mk (blk_below (bU BK476) hb2); replace HB := Fa.mk hb) | ((with_reducible refine gc 43 rfl ?_); refine gL 9 Tryd.func43 #[.pointer (some ⟨g480, 0, none⟩)] rfl (by first | rfl | (simp only [mA, mC, mN]; rfl)) ?_; (with_reducible refine (spec_l02Draw.calls k g480 t477 t478 t479 t481 t482 t485 t486 w _ oo (BU HB) A3.out).mono ?_); rintro e w10 ⟨v483, rfl, ho0, hi, hb, hk⟩; refine ⟨_, rfl, ?_⟩; replace BK476 := Fa.mk (KeepBut.blk hk (bU BK476) NB476_480.out (by simp)); have HO484 := Fa.mk (Kd.R_lower ho0 (below_size (BU HB))); replace HI480 := Fa.mk hi; replace HB := Fa.mk hb) | ((with_reducible refine gd 5 rfl ?_); refine box_event ?hg (N := 5) ?hd (cs := #[.int .i64 0, .slice none 0 0]) (t := 26) ?hr ?_; (case hd => rfl); (case hg => rfl); (case hr => first | (go_simp; done) | (go_simp; rfl)); intro gb487 hg w11 hbox hb; have BK487 := Fa.mk hbox; have GW487 := Fa.mk (bsz hg (BU HB) : w.heap.size ≤ gb487); have GE487 := GW487; have NB476_487 := Fa.mk ((by rw [hg]; exact Nat.ne_of_lt (blk_lt (bU BK476)) : gb476 ≠ gb487)); have NB487_476 := Fa.mk ((by rw [hg]; exact Nat.ne_of_gt (blk_lt (bU BK476)) : gb487 ≠ gb476)); have NB480_487 := Fa.mk ((by rw [hg]; exact Nat.ne_of_lt (IsS92.lt (show IsS92 w _ g480 t477 t485 t486 from oo)) : g480 ≠ gb487)); have NB487_480 := Fa.mk ((by rw [hg]; exact Nat.ne_of_gt (IsS92.lt (show IsS92 w _ g480 t477 t485 t486 from oo)) : gb487 ≠ g480)); replace HO484 := Fa.mk (Kd.R_below (rU HO484) hb); replace BK476 := Fa.mk (blk_below (bU BK476) hb); replace HI480 := Fa.mk (IsS92.below (sU HI480) hb); replace HB := Fa.mk (below_step (BU HB) hb); clear hb hbox hg; have hnb12 := NB487_476.out; have hnc12 := NB476_487.out; have hnb13 := NB487_480.out; have hnc13 := NB480_487.out; obtain ⟨hcz14_0, hcz14_1, hfz14_0, hfz14_1⟩ := cz2 BK487.out; obtain ⟨Ao15, co15, eo15⟩ := Kd.R_slice HO484.out; subst eo15))
  have n0_ : Fa (Kd.R (Kd.int .i64) 2 ((w11.setCell ⟨gb487, 0, none⟩ (.int .i64 t481)).setCell ⟨gb487, 1, none⟩ (.slice Ao15 t482.length co15)) w.heap.size (fun _ => True) (.slice Ao15 t482.length co15) t482) := ⟨by (with_reducible repeat (first | apply Kd.R_alloc | apply Kd.R_drewN | apply Kd.R_drew)); exact Kd.R_mono (Kd.R_far (p := ⟨gb487, 1, none⟩) (Kd.R_far (p := ⟨gb487, 0, none⟩) (Kd.R_types HO484.out BK487.out (by decide)) (fun _ hk => hk.2) (.int .i64 t481)) (fun _ hk => hk.2) (.slice Ao15 t482.length co15)) (fun _ hk => trivial)⟩
  have n1_ : Fa (((w11.setCell ⟨gb487, 0, none⟩ (.int .i64 t481)).setCell ⟨gb487, 1, none⟩ (.slice Ao15 t482.length co15)).heap[gb476]? = some (.cells #[.int .i64 0, .slice none 0 0] 26 (0, 0))) := ⟨by (with_reducible repeat (first | refine blk_drewN ?_ _ | refine blk_drew ?_ | refine blk_alloc ?_ _)); refine blk_far ?_ NB476_487.out _; (with_reducible repeat (first | refine blk_drewN ?_ _ | refine blk_drew ?_ | refine blk_alloc ?_ _)); refine blk_far ?_ NB476_487.out _; (with_reducible repeat (first | refine blk_drewN ?_ _ | refine blk_drew ?_ | refine blk_alloc ?_ _)); exact BK476.out⟩
  have n2_ : Fa (((w11.setCell ⟨gb487, 0, none⟩ (.int .i64 t481)).setCell ⟨gb487, 1, none⟩ (.slice Ao15 t482.length co15)).heap[gb487]? = some (.cells #[.int .i64 t481, .slice Ao15 t482.length co15] 26 (0, 0))) := ⟨oo⟩
  have n3_ : Fa (IsS92 w ((w11.setCell ⟨gb487, 0, none⟩ (.int .i64 t481)).setCell ⟨gb487, 1, none⟩ (.slice Ao15 t482.length co15)) g480 t477 t485 t486) := ⟨oo⟩
  have n4_ : Fa (Below w.heap.size w ((w11.setCell ⟨gb487, 0, none⟩ (.int .i64 t481)).setCell ⟨gb487, 1, none⟩ (.slice Ao15 t482.length co15))) := ⟨BU HB⟩
  generalize ((w11.setCell ⟨gb487, 0, none⟩ (.int .i64 t481)).setCell ⟨gb487, 1, none⟩ (.slice Ao15 t482.length co15)) = w16 at n0_ n1_ n2_ n3_ n4_ ⊢
  have HO484 := n0_
  have BK476 := n1_
  have BK487 := n2_
  have HI480 := n3_
  have HB := n4_
  clear n0_ n1_ n2_ n3_ n4_
  replace HO484 := Fa.mk (Kd.R_drew HO484.out); replace BK476 := Fa.mk (blk_drew BK476.out); replace BK487 := Fa.mk (blk_drew BK487.out); replace HI480 := Fa.mk (IsS92.drew HI480.out); replace HB := Fa.mk (below_drew1 HB.out)
  refine start_ (n := 13) (S := fun w' => w'.cell? ⟨gb487, 0, none⟩ = some (.int .i64 t481) ∧ w'.cell? ⟨gb487, 1, none⟩ = some (.slice Ao15 t482.length co15)) (ds := []) #[ff, ff, ff, ff, ff, ff, ff, ff, ff, ff, ff, ff, ff] (by kernel_rfl) rfl rfl ⟨(blk_cell BK487.out 0).trans rfl, (blk_cell BK487.out 1).trans rfl⟩ (fun hHeld => ?_); refine with_tabW spec_l02At.tab3 spec_l02At.bits3 (fun HT_ HW_ => ?_)
  generalize w16.drew = w17 at HO484 BK476 BK487 HI480 HB hHeld ⊢
  refine pu 1 11 ?_ #[ff, tt, ff, ff, ff, ff, ff, ff, ff, ff, ff, ff, ff] rfl rfl (any_of HT_.out (by kernel_rfl)) (Or.inl ⟨by rfl, ?_⟩) ?_ ?_ ?_; rotate_left; intro w'; go_simp; with_reducible rfl; rotate_left; simp only [Act.put, sA, sZ, sC, i64_w, i32_w]; rfl
  refine pu 2 12 ?_ #[ff, tt, tt, ff, ff, ff, ff, ff, ff, ff, ff, ff, ff] rfl rfl (any_of HT_.out (by kernel_rfl)) (Or.inl ⟨by rfl, ?_⟩) ?_ ?_ ?_; rotate_left; intro w'; go_simp; with_reducible rfl; rotate_left; simp only [Act.put, sA, sZ, sC, i64_w, i32_w]; rfl
  refine pu 6 16 ?_ #[ff, tt, tt, ff, ff, ff, tt, ff, ff, ff, ff, ff, ff] rfl rfl (any_of HT_.out (by kernel_rfl)) (Or.inl ⟨by rfl, ?_⟩) ?_ ?_ ?_; rotate_left; intro w'; go_simp; with_reducible rfl; rotate_left; simp only [Act.put, sA, sZ, sC, i64_w, i32_w]; rfl
  refine tk 0 10 ?_ #[tt, tt, tt, ff, ff, ff, tt, ff, ff, ff, ff, ff, ff] rfl rfl (take_ofW HT_.out HW_.out (by kernel_rfl)) (Or.inl ⟨by rfl, ?_⟩) hHeld ?_ ?_ ?_; rotate_left; rintro w' ⟨s0, s1⟩; go_simp; with_reducible rfl; rotate_left; simp only [Act.put, sA, sZ, sC, i64_w, i32_w]; rfl
  refine tk 3 13 ?_ #[tt, tt, tt, tt, ff, ff, tt, ff, ff, ff, ff, ff, ff] rfl rfl (take_ofW HT_.out HW_.out (by kernel_rfl)) (Or.inl ⟨by rfl, ?_⟩) hHeld ?_ ?_ ?_; rotate_left; rintro w' ⟨s0, s1⟩; go_simp; with_reducible rfl; rotate_left; simp only [Act.put, sA, sZ, sC, i64_w, i32_w]; rfl
  refine pu 4 14 ?_ #[tt, tt, tt, tt, tt, ff, tt, ff, ff, ff, ff, ff, ff] rfl rfl (any_of HT_.out (by kernel_rfl)) (Or.inl ⟨by rfl, ?_⟩) ?_ ?_ ?_; rotate_left; intro w'; go_simp; with_reducible rfl; rotate_left; simp only [Act.put, sA, sZ, sC, i64_w, i32_w]; rfl
  refine pu 5 15 ?_ #[tt, tt, tt, tt, tt, tt, tt, ff, ff, ff, ff, ff, ff] rfl rfl (any_of HT_.out (by kernel_rfl)) (Or.inl ⟨by rfl, ?_⟩) ?_ ?_ ?_; rotate_left; intro w'; go_simp; with_reducible rfl; rotate_left; simp only [Act.put, sA, sZ, sC, i64_w, i32_w]; rfl
  refine one_ (i := 7) (N := some 17) #[tt, tt, tt, tt, tt, tt, tt, tt, ff, ff, ff, ff, ff] rfl rfl (one_of HT_.out (by kernel_rfl)) (by decide) (fun K hK => ?_)
  refine goes_ Tryd.func77 (by kernel_rfl) rfl #[.pointer (some ⟨g480, 0, none⟩), .int .i64 24] (by rfl) rfl rfl (by first | rfl | (simp only [mA, mC, mN]; rfl)) ?_
  with_reducible refine (spec_l01Next.calls g480 t477 t485 t486 24 t488 t489 t490 w _ ?side1 ?side2 A6.out).mono ?_
  (case side1 => exact oo)
  (case side2 => exact BU HB)
  rintro e w18 ⟨rfl, hi, hb, hk⟩
  refine ⟨_, rfl, ?_⟩
  replace HO484 := Fa.mk (Kd.R_mono (Kd.R_keep (IsS92.apart (show IsS92 w _ g480 t477 t485 t486 from oo) (rU HO484) (by decide)) hk (fun _ h => h.2)) (fun _ h => h.1)); replace BK476 := Fa.mk (KeepBut.blk hk (bU BK476) NB476_480.out (by simp)); replace BK487 := Fa.mk (KeepBut.blk hk (bU BK487) NB487_480.out (by simp)); replace HI480 := Fa.mk hi; replace HB := Fa.mk hb
  refine hK.out _ _ ⟨(blk_cell BK487.out 0).trans rfl, (blk_cell BK487.out 1).trans rfl⟩ (fun hHeld => ?_)
  clear hK K
  refine norm_ (a' := ?_) ?_ ?_
  rotate_left
  · show Act.put _ (some 17) _ = _
    simp only [Act.put, sA, sZ, sC, i64_w, i32_w]
    rfl
  refine pu 8 18 ?_ #[tt, tt, tt, tt, tt, tt, tt, tt, tt, ff, ff, ff, ff] rfl rfl (any_of HT_.out (by kernel_rfl)) (Or.inl ⟨by rfl, ?_⟩) ?_ ?_ ?_; rotate_left; intro w'; go_simp; with_reducible rfl; rotate_left; simp only [Act.put, sA, sZ, sC, i64_w, i32_w]; rfl
  refine pu 9 19 ?_ #[tt, tt, tt, tt, tt, tt, tt, tt, tt, tt, ff, ff, ff] rfl rfl (any_of HT_.out (by kernel_rfl)) (Or.inl ⟨by rfl, ?_⟩) ?_ ?_ ?_; rotate_left; intro w'; go_simp; with_reducible rfl; rotate_left; simp only [Act.put, sA, sZ, sC, i64_w, i32_w]; rfl
  refine one_ (i := 10) (N := some 20) #[tt, tt, tt, tt, tt, tt, tt, tt, tt, tt, tt, ff, ff] rfl rfl (one_of HT_.out (by kernel_rfl)) (by decide) (fun K hK => ?_)
  refine goes_ Tryd.func77 (by kernel_rfl) rfl #[.pointer (some ⟨g480, 0, none⟩), .int .i64 (wrap64 ((ji5) + (wrap64 (Int.tdiv t488 23))))] (by rfl) rfl rfl (by (try simp only [List.map_toArray, List.map_cons, List.map_nil]); first | done | (simp only [hji5]; rfl) | rfl | (simp only [List.length_drop, List.length_take]; rfl)) ?_
  with_reducible refine (spec_l01Next.calls g480 t477 t489 t490 (wrap64 ((ji5) + (wrap64 (Int.tdiv t488 23)))) t491 t492 t493 w _ ?side1 ?side2 A7.out).mono ?_
  (case side1 => exact oo)
  (case side2 => exact BU HB)
  rintro e w19 ⟨rfl, hi, hb, hk⟩
  refine ⟨_, rfl, ?_⟩
  replace HO484 := Fa.mk (Kd.R_mono (Kd.R_keep (IsS92.apart (show IsS92 w _ g480 t477 t489 t490 from oo) (rU HO484) (by decide)) hk (fun _ h => h.2)) (fun _ h => h.1)); replace BK476 := Fa.mk (KeepBut.blk hk (bU BK476) NB476_480.out (by simp)); replace BK487 := Fa.mk (KeepBut.blk hk (bU BK487) NB487_480.out (by simp)); replace HI480 := Fa.mk hi; replace HB := Fa.mk hb
  refine hK.out _ _ ⟨(blk_cell BK487.out 0).trans rfl, (blk_cell BK487.out 1).trans rfl⟩ (fun hHeld => ?_)
  clear hK K
  refine norm_ (a' := ?_) ?_ ?_
  rotate_left
  · show Act.put _ (some 20) _ = _
    simp only [Act.put, sA, sZ, sC, i64_w, i32_w]
    rfl
  refine one_ (i := 11) (N := none) #[tt, tt, tt, tt, tt, tt, tt, tt, tt, tt, tt, tt, ff] rfl rfl (one_of HT_.out (by kernel_rfl)) (by decide) (fun K hK => ?_)
  have hs20 : w19.cell? ⟨gb476, 0, none⟩ = some (.int .i64 0) := (blk_cell BK476.out 0).trans rfl
  have hfs20 := blk_frozen BK476.out 0
  have hns20_1 := NB487_476.out
  have hms20_1 := NB476_487.out
  have hs21 : w19.cell? ⟨gb476, 1, none⟩ = some (.slice none 0 0) := (blk_cell BK476.out 1).trans rfl
  have hfs21 := blk_frozen BK476.out 1
  have hns21_1 := NB487_476.out
  have hms21_1 := NB476_487.out
  refine skip_ (w1 := ?_) (by rfl) rfl ?_ ?_
  rotate_left
  · go_simp
    rfl
  refine hK.out _ _ ⟨((cell_far (p := ⟨gb476, _, none⟩) NB487_476.out _).trans (((cell_far (p := ⟨gb476, _, none⟩) NB487_476.out _).trans (hHeld.1)))), ((cell_far (p := ⟨gb476, _, none⟩) NB487_476.out _).trans (((cell_far (p := ⟨gb476, _, none⟩) NB487_476.out _).trans (hHeld.2))))⟩ (fun hHeld => ?_)
  clear hK K
  refine pu 12 3 ?_ #[tt, tt, tt, tt, tt, tt, tt, tt, tt, tt, tt, tt, tt] rfl rfl (any_of HT_.out (by kernel_rfl)) (Or.inl ⟨by rfl, ?_⟩) ?_ ?_ ?_; rotate_left; intro w'; go_simp; with_reducible rfl; rotate_left; simp only [Act.put, sA, sZ, sC, i64_w, i32_w]; rfl
  refine done_ (done_of HT_.out (by kernel_rfl)) ?_
  try go_wp2
  refine bodyPost_ret (results_ct rfl _ _ gb476 26 #[.int .i64 t481, .slice Ao15 t482.length co15] (0, 0) _ rfl oo Tryd.underlying26 rfl (by kernel_rfl)) rfl ?_
  exact ⟨_, rfl, by (with_reducible repeat (first | apply Kd.R_alloc | apply Kd.R_drewN | apply Kd.R_drew)); exact Kd.R_mono (Kd.R_far (p := ⟨gb476, 1, none⟩) (Kd.R_far (p := ⟨gb476, 0, none⟩) (Kd.R_types HO484.out BK476.out (by decide)) (fun _ hk => hk.2) (.int .i64 t481)) (fun _ hk => hk.2) (.slice Ao15 t482.length co15)) (fun _ hk => trivial), BU HB⟩

/-! ### spec_DrawDistancesFrom: function 8 -/
def spec_DrawDistancesFrom.f (k : Nat) (l0 : List Int) : Option (Int × List Int × Int) := (spec_l02At.f k l0).bind fun bt495 => (some (bt495.1, bt495.2.1, bt495.2.2))
set_option maxHeartbeats 8000000 in
set_option maxRecDepth 100000 in
theorem spec_DrawDistancesFrom.calls (k : Nat) (A0 : Option Addr) (c0 : Nat) (l0 : List Int) (r1 : Int) (r2 : List Int) (r3 : Int) (w : World) (hr0 : Kd.C (Kd.int .u8) w A0 l0.length l0) (hc0 : l0.length ≤ c0) (h : spec_DrawDistancesFrom.f k l0 = some (r1, r2, r3)) :
    Calls Tryd.prog 8 #[.slice A0 l0.length c0] w fun e w' => ∃ v1_ : Value, e = .returned (.tuple #[.agg #[.int .i64 r1, v1_], .int .i64 r3]) ∧ Kd.R (Kd.int .i64) 2 w' w.heap.size (fun _ => True) v1_ r2 ∧ Below w.heap.size w w' := by
  have hu26 := Tryd.underlying26
  have HR0 := Fa.mk hr0
  have HC0 := Fa.mk hc0
  clear hr0 hc0
  have HB := Fa.mk (Below.refl w.heap.size w)
  have H : ((spec_l02At.f k l0).bind fun bt495 => (some (bt495.1, bt495.2.1, bt495.2.2))) = some (r1, r2, r3) := h
  clear h
  replace H := Option.bind_eq_some_iff.mp H
  obtain ⟨⟨t495, t496, t499⟩, A20, H⟩ := H
  dsimp only at H
  have A2 := Fa.mk A20
  clear A20
  simp only [Option.some.injEq, Prod.mk.injEq] at H
  obtain ⟨rfl, rfl, rfl⟩ := H
  go_enter Tryd.func8, Tryd.ntmps8
  go_wp2_with (first | ((with_reducible refine gd 2 rfl ?_); refine box_event ?hg (N := 2) ?hd (cs := #[.int .i64 0, .slice none 0 0]) (t := 26) ?hr ?_; (case hd => rfl); (case hg => rfl); (case hr => first | (go_simp; done) | (go_simp; rfl)); intro gb494 hg w3 hbox hb; have BK494 := Fa.mk hbox; have GW494 := Fa.mk (bsz hg (BU HB) : w.heap.size ≤ gb494); have GE494 := GW494; replace HB := Fa.mk (below_step (BU HB) hb); clear hb hbox hg) | ((with_reducible refine gc 35 rfl ?_); refine gL 5 Tryd.func35 #[.slice A0 l0.length c0] rfl (by first | rfl | (simp only [mA, mC, mN]; rfl)) ?_; (with_reducible refine (spec_l02At.calls k _ _ l0 t495 t496 t499 _ (Kd.C_below HR0.out (BU HB)) HC0.out A2.out).mono ?_); rintro e w4 ⟨v497, rfl, ho0, hb⟩; refine ⟨_, rfl, ?_⟩; have HO498 := Fa.mk (Kd.R_lower ho0 (below_size (BU HB))); replace BK494 := Fa.mk (blk_below (bU BK494) hb); replace HB := Fa.mk (below_step (BU HB) hb); obtain ⟨hcz5_0, hcz5_1, hfz5_0, hfz5_1⟩ := cz2 BK494.out; obtain ⟨Ao6, co6, eo6⟩ := Kd.R_slice HO498.out; subst eo6))
  refine bodyPost_ret (results_ct rfl _ _ gb494 26 #[.int .i64 t495, .slice Ao6 t496.length co6] (0, 0) _ rfl oo Tryd.underlying26 rfl (by kernel_rfl)) rfl ?_
  exact ⟨_, rfl, by (with_reducible repeat (first | apply Kd.R_alloc | apply Kd.R_drewN | apply Kd.R_drew)); exact Kd.R_mono (Kd.R_far (p := ⟨gb494, 1, none⟩) (Kd.R_far (p := ⟨gb494, 0, none⟩) (Kd.R_types HO498.out BK494.out (by decide)) (fun _ hk => hk.2) (.int .i64 t495)) (fun _ hk => hk.2) (.slice Ao6 t496.length co6)) (fun _ hk => trivial), BU HB⟩

end Go.Proofs.YtockngphfpedkaaDoor.XFnDistances
