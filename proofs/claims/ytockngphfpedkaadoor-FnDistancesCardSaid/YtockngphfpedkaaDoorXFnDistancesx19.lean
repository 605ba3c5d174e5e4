-- Written by this project's own program (mprint.py) by means of the kit's printer: with contracts of its own for the functions that the printer leaves out.
import Derived.Test.YtockngphfpedkaaDoorXFnDistancesx0
import Derived.Test.YtockngphfpedkaaDoorXFnDistancesx11
import Derived.Test.YtockngphfpedkaaDoorXFnDistancesx13
import Derived.Test.YtockngphfpedkaaDoorXFnDistancesx18
namespace Go.Proofs.YtockngphfpedkaaDoor.XFnDistances
open Go.RowKit Go.Proofs.YtockngphfpedkaaDoorW.PrintWords Go.Proofs.YtockngphfpedkaaDoorW.PrintLast Go.Proofs.YtockngphfpedkaaDoorW.PrintMore
attribute [local go_sem] max2_int min2_int max_two min_two max_three min_three max_four min_four   -- for this text's walks alone
set_option linter.unusedVariables false
set_option linter.unusedSimpArgs false

/-! ### spec_l02Diameter: function 50 -/
def spec_l02Diameter.l0 : Nat → List Int → Int → Int → Int → Option (Int × Int)
  | 0, _, _, _, _ => none
  | k + 1, x4, x5, x6, x7 => if x7 < (x4.length : Int) then (if 0 ≤ x7 then (spec_l02Diameter.l0 k x4 (mx x5 (rd x4 x7)) (mn x6 (rd x4 x7)) (wrap64 (x7 + 1))) else (none)) else (some (x5, x6))
def spec_l02Diameter.f (k : Nat) (a0_0 : Int) (l0_1 : List Int) : Option (Int × Int) := (spec_l02Reaches.f k a0_0 l0_1).bind fun t755 => (if 0 < (t755.length : Int) then (spec_l02Diameter.l0 k t755 (rd t755 0) (rd t755 0) 1) else (none))
set_option maxHeartbeats 8000000 in
set_option maxRecDepth 100000 in
theorem spec_l02Diameter.calls (k : Nat) (a0_0 : Int) (A0_1 : Option Addr) (c0_1 : Nat) (l0_1 : List Int) (r1 : Int) (r2 : Int) (w : World) (hr0_1 : Kd.C (Kd.int .i64) w A0_1 l0_1.length l0_1) (hc0_1 : l0_1.length ≤ c0_1) (h : spec_l02Diameter.f k a0_0 l0_1 = some (r1, r2)) :
    Calls Tryd.prog 50 #[.agg #[.int .i64 a0_0, .slice A0_1 l0_1.length c0_1]] w fun e w' => e = .returned (.tuple #[.int .i64 r1, .int .i64 r2]) ∧ Below w.heap.size w w' := by
  have hu26 := Tryd.underlying26
  have HR0_1 := Fa.mk hr0_1
  have HC0_1 := Fa.mk hc0_1
  clear hr0_1 hc0_1
  have HB := Fa.mk (Below.refl w.heap.size w)
  unfold spec_l02Diameter.f at h; have H := h
  clear h
  replace H := Option.bind_eq_some_iff.mp H
  obtain ⟨t755, A20, H⟩ := H
  replace H : (if 0 < (t755.length : Int) then (spec_l02Diameter.l0 k t755 (rd t755 0) (rd t755 0) 1) else (none)) = some (r1, r2) := H
  have A2 := Fa.mk A20
  clear A20
  by_cases c3 : 0 < (t755.length : Int)
  · rw [if_pos c3] at H
    have c3b0 := decide_eq_true c3
    have c3b1 : decide (0 < t755.length) = true := decide_eq_true (by omega)
    clear c3
    have H' := Fa.mk H
    clear H
    go_enter Tryd.func50, Tryd.ntmps50
    go_wp2_with (first | ((with_reducible refine gd 1 rfl ?_); refine box_event ?hg (N := 1) ?hd (cs := #[.int .i64 a0_0, .slice A0_1 l0_1.length c0_1]) (t := 26) ?hr ?_; (case hd => rfl); (case hg => rfl); (case hr => first | (go_simp; done) | (go_simp; rfl)); intro gb754 hg w4 hbox hb; have BK754 := Fa.mk hbox; have GW754 := Fa.mk (bsz hg (BU HB) : w.heap.size ≤ gb754); have GE754 := GW754; replace HB := Fa.mk (below_step (BU HB) hb); clear hb hbox hg; obtain ⟨hcz5_0, hcz5_1, hfz5_0, hfz5_1⟩ := cz2 BK754.out) | (go_at_call 52; (with_reducible refine (spec_l02Reaches.calls k a0_0 _ _ l0_1 t755 _ (Kd.C_below HR0_1.out (BU HB)) HC0_1.out A2.out).mono ?_); rintro e w6 ⟨v756, rfl, ho0, hb⟩; have HO757 := Fa.mk (Kd.R_lower ho0 (below_size (BU HB))); replace BK754 := Fa.mk (blk_below (bU BK754) hb); replace HB := Fa.mk (below_step (BU HB) hb); obtain ⟨Ao7, co7, eo7⟩ := Kd.R_slice HO757.out; subst eo7; have p758 : 0 ≤ (0 : Int) := (by omega); have q758 : 0 < (t755.length : Int) := of_decide_eq_true (by assumption); obtain ⟨ad758, e758, hx758_0⟩ := Kd.at_int (Kd.R_reads' HO757.out).2.2 0 p758 q758; cases e758; have qi758 : (0 < t755.length) = True := eq_true (by omega); (try rw [show ((0 : Int)).toNat = 0 from rfl] at hx758_0); (try rw [Addr.add_zero'] at hx758_0); replace p758 := eq_true p758; replace q758 := eq_true q758; have p759 : 0 ≤ (0 : Int) := (by omega); have q759 : 0 < (t755.length : Int) := of_decide_eq_true (by assumption); obtain ⟨ad759, e759, hx759_0⟩ := Kd.at_int (Kd.R_reads' HO757.out).2.2 0 p759 q759; obtain rfl : ad758 = ad759 := (by injection e759); have qi759 : (0 < t755.length) = True := eq_true (by omega); (try rw [show ((0 : Int)).toNat = 0 from rfl] at hx759_0); (try rw [Addr.add_zero'] at hx759_0); replace p759 := eq_true p759; replace q759 := eq_true q759))
    repeat (go_quiet (first | ((with_reducible refine gd 1 rfl ?_); refine box_event ?hg (N := 1) ?hd (cs := #[.int .i64 a0_0, .slice A0_1 l0_1.length c0_1]) (t := 26) ?hr ?_; (case hd => rfl); (case hg => rfl); (case hr => first | (go_simp; done) | (go_simp; rfl)); intro gb754 hg w4 hbox hb; have BK754 := Fa.mk hbox; have GW754 := Fa.mk (bsz hg (BU HB) : w.heap.size ≤ gb754); have GE754 := GW754; replace HB := Fa.mk (below_step (BU HB) hb); clear hb hbox hg; obtain ⟨hcz5_0, hcz5_1, hfz5_0, hfz5_1⟩ := cz2 BK754.out) | (go_at_call 52; (with_reducible refine (spec_l02Reaches.calls k a0_0 _ _ l0_1 t755 _ (Kd.C_below HR0_1.out (BU HB)) HC0_1.out A2.out).mono ?_); rintro e w6 ⟨v756, rfl, ho0, hb⟩; have HO757 := Fa.mk (Kd.R_lower ho0 (below_size (BU HB))); replace BK754 := Fa.mk (blk_below (bU BK754) hb); replace HB := Fa.mk (below_step (BU HB) hb); obtain ⟨Ao7, co7, eo7⟩ := Kd.R_slice HO757.out; subst eo7; have p758 : 0 ≤ (0 : Int) := (by omega); have q758 : 0 < (t755.length : Int) := of_decide_eq_true (by assumption); obtain ⟨ad758, e758, hx758_0⟩ := Kd.at_int (Kd.R_reads' HO757.out).2.2 0 p758 q758; cases e758; have qi758 : (0 < t755.length) = True := eq_true (by omega); (try rw [show ((0 : Int)).toNat = 0 from rfl] at hx758_0); (try rw [Addr.add_zero'] at hx758_0); replace p758 := eq_true p758; replace q758 := eq_true q758; have p759 : 0 ≤ (0 : Int) := (by omega); have q759 : 0 < (t755.length : Int) := of_decide_eq_true (by assumption); obtain ⟨ad759, e759, hx759_0⟩ := Kd.at_int (Kd.R_reads' HO757.out).2.2 0 p759 q759; obtain rfl : ad758 = ad759 := (by injection e759); have qi759 : (0 < t755.length) = True := eq_true (by omega); (try rw [show ((0 : Int)).toNat = 0 from rfl] at hx759_0); (try rw [Addr.add_zero'] at hx759_0); replace p759 := eq_true p759; replace q759 := eq_true q759)); try go_wp2_with (first | ((with_reducible refine gd 1 rfl ?_); refine box_event ?hg (N := 1) ?hd (cs := #[.int .i64 a0_0, .slice A0_1 l0_1.length c0_1]) (t := 26) ?hr ?_; (case hd => rfl); (case hg => rfl); (case hr => first | (go_simp; done) | (go_simp; rfl)); intro gb754 hg w4 hbox hb; have BK754 := Fa.mk hbox; have GW754 := Fa.mk (bsz hg (BU HB) : w.heap.size ≤ gb754); have GE754 := GW754; replace HB := Fa.mk (below_step (BU HB) hb); clear hb hbox hg; obtain ⟨hcz5_0, hcz5_1, hfz5_0, hfz5_1⟩ := cz2 BK754.out) | (go_at_call 52; (with_reducible refine (spec_l02Reaches.calls k a0_0 _ _ l0_1 t755 _ (Kd.C_below HR0_1.out (BU HB)) HC0_1.out A2.out).mono ?_); rintro e w6 ⟨v756, rfl, ho0, hb⟩; have HO757 := Fa.mk (Kd.R_lower ho0 (below_size (BU HB))); replace BK754 := Fa.mk (blk_below (bU BK754) hb); replace HB := Fa.mk (below_step (BU HB) hb); obtain ⟨Ao7, co7, eo7⟩ := Kd.R_slice HO757.out; subst eo7; have p758 : 0 ≤ (0 : Int) := (by omega); have q758 : 0 < (t755.length : Int) := of_decide_eq_true (by assumption); obtain ⟨ad758, e758, hx758_0⟩ := Kd.at_int (Kd.R_reads' HO757.out).2.2 0 p758 q758; cases e758; have qi758 : (0 < t755.length) = True := eq_true (by omega); (try rw [show ((0 : Int)).toNat = 0 from rfl] at hx758_0); (try rw [Addr.add_zero'] at hx758_0); replace p758 := eq_true p758; replace q758 := eq_true q758; have p759 : 0 ≤ (0 : Int) := (by omega); have q759 : 0 < (t755.length : Int) := of_decide_eq_true (by assumption); obtain ⟨ad759, e759, hx759_0⟩ := Kd.at_int (Kd.R_reads' HO757.out).2.2 0 p759 q759; obtain rfl : ad758 = ad759 := (by injection e759); have qi759 : (0 < t755.length) = True := eq_true (by omega); (try rw [show ((0 : Int)).toNat = 0 from rfl] at hx759_0); (try rw [Addr.add_zero'] at hx759_0); replace p759 := eq_true p759; replace q759 := eq_true q759)))
    go_loopg [5, 6, 7] k (fun kq v5 v6 v7 w' => ∃ (x5_1 : Int) (x6_1 : Int) (x7_1 : Int), v5 = .int .i64 x5_1 ∧ v6 = .int .i64 x6_1 ∧ v7 = .int .i64 x7_1 ∧ Fa (spec_l02Diameter.l0 kq t755 x5_1 x6_1 x7_1 = some (r1, r2)) ∧ Fa (kq ≤ k) ∧ Fa (Kd.R (Kd.int .i64) 2 w' w.heap.size (fun _ => True) (.slice (some ad758) t755.length co7) t755) ∧ Fa (w'.heap[gb754]? = some (.cells #[.int .i64 a0_0, (.slice A0_1 l0_1.length c0_1)] 26 (0, 0))) ∧ Fa (Below w.heap.size w w'))
    case atStart => exact ⟨(rd t755 0), (rd t755 0), (1), rfl, rfl, rfl, H', ⟨Nat.le_refl _⟩, ⟨rU HO757⟩, ⟨bU BK754⟩, ⟨BU HB⟩⟩
    case round =>
      clear H'
      obtain ⟨x5_1, x6_1, x7_1, rfl, rfl, rfl, HA, HK1, HO_4, BK754, HB⟩ := hrel
      cases gk with
      | zero => exact absurd HA.out (by simp [spec_l02Diameter.l0])
      | succ k1 =>
        have H := HA.out
        clear HA
        simp only [spec_l02Diameter.l0] at H
        by_cases c8 : x7_1 < (t755.length : Int)
        · rw [if_pos c8] at H
          have c8b0 := decide_eq_true c8
          clear c8
          by_cases c9 : 0 ≤ x7_1
          · rw [if_pos c9] at H
            have c9b0 := decide_eq_true c9
            clear c9
            obtain ⟨ji10, hji10⟩ : ∃ j_ : Int, (mx x5_1 (rd t755 x7_1)) = j_ := ⟨_, rfl⟩
            rw [hji10] at H
            have hji10_ : (if x5_1 < (rd t755 x7_1) then (rd t755 x7_1) else x5_1) = ji10 := hji10
            obtain ⟨ji11, hji11⟩ : ∃ j_ : Int, (mn x6_1 (rd t755 x7_1)) = j_ := ⟨_, rfl⟩
            rw [hji11] at H
            have hji11_ : (if (rd t755 x7_1) < x6_1 then (rd t755 x7_1) else x6_1) = ji11 := hji11
            have H' := Fa.mk H
            clear H
            have p760 : 0 ≤ (x7_1 : Int) := of_decide_eq_true (by assumption)
            have q760 : x7_1 < (t755.length : Int) := of_decide_eq_true (by assumption)
            obtain ⟨ad760, e760, hx760_0⟩ := Kd.at_int (Kd.R_reads' HO_4.out).2.2 x7_1 p760 q760
            obtain rfl : ad758 = ad760 := (by injection e760)
            replace p760 := eq_true p760
            replace q760 := eq_true q760
            have p761 : 0 ≤ (x7_1 : Int) := of_decide_eq_true (by assumption)
            have q761 : x7_1 < (t755.length : Int) := of_decide_eq_true (by assumption)
            obtain ⟨ad761, e761, hx761_0⟩ := Kd.at_int (Kd.R_reads' HO_4.out).2.2 x7_1 p761 q761
            obtain rfl : ad758 = ad761 := (by injection e761)
            replace p761 := eq_true p761
            replace q761 := eq_true q761
            go_wp2
            repeat (go_quiet (fail); try go_wp2)
            go_roundg k1
            case measure => have := HK1.out; omega
            case rel => exact ⟨(ji10), (ji11), (wrap64 (x7_1 + 1)), (by first | rfl | (simp; done) | (simp only [← hji10] <;> (first | rfl | simp)) | (simp [*]; done)), (by first | rfl | (simp; done) | (simp only [← hji11] <;> (first | rfl | simp)) | (simp [*]; done)), rfl, H', ⟨by have := HK1.out; omega⟩, ⟨rU HO_4⟩, ⟨bU BK754⟩, ⟨BU HB⟩⟩
          · rw [if_neg c9] at H
            exact absurd H (by simp)
        · rw [if_neg c8] at H
          have c8b0 := decide_eq_false c8
          clear c8
          simp only [Option.some.injEq, Prod.mk.injEq] at H
          obtain ⟨rfl, rfl⟩ := H
          go_wp2
          repeat (go_quiet (fail); try go_wp2)
          go_ret2
          exact ⟨rfl, BU HB⟩
  · rw [if_neg c3] at H
    exact absurd H (by simp)

/-! ### spec_DiameterOf: function 19 -/
def spec_DiameterOf.f (k : Nat) (a0_0 : Int) (l0_1 : List Int) : Option (Int × Int × Int) := (spec_l01Is.f k a0_0 l0_1).bind fun t763 => (if t763 = true then ((spec_l02Connected.f k a0_0 l0_1).bind fun t764 => (if t764 = true then ((spec_l02Diameter.f k a0_0 l0_1).bind fun bt765 => (some (bt765.1, bt765.2, 0))) else (some (0, 0, 5)))) else (some (0, 0, 1)))
set_option maxHeartbeats 8000000 in
set_option maxRecDepth 100000 in
theorem spec_DiameterOf.calls (k : Nat) (a0_0 : Int) (A0_1 : Option Addr) (c0_1 : Nat) (l0_1 : List Int) (r1 : Int) (r2 : Int) (r3 : Int) (w : World) (hr0_1 : Kd.C (Kd.int .i64) w A0_1 l0_1.length l0_1) (hc0_1 : l0_1.length ≤ c0_1) (h : spec_DiameterOf.f k a0_0 l0_1 = some (r1, r2, r3)) :
    Calls Tryd.prog 19 #[.agg #[.int .i64 a0_0, .slice A0_1 l0_1.length c0_1]] w fun e w' => e = .returned (.tuple #[.int .i64 r1, .int .i64 r2, .int .i64 r3]) ∧ Below w.heap.size w w' := by
  have hu26 := Tryd.underlying26
  have HR0_1 := Fa.mk hr0_1
  have HC0_1 := Fa.mk hc0_1
  clear hr0_1 hc0_1
  have HB := Fa.mk (Below.refl w.heap.size w)
  unfold spec_DiameterOf.f at h; have H := h
  clear h
  replace H := Option.bind_eq_some_iff.mp H
  obtain ⟨t763, A20, H⟩ := H
  replace H : (if t763 = true then ((spec_l02Connected.f k a0_0 l0_1).bind fun t764 => (if t764 = true then ((spec_l02Diameter.f k a0_0 l0_1).bind fun bt765 => (some (bt765.1, bt765.2, 0))) else (some (0, 0, 5)))) else (some (0, 0, 1))) = some (r1, r2, r3) := H
  have A2 := Fa.mk A20
  clear A20
  by_cases c3 : t763 = true
  · subst c3
    have H1 : ((spec_l02Connected.f k a0_0 l0_1).bind fun t764 => (if t764 = true then ((spec_l02Diameter.f k a0_0 l0_1).bind fun bt765 => (some (bt765.1, bt765.2, 0))) else (some (0, 0, 5)))) = some (r1, r2, r3) := by rw [if_pos rfl] at H; exact H
    clear H
    have H := H1
    clear H1
    replace H := Option.bind_eq_some_iff.mp H
    obtain ⟨t764, A40, H⟩ := H
    replace H : (if t764 = true then ((spec_l02Diameter.f k a0_0 l0_1).bind fun bt765 => (some (bt765.1, bt765.2, 0))) else (some (0, 0, 5))) = some (r1, r2, r3) := H
    have A4 := Fa.mk A40
    clear A40
    by_cases c5 : t764 = true
    · subst c5
      have H1 : ((spec_l02Diameter.f k a0_0 l0_1).bind fun bt765 => (some (bt765.1, bt765.2, 0))) = some (r1, r2, r3) := by rw [if_pos rfl] at H; exact H
      clear H
      have H := H1
      clear H1
      replace H := Option.bind_eq_some_iff.mp H
      obtain ⟨⟨t765, t766⟩, A60, H⟩ := H
      dsimp only at H
      have A6 := Fa.mk A60
      clear A60
      simp only [Option.some.injEq, Prod.mk.injEq] at H
      obtain ⟨rfl, rfl, rfl⟩ := H
      go_enter Tryd.func19, Tryd.ntmps19
      go_wp2_with (first | ((with_reducible refine gd 1 rfl ?_); refine box_event ?hg (N := 1) ?hd (cs := #[.int .i64 a0_0, .slice A0_1 l0_1.length c0_1]) (t := 26) ?hr ?_; (case hd => rfl); (case hg => rfl); (case hr => first | (go_simp; done) | (go_simp; rfl)); intro gb762 hg w7 hbox hb; have BK762 := Fa.mk hbox; have GW762 := Fa.mk (bsz hg (BU HB) : w.heap.size ≤ gb762); have GE762 := GW762; replace HB := Fa.mk (below_step (BU HB) hb); clear hb hbox hg; obtain ⟨hcz8_0, hcz8_1, hfz8_0, hfz8_1⟩ := cz2 BK762.out) | ((with_reducible refine gc 48 rfl ?_); refine gL 9 Tryd.func48 #[.agg #[.int .i64 a0_0, .slice A0_1 l0_1.length c0_1]] rfl (by first | rfl | (simp only [mA, mC, mN]; rfl)) ?_; (with_reducible refine (spec_l01Is.calls k a0_0 _ _ l0_1 true _ (Kd.C_below HR0_1.out (BU HB)) HC0_1.out A2.out).mono ?_); rintro e w9 ⟨rfl, hb⟩; refine ⟨_, rfl, ?_⟩; replace BK762 := Fa.mk (blk_below (bU BK762) hb); replace HB := Fa.mk (below_step (BU HB) hb); obtain ⟨hcz10_0, hcz10_1, hfz10_0, hfz10_1⟩ := cz2 BK762.out) | ((with_reducible refine gc 49 rfl ?_); refine gL 13 Tryd.func49 #[.agg #[.int .i64 a0_0, .slice A0_1 l0_1.length c0_1]] rfl (by first | rfl | (simp only [mA, mC, mN]; rfl)) ?_; (with_reducible refine (spec_l02Connected.calls k a0_0 _ _ l0_1 true _ (Kd.C_below HR0_1.out (BU HB)) HC0_1.out A4.out).mono ?_); rintro e w11 ⟨rfl, hb⟩; refine ⟨_, rfl, ?_⟩; replace BK762 := Fa.mk (blk_below (bU BK762) hb); replace HB := Fa.mk (below_step (BU HB) hb); obtain ⟨hcz12_0, hcz12_1, hfz12_0, hfz12_1⟩ := cz2 BK762.out) | ((with_reducible refine gc 50 rfl ?_); refine gL 17 Tryd.func50 #[.agg #[.int .i64 a0_0, .slice A0_1 l0_1.length c0_1]] rfl (by first | rfl | (simp only [mA, mC, mN]; rfl)) ?_; (with_reducible refine (spec_l02Diameter.calls k a0_0 _ _ l0_1 t765 t766 _ (Kd.C_below HR0_1.out (BU HB)) HC0_1.out A6.out).mono ?_); rintro e w13 ⟨rfl, hb⟩; refine ⟨_, rfl, ?_⟩; replace BK762 := Fa.mk (blk_below (bU BK762) hb); replace HB := Fa.mk (below_step (BU HB) hb)))
      go_ret3
      exact ⟨rfl, BU HB⟩
    · replace c5 := Bool.eq_false_iff.mpr c5
      subst c5
      have H1 : (some (0, 0, 5)) = some (r1, r2, r3) := by rw [if_neg (show ¬ (false = true) by decide)] at H; exact H
      clear H
      have H := H1
      clear H1
      simp only [Option.some.injEq, Prod.mk.injEq] at H
      obtain ⟨rfl, rfl, rfl⟩ := H
      go_enter Tryd.func19, Tryd.ntmps19
      go_wp2_with (first | ((with_reducible refine gd 1 rfl ?_); refine box_event ?hg (N := 1) ?hd (cs := #[.int .i64 a0_0, .slice A0_1 l0_1.length c0_1]) (t := 26) ?hr ?_; (case hd => rfl); (case hg => rfl); (case hr => first | (go_simp; done) | (go_simp; rfl)); intro gb762 hg w14 hbox hb; have BK762 := Fa.mk hbox; have GW762 := Fa.mk (bsz hg (BU HB) : w.heap.size ≤ gb762); have GE762 := GW762; replace HB := Fa.mk (below_step (BU HB) hb); clear hb hbox hg; obtain ⟨hcz15_0, hcz15_1, hfz15_0, hfz15_1⟩ := cz2 BK762.out) | ((with_reducible refine gc 48 rfl ?_); refine gL 9 Tryd.func48 #[.agg #[.int .i64 a0_0, .slice A0_1 l0_1.length c0_1]] rfl (by first | rfl | (simp only [mA, mC, mN]; rfl)) ?_; (with_reducible refine (spec_l01Is.calls k a0_0 _ _ l0_1 true _ (Kd.C_below HR0_1.out (BU HB)) HC0_1.out A2.out).mono ?_); rintro e w16 ⟨rfl, hb⟩; refine ⟨_, rfl, ?_⟩; replace BK762 := Fa.mk (blk_below (bU BK762) hb); replace HB := Fa.mk (below_step (BU HB) hb); obtain ⟨hcz17_0, hcz17_1, hfz17_0, hfz17_1⟩ := cz2 BK762.out) | ((with_reducible refine gc 49 rfl ?_); refine gL 13 Tryd.func49 #[.agg #[.int .i64 a0_0, .slice A0_1 l0_1.length c0_1]] rfl (by first | rfl | (simp only [mA, mC, mN]; rfl)) ?_; (with_reducible refine (spec_l02Connected.calls k a0_0 _ _ l0_1 false _ (Kd.C_below HR0_1.out (BU HB)) HC0_1.out A4.out).mono ?_); rintro e w18 ⟨rfl, hb⟩; refine ⟨_, rfl, ?_⟩; replace BK762 := Fa.mk (blk_below (bU BK762) hb); replace HB := Fa.mk (below_step (BU HB) hb)))
      go_ret3
      exact ⟨rfl, BU HB⟩
  · replace c3 := Bool.eq_false_iff.mpr c3
    subst c3
    have H1 : (some (0, 0, 1)) = some (r1, r2, r3) := by rw [if_neg (show ¬ (false = true) by decide)] at H; exact H
    clear H
    have H := H1
    clear H1
    simp only [Option.some.injEq, Prod.mk.injEq] at H
    obtain ⟨rfl, rfl, rfl⟩ := H
    go_enter Tryd.func19, Tryd.ntmps19
    go_wp2_with (first | ((with_reducible refine gd 1 rfl ?_); refine box_event ?hg (N := 1) ?hd (cs := #[.int .i64 a0_0, .slice A0_1 l0_1.length c0_1]) (t := 26) ?hr ?_; (case hd => rfl); (case hg => rfl); (case hr => first | (go_simp; done) | (go_simp; rfl)); intro gb762 hg w19 hbox hb; have BK762 := Fa.mk hbox; have GW762 := Fa.mk (bsz hg (BU HB) : w.heap.size ≤ gb762); have GE762 := GW762; replace HB := Fa.mk (below_step (BU HB) hb); clear hb hbox hg; obtain ⟨hcz20_0, hcz20_1, hfz20_0, hfz20_1⟩ := cz2 BK762.out) | ((with_reducible refine gc 48 rfl ?_); refine gL 9 Tryd.func48 #[.agg #[.int .i64 a0_0, .slice A0_1 l0_1.length c0_1]] rfl (by first | rfl | (simp only [mA, mC, mN]; rfl)) ?_; (with_reducible refine (spec_l01Is.calls k a0_0 _ _ l0_1 false _ (Kd.C_below HR0_1.out (BU HB)) HC0_1.out A2.out).mono ?_); rintro e w21 ⟨rfl, hb⟩; refine ⟨_, rfl, ?_⟩; replace BK762 := Fa.mk (blk_below (bU BK762) hb); replace HB := Fa.mk (below_step (BU HB) hb)))
    go_ret3
    exact ⟨rfl, BU HB⟩

/-! ### impl_ReachesOf: function 20 -/
def impl_ReachesOf.f (k : Nat) (a0_0 : Int) (l0_1 : List Int) : Option (List Int × Int) := (impl_IsGraph.f k a0_0 l0_1).bind fun t768 => (if t768 = true then ((impl_Graph_reaches.f k a0_0 l0_1).bind fun t769 => (some (t769, 0))) else (some (([] : List Int), 1)))
set_option maxHeartbeats 8000000 in
set_option maxRecDepth 100000 in
theorem impl_ReachesOf.calls (k : Nat) (a0_0 : Int) (A0_1 : Option Addr) (c0_1 : Nat) (l0_1 : List Int) (r1 : List Int) (r2 : Int) (w : World) (hr0_1 : Kd.C (Kd.int .i64) w A0_1 l0_1.length l0_1) (hc0_1 : l0_1.length ≤ c0_1) (ht : Tab w) (h : impl_ReachesOf.f k a0_0 l0_1 = some (r1, r2)) :
    Calls Tryd.prog 20 #[.agg #[.int .i64 a0_0, .slice A0_1 l0_1.length c0_1]] w fun e w' => ∃ v0_ : Value, e = .returned (.tuple #[v0_, .int .i64 r2]) ∧ Kd.R (Kd.int .i64) 2 w' w.heap.size (fun _ => True) v0_ r1 ∧ Below w.heap.size w w' := by
  have hu26 := Tryd.underlying26
  have HR0_1 := Fa.mk hr0_1
  have HC0_1 := Fa.mk hc0_1
  clear hr0_1 hc0_1
  have HB := Fa.mk (Below.refl w.heap.size w)
  have HT := Fa.mk ht
  clear ht
  unfold impl_ReachesOf.f at h; have H := h
  clear h
  replace H := Option.bind_eq_some_iff.mp H
  obtain ⟨t768, A20, H⟩ := H
  replace H : (if t768 = true then ((impl_Graph_reaches.f k a0_0 l0_1).bind fun t769 => (some (t769, 0))) else (some (([] : List Int), 1))) = some (r1, r2) := H
  have A2 := Fa.mk A20
  clear A20
  by_cases c3 : t768 = true
  · subst c3
    have H1 : ((impl_Graph_reaches.f k a0_0 l0_1).bind fun t769 => (some (t769, 0))) = some (r1, r2) := by rw [if_pos rfl] at H; exact H
    clear H
    have H := H1
    clear H1
    replace H := Option.bind_eq_some_iff.mp H
    obtain ⟨t769, A40, H⟩ := H
    replace H : (some (t769, 0)) = some (r1, r2) := H
    have A4 := Fa.mk A40
    clear A40
    simp only [Option.some.injEq, Prod.mk.injEq] at H
    obtain ⟨rfl, rfl⟩ := H
    go_enter Tryd.func20, Tryd.ntmps20
    go_wp2_with (first | ((with_reducible refine gd 1 rfl ?_); refine box_event ?hg (N := 1) ?hd (cs := #[.int .i64 a0_0, .slice A0_1 l0_1.length c0_1]) (t := 26) ?hr ?_; (case hd => rfl); (case hg => rfl); (case hr => first | (go_simp; done) | (go_simp; rfl)); intro gb767 hg w5 hbox hb; have BK767 := Fa.mk hbox; have GW767 := Fa.mk (bsz hg (BU HB) : w.heap.size ≤ gb767); have GE767 := GW767; replace HB := Fa.mk (below_step (BU HB) hb); clear hb hbox hg; obtain ⟨hcz6_0, hcz6_1, hfz6_0, hfz6_1⟩ := cz2 BK767.out) | ((with_reducible refine gc 51 rfl ?_); refine gL 5 Tryd.func51 #[.agg #[.int .i64 a0_0, .slice A0_1 l0_1.length c0_1]] rfl (by first | rfl | (simp only [mA, mC, mN]; rfl)) ?_; (with_reducible refine (impl_IsGraph.calls k a0_0 _ _ l0_1 true _ (Kd.C_below HR0_1.out (BU HB)) HC0_1.out A2.out).mono ?_); rintro e w7 ⟨rfl, hb⟩; refine ⟨_, rfl, ?_⟩; replace BK767 := Fa.mk (blk_below (bU BK767) hb); replace HB := Fa.mk (below_step (BU HB) hb); obtain ⟨hcz8_0, hcz8_1, hfz8_0, hfz8_1⟩ := cz2 BK767.out) | ((with_reducible refine gc 46 rfl ?_); refine gL 8 Tryd.func46 #[.agg #[.int .i64 a0_0, .slice A0_1 l0_1.length c0_1]] rfl (by first | rfl | (simp only [mA, mC, mN]; rfl)) ?_; (with_reducible refine (impl_Graph_reaches.calls k a0_0 _ _ l0_1 t769 _ (Kd.C_below HR0_1.out (BU HB)) HC0_1.out (Tab.below HT.out (BU HB)) A4.out).mono ?_); rintro e w9 ⟨v770, rfl, ho0, hb⟩; refine ⟨_, rfl, ?_⟩; have HO771 := Fa.mk (Kd.R_lower ho0 (below_size (BU HB))); replace BK767 := Fa.mk (blk_below (bU BK767) hb); replace HB := Fa.mk (below_step (BU HB) hb)))
    go_ret2
    exact ⟨_, rfl, HO771.out, BU HB⟩
  · replace c3 := Bool.eq_false_iff.mpr c3
    subst c3
    have H1 : (some (([] : List Int), 1)) = some (r1, r2) := by rw [if_neg (show ¬ (false = true) by decide)] at H; exact H
    clear H
    have H := H1
    clear H1
    simp only [Option.some.injEq, Prod.mk.injEq] at H
    obtain ⟨rfl, rfl⟩ := H
    go_enter Tryd.func20, Tryd.ntmps20
    go_wp2_with (first | ((with_reducible refine gd 1 rfl ?_); refine box_event ?hg (N := 1) ?hd (cs := #[.int .i64 a0_0, .slice A0_1 l0_1.length c0_1]) (t := 26) ?hr ?_; (case hd => rfl); (case hg => rfl); (case hr => first | (go_simp; done) | (go_simp; rfl)); intro gb767 hg w10 hbox hb; have BK767 := Fa.mk hbox; have GW767 := Fa.mk (bsz hg (BU HB) : w.heap.size ≤ gb767); have GE767 := GW767; replace HB := Fa.mk (below_step (BU HB) hb); clear hb hbox hg; obtain ⟨hcz11_0, hcz11_1, hfz11_0, hfz11_1⟩ := cz2 BK767.out) | ((with_reducible refine gc 51 rfl ?_); refine gL 5 Tryd.func51 #[.agg #[.int .i64 a0_0, .slice A0_1 l0_1.length c0_1]] rfl (by first | rfl | (simp only [mA, mC, mN]; rfl)) ?_; (with_reducible refine (impl_IsGraph.calls k a0_0 _ _ l0_1 false _ (Kd.C_below HR0_1.out (BU HB)) HC0_1.out A2.out).mono ?_); rintro e w12 ⟨rfl, hb⟩; refine ⟨_, rfl, ?_⟩; replace BK767 := Fa.mk (blk_below (bU BK767) hb); replace HB := Fa.mk (below_step (BU HB) hb)))
    go_ret2
    exact ⟨_, rfl, by first | exact Kd.R_nil _ _ _ _ _ | exact Kd.N_nil _ _ _ _ _ | exact Kd.V_nil _ _ _ _ _ | exact Kd.Q_nil _ _ _ _ _ | exact Kd.S_nil _ _ _ _ _, BU HB⟩

/-! ### spec_ReachesOf: function 21 -/
def spec_ReachesOf.f (k : Nat) (a0_0 : Int) (l0_1 : List Int) : Option (List Int × Int) := (spec_l01Is.f k a0_0 l0_1).bind fun t773 => (if t773 = true then ((spec_l02Reaches.f k a0_0 l0_1).bind fun t774 => (some (t774, 0))) else (some (([] : List Int), 1)))
set_option maxHeartbeats 8000000 in
set_option maxRecDepth 100000 in
theorem spec_ReachesOf.calls (k : Nat) (a0_0 : Int) (A0_1 : Option Addr) (c0_1 : Nat) (l0_1 : List Int) (r1 : List Int) (r2 : Int) (w : World) (hr0_1 : Kd.C (Kd.int .i64) w A0_1 l0_1.length l0_1) (hc0_1 : l0_1.length ≤ c0_1) (h : spec_ReachesOf.f k a0_0 l0_1 = some (r1, r2)) :
    Calls Tryd.prog 21 #[.agg #[.int .i64 a0_0, .slice A0_1 l0_1.length c0_1]] w fun e w' => ∃ v0_ : Value, e = .returned (.tuple #[v0_, .int .i64 r2]) ∧ Kd.R (Kd.int .i64) 2 w' w.heap.size (fun _ => True) v0_ r1 ∧ Below w.heap.size w w' := by
  have hu26 := Tryd.underlying26
  have HR0_1 := Fa.mk hr0_1
  have HC0_1 := Fa.mk hc0_1
  clear hr0_1 hc0_1
  have HB := Fa.mk (Below.refl w.heap.size w)
  unfold spec_ReachesOf.f at h; have H := h
  clear h
  replace H := Option.bind_eq_some_iff.mp H
  obtain ⟨t773, A20, H⟩ := H
  replace H : (if t773 = true then ((spec_l02Reaches.f k a0_0 l0_1).bind fun t774 => (some (t774, 0))) else (some (([] : List Int), 1))) = some (r1, r2) := H
  have A2 := Fa.mk A20
  clear A20
  by_cases c3 : t773 = true
  · subst c3
    have H1 : ((spec_l02Reaches.f k a0_0 l0_1).bind fun t774 => (some (t774, 0))) = some (r1, r2) := by rw [if_pos rfl] at H; exact H
    clear H
    have H := H1
    clear H1
    replace H := Option.bind_eq_some_iff.mp H
    obtain ⟨t774, A40, H⟩ := H
    replace H : (some (t774, 0)) = some (r1, r2) := H
    have A4 := Fa.mk A40
    clear A40
    simp only [Option.some.injEq, Prod.mk.injEq] at H
    obtain ⟨rfl, rfl⟩ := H
    go_enter Tryd.func21, Tryd.ntmps21
    go_wp2_with (first | ((with_reducible refine gd 1 rfl ?_); refine box_event ?hg (N := 1) ?hd (cs := #[.int .i64 a0_0, .slice A0_1 l0_1.length c0_1]) (t := 26) ?hr ?_; (case hd => rfl); (case hg => rfl); (case hr => first | (go_simp; done) | (go_simp; rfl)); intro gb772 hg w5 hbox hb; have BK772 := Fa.mk hbox; have GW772 := Fa.mk (bsz hg (BU HB) : w.heap.size ≤ gb772); have GE772 := GW772; replace HB := Fa.mk (below_step (BU HB) hb); clear hb hbox hg; obtain ⟨hcz6_0, hcz6_1, hfz6_0, hfz6_1⟩ := cz2 BK772.out) | ((with_reducible refine gc 48 rfl ?_); refine gL 5 Tryd.func48 #[.agg #[.int .i64 a0_0, .slice A0_1 l0_1.length c0_1]] rfl (by first | rfl | (simp only [mA, mC, mN]; rfl)) ?_; (with_reducible refine (spec_l01Is.calls k a0_0 _ _ l0_1 true _ (Kd.C_below HR0_1.out (BU HB)) HC0_1.out A2.out).mono ?_); rintro e w7 ⟨rfl, hb⟩; refine ⟨_, rfl, ?_⟩; replace BK772 := Fa.mk (blk_below (bU BK772) hb); replace HB := Fa.mk (below_step (BU HB) hb); obtain ⟨hcz8_0, hcz8_1, hfz8_0, hfz8_1⟩ := cz2 BK772.out) | ((with_reducible refine gc 52 rfl ?_); refine gL 8 Tryd.func52 #[.agg #[.int .i64 a0_0, .slice A0_1 l0_1.length c0_1]] rfl (by first | rfl | (simp only [mA, mC, mN]; rfl)) ?_; (with_reducible refine (spec_l02Reaches.calls k a0_0 _ _ l0_1 t774 _ (Kd.C_below HR0_1.out (BU HB)) HC0_1.out A4.out).mono ?_); rintro e w9 ⟨v775, rfl, ho0, hb⟩; refine ⟨_, rfl, ?_⟩; have HO776 := Fa.mk (Kd.R_lower ho0 (below_size (BU HB))); replace BK772 := Fa.mk (blk_below (bU BK772) hb); replace HB := Fa.mk (below_step (BU HB) hb)))
    go_ret2
    exact ⟨_, rfl, HO776.out, BU HB⟩
  · replace c3 := Bool.eq_false_iff.mpr c3
    subst c3
    have H1 : (some (([] : List Int), 1)) = some (r1, r2) := by rw [if_neg (show ¬ (false = true) by decide)] at H; exact H
    clear H
    have H := H1
    clear H1
    simp only [Option.some.injEq, Prod.mk.injEq] at H
    obtain ⟨rfl, rfl⟩ := H
    go_enter Tryd.func21, Tryd.ntmps21
    go_wp2_with (first | ((with_reducible refine gd 1 rfl ?_); refine box_event ?hg (N := 1) ?hd (cs := #[.int .i64 a0_0, .slice A0_1 l0_1.length c0_1]) (t := 26) ?hr ?_; (case hd => rfl); (case hg => rfl); (case hr => first | (go_simp; done) | (go_simp; rfl)); intro gb772 hg w10 hbox hb; have BK772 := Fa.mk hbox; have GW772 := Fa.mk (bsz hg (BU HB) : w.heap.size ≤ gb772); have GE772 := GW772; replace HB := Fa.mk (below_step (BU HB) hb); clear hb hbox hg; obtain ⟨hcz11_0, hcz11_1, hfz11_0, hfz11_1⟩ := cz2 BK772.out) | ((with_reducible refine gc 48 rfl ?_); refine gL 5 Tryd.func48 #[.agg #[.int .i64 a0_0, .slice A0_1 l0_1.length c0_1]] rfl (by first | rfl | (simp only [mA, mC, mN]; rfl)) ?_; (with_reducible refine (spec_l01Is.calls k a0_0 _ _ l0_1 false _ (Kd.C_below HR0_1.out (BU HB)) HC0_1.out A2.out).mono ?_); rintro e w12 ⟨rfl, hb⟩; refine ⟨_, rfl, ?_⟩; replace BK772 := Fa.mk (blk_below (bU BK772) hb); replace HB := Fa.mk (below_step (BU HB) hb)))
    go_ret2
    exact ⟨_, rfl, by first | exact Kd.R_nil _ _ _ _ _ | exact Kd.N_nil _ _ _ _ _ | exact Kd.V_nil _ _ _ _ _ | exact Kd.Q_nil _ _ _ _ _ | exact Kd.S_nil _ _ _ _ _, BU HB⟩

/-! ### laws_hasInt: function 22 -/
def laws_hasInt.l0 : Nat → List Int → Int → Int → Option (Bool)
  | 0, _, _, _ => none
  | k + 1, x0, x1, x5 => if x5 < (x0.length : Int) then (if 0 ≤ x5 then (if (rd x0 x5) = x1 then (some true) else (laws_hasInt.l0 k x0 x1 (wrap64 (x5 + 1)))) else (none)) else (some false)
def laws_hasInt.f (k : Nat) (l0 : List Int) (a1 : Int) : Option (Bool) := laws_hasInt.l0 k l0 a1 0
set_option maxHeartbeats 8000000 in
set_option maxRecDepth 100000 in
theorem laws_hasInt.calls (k : Nat) (A0 : Option Addr) (c0 : Nat) (l0 : List Int) (a1 : Int) (r : Bool) (w : World) (hr0 : Kd.C (Kd.int .i64) w A0 l0.length l0) (hc0 : l0.length ≤ c0) (h : laws_hasInt.f k l0 a1 = some r) :
    Calls Tryd.prog 22 #[.slice A0 l0.length c0, .int .i64 a1] w fun e w' => e = .returned (.bool r) ∧ Drawn0 w w' := by
  have HR0 := Fa.mk hr0
  have HC0 := Fa.mk hc0
  clear hr0 hc0
  have H : (laws_hasInt.l0 k l0 a1 0) = some r := h
  clear h
  have H' := Fa.mk H
  clear H
  go_enter Tryd.func22, Tryd.ntmps22
  go_wp2
  go_loopg [5] k (fun kq v5 w' => ∃ (x5_1 : Int), v5 = .int .i64 x5_1 ∧ Fa (laws_hasInt.l0 kq l0 a1 x5_1 = some r) ∧ Fa (kq ≤ k) ∧ Drawn0 w w')
  case atStart => exact ⟨(0), rfl, H', ⟨Nat.le_refl _⟩, by repeat (first | exact Drawn0.refl _ | apply Drawn0.step)⟩
  case round =>
    clear H'
    obtain ⟨x5_1, rfl, HA, HK1, ⟨m1, rfl⟩⟩ := hrel
    cases gk with
    | zero => exact absurd HA.out (by simp [laws_hasInt.l0])
    | succ k1 =>
      have H := HA.out
      clear HA
      simp only [laws_hasInt.l0] at H
      by_cases c3 : x5_1 < (l0.length : Int)
      · rw [if_pos c3] at H
        have c3b0 := decide_eq_true c3
        clear c3
        by_cases c4 : 0 ≤ x5_1
        · rw [if_pos c4] at H
          have c4b0 := decide_eq_true c4
          clear c4
          by_cases c5 : (rd l0 x5_1) = a1
          · rw [if_pos c5] at H
            have c5b0 := beq_iff_eq.mpr c5
            have c5b1 := bne_eq_false_iff_eq.mpr c5
            clear c5
            obtain rfl := Option.some.inj H
            have p777 : 0 ≤ (x5_1 : Int) := of_decide_eq_true (by assumption)
            have q777 : x5_1 < (l0.length : Int) := of_decide_eq_true (by assumption)
            obtain ⟨ad777, e777, hx777_0⟩ := Kd.at_int HR0.out x5_1 p777 q777
            cases e777
            replace p777 := eq_true p777
            replace q777 := eq_true q777
            go_wp2
            go_ret
            exact ⟨rfl, by repeat (first | exact Drawn0.refl _ | apply Drawn0.step)⟩
          · rw [if_neg c5] at H
            have c5b0 := beq_eq_false_iff_ne.mpr c5
            have c5b1 := bne_iff_ne.mpr c5
            have H' := Fa.mk H
            clear H
            have p777 : 0 ≤ (x5_1 : Int) := of_decide_eq_true (by assumption)
            have q777 : x5_1 < (l0.length : Int) := of_decide_eq_true (by assumption)
            obtain ⟨ad777, e777, hx777_0⟩ := Kd.at_int HR0.out x5_1 p777 q777
            cases e777
            replace p777 := eq_true p777
            replace q777 := eq_true q777
            go_wp2
            go_roundg k1
            case measure => have := HK1.out; omega
            case rel => exact ⟨(wrap64 (x5_1 + 1)), rfl, H', ⟨by have := HK1.out; omega⟩, by repeat (first | exact Drawn0.refl _ | apply Drawn0.step)⟩
        · rw [if_neg c4] at H
          exact absurd H (by simp)
      · rw [if_neg c3] at H
        have c3b0 := decide_eq_false c3
        clear c3
        obtain rfl := Option.some.inj H
        go_wp2
        go_ret
        exact ⟨rfl, by repeat (first | exact Drawn0.refl _ | apply Drawn0.step)⟩

/-! ### laws_sum: function 23 -/
def laws_sum.l0 : Nat → List Int → Int → Int → Option (Int)
  | 0, _, _, _ => none
  | k + 1, x0, x3, x4 => if x4 < (x0.length : Int) then (if 0 ≤ x4 then (laws_sum.l0 k x0 (wrap64 (x3 + (rd x0 x4))) (wrap64 (x4 + 1))) else (none)) else (some x3)
def laws_sum.f (k : Nat) (l0 : List Int) : Option (Int) := laws_sum.l0 k l0 0 0
set_option maxHeartbeats 8000000 in
set_option maxRecDepth 100000 in
theorem laws_sum.calls (k : Nat) (A0 : Option Addr) (c0 : Nat) (l0 : List Int) (r : Int) (w : World) (hr0 : Kd.C (Kd.int .i64) w A0 l0.length l0) (hc0 : l0.length ≤ c0) (h : laws_sum.f k l0 = some r) :
    Calls Tryd.prog 23 #[.slice A0 l0.length c0] w fun e w' => e = .returned (.int .i64 r) ∧ Drawn0 w w' := by
  have HR0 := Fa.mk hr0
  have HC0 := Fa.mk hc0
  clear hr0 hc0
  have H : (laws_sum.l0 k l0 0 0) = some r := h
  clear h
  have H' := Fa.mk H
  clear H
  go_enter Tryd.func23, Tryd.ntmps23
  go_wp2
  go_loopg [3, 4] k (fun kq v3 v4 w' => ∃ (x3_1 : Int) (x4_1 : Int), v3 = .int .i64 x3_1 ∧ v4 = .int .i64 x4_1 ∧ Fa (laws_sum.l0 kq l0 x3_1 x4_1 = some r) ∧ Fa (kq ≤ k) ∧ Drawn0 w w')
  case atStart => exact ⟨(0), (0), rfl, rfl, H', ⟨Nat.le_refl _⟩, by repeat (first | exact Drawn0.refl _ | apply Drawn0.step)⟩
  case round =>
    clear H'
    obtain ⟨x3_1, x4_1, rfl, rfl, HA, HK1, ⟨m1, rfl⟩⟩ := hrel
    cases gk with
    | zero => exact absurd HA.out (by simp [laws_sum.l0])
    | succ k1 =>
      have H := HA.out
      clear HA
      simp only [laws_sum.l0] at H
      by_cases c2 : x4_1 < (l0.length : Int)
      · rw [if_pos c2] at H
        have c2b0 := decide_eq_true c2
        clear c2
        by_cases c3 : 0 ≤ x4_1
        · rw [if_pos c3] at H
          have c3b0 := decide_eq_true c3
          clear c3
          have H' := Fa.mk H
          clear H
          have p778 : 0 ≤ (x4_1 : Int) := of_decide_eq_true (by assumption)
          have q778 : x4_1 < (l0.length : Int) := of_decide_eq_true (by assumption)
          obtain ⟨ad778, e778, hx778_0⟩ := Kd.at_int HR0.out x4_1 p778 q778
          cases e778
          replace p778 := eq_true p778
          replace q778 := eq_true q778
          go_wp2
          go_roundg k1
          case measure => have := HK1.out; omega
          case rel => exact ⟨(wrap64 (x3_1 + (rd l0 x4_1))), (wrap64 (x4_1 + 1)), rfl, rfl, H', ⟨by have := HK1.out; omega⟩, by repeat (first | exact Drawn0.refl _ | apply Drawn0.step)⟩
        · rw [if_neg c3] at H
          exact absurd H (by simp)
      · rw [if_neg c2] at H
        have c2b0 := decide_eq_false c2
        clear c2
        obtain rfl := Option.some.inj H
        go_wp2
        go_ret
        exact ⟨rfl, by repeat (first | exact Drawn0.refl _ | apply Drawn0.step)⟩

end Go.Proofs.YtockngphfpedkaaDoor.XFnDistances
