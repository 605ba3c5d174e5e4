-- Written by this project's own program (mprint.py) by means of the kit's printer: with contracts of its own for the functions that the printer leaves out.
import Derived.Test.YtockngphfpedkaaDoorXFnDistancesx0
import Derived.Test.YtockngphfpedkaaDoorXFnDistancesx12
import Derived.Test.YtockngphfpedkaaDoorXFnDistancesx13
namespace Go.Proofs.YtockngphfpedkaaDoor.XFnDistances
open Go.RowKit Go.Proofs.YtockngphfpedkaaDoorW.PrintWords Go.Proofs.YtockngphfpedkaaDoorW.PrintLast Go.Proofs.YtockngphfpedkaaDoorW.PrintMore
attribute [local go_sem] max2_int min2_int max_two min_two max_three min_three max_four min_four   -- for this text's walks alone
set_option linter.unusedVariables false
set_option linter.unusedSimpArgs false

/-! ### spec_l02Code: function 38 -/
def spec_l02Code.l0 : Nat → List Int → Int → Int → List Int → Option (Int)
  | 0, _, _, _, _ => none
  | k + 1, x1, x5, x544000, x544001 => if x5 < (x1.length : Int) then (if 0 ≤ x5 then ((spec_l01In.f (rd x1 x5) 0 (wrap64 (x544000 - 1))).bind fun t546 => (if t546 = true then (spec_l02Code.l0 k x1 (wrap64 (x5 + 1)) x544000 x544001) else (some 2))) else (none)) else (some 0)
def spec_l02Code.f (k : Nat) (a0_0 : Int) (l0_1 : List Int) (l1 : List Int) : Option (Int) := (spec_l01Is.f k a0_0 l0_1).bind fun t544 => (if t544 = true then (spec_l02Code.l0 k l1 0 a0_0 l0_1) else (some 1))
set_option maxHeartbeats 8000000 in
set_option maxRecDepth 100000 in
theorem spec_l02Code.calls (k : Nat) (a0_0 : Int) (A0_1 : Option Addr) (c0_1 : Nat) (l0_1 : List Int) (A1 : Option Addr) (c1 : Nat) (l1 : List Int) (r : Int) (w : World) (hr0_1 : Kd.C (Kd.int .i64) w A0_1 l0_1.length l0_1) (hc0_1 : l0_1.length ≤ c0_1) (hr1 : Kd.C (Kd.int .i64) w A1 l1.length l1) (hc1 : l1.length ≤ c1) (h : spec_l02Code.f k a0_0 l0_1 l1 = some r) :
    Calls Tryd.prog 38 #[.agg #[.int .i64 a0_0, .slice A0_1 l0_1.length c0_1], .slice A1 l1.length c1] w fun e w' => e = .returned (.int .i64 r) ∧ Below w.heap.size w w' := by
  have hu26 := Tryd.underlying26
  have HR0_1 := Fa.mk hr0_1
  have HC0_1 := Fa.mk hc0_1
  clear hr0_1 hc0_1
  have HR1 := Fa.mk hr1
  have HC1 := Fa.mk hc1
  clear hr1 hc1
  have HB := Fa.mk (Below.refl w.heap.size w)
  unfold spec_l02Code.f at h; have H := h
  clear h
  replace H := Option.bind_eq_some_iff.mp H
  obtain ⟨t544, A30, H⟩ := H
  replace H : (if t544 = true then (spec_l02Code.l0 k l1 0 a0_0 l0_1) else (some 1)) = some r := H
  have A3 := Fa.mk A30
  clear A30
  by_cases c4 : t544 = true
  · subst c4
    have H1 : (spec_l02Code.l0 k l1 0 a0_0 l0_1) = some r := by rw [if_pos rfl] at H; exact H
    clear H
    have H := H1
    clear H1
    have H' := Fa.mk H
    clear H
    go_enter Tryd.func38, Tryd.ntmps38
    go_wp2_with (first | ((with_reducible refine gd 2 rfl ?_); refine box_event ?hg (N := 2) ?hd (cs := #[.int .i64 a0_0, .slice A0_1 l0_1.length c0_1]) (t := 26) ?hr ?_; (case hd => rfl); (case hg => rfl); (case hr => first | (go_simp; done) | (go_simp; rfl)); intro gb543 hg w5 hbox hb; have BK543 := Fa.mk hbox; have GW543 := Fa.mk (bsz hg (BU HB) : w.heap.size ≤ gb543); have GE543 := GW543; replace HB := Fa.mk (below_step (BU HB) hb); clear hb hbox hg; obtain ⟨hcz6_0, hcz6_1, hfz6_0, hfz6_1⟩ := cz2 BK543.out) | (go_at_call 48; (with_reducible refine (spec_l01Is.calls k a0_0 _ _ l0_1 true _ (Kd.C_below HR0_1.out (BU HB)) HC0_1.out A3.out).mono ?_); rintro e w7 ⟨rfl, hb⟩; replace BK543 := Fa.mk (blk_below (bU BK543) hb); replace HB := Fa.mk (below_step (BU HB) hb)))
    repeat (go_quiet (first | ((with_reducible refine gd 2 rfl ?_); refine box_event ?hg (N := 2) ?hd (cs := #[.int .i64 a0_0, .slice A0_1 l0_1.length c0_1]) (t := 26) ?hr ?_; (case hd => rfl); (case hg => rfl); (case hr => first | (go_simp; done) | (go_simp; rfl)); intro gb543 hg w5 hbox hb; have BK543 := Fa.mk hbox; have GW543 := Fa.mk (bsz hg (BU HB) : w.heap.size ≤ gb543); have GE543 := GW543; replace HB := Fa.mk (below_step (BU HB) hb); clear hb hbox hg; obtain ⟨hcz6_0, hcz6_1, hfz6_0, hfz6_1⟩ := cz2 BK543.out) | (go_at_call 48; (with_reducible refine (spec_l01Is.calls k a0_0 _ _ l0_1 true _ (Kd.C_below HR0_1.out (BU HB)) HC0_1.out A3.out).mono ?_); rintro e w7 ⟨rfl, hb⟩; replace BK543 := Fa.mk (blk_below (bU BK543) hb); replace HB := Fa.mk (below_step (BU HB) hb))); try go_wp2_with (first | ((with_reducible refine gd 2 rfl ?_); refine box_event ?hg (N := 2) ?hd (cs := #[.int .i64 a0_0, .slice A0_1 l0_1.length c0_1]) (t := 26) ?hr ?_; (case hd => rfl); (case hg => rfl); (case hr => first | (go_simp; done) | (go_simp; rfl)); intro gb543 hg w5 hbox hb; have BK543 := Fa.mk hbox; have GW543 := Fa.mk (bsz hg (BU HB) : w.heap.size ≤ gb543); have GE543 := GW543; replace HB := Fa.mk (below_step (BU HB) hb); clear hb hbox hg; obtain ⟨hcz6_0, hcz6_1, hfz6_0, hfz6_1⟩ := cz2 BK543.out) | (go_at_call 48; (with_reducible refine (spec_l01Is.calls k a0_0 _ _ l0_1 true _ (Kd.C_below HR0_1.out (BU HB)) HC0_1.out A3.out).mono ?_); rintro e w7 ⟨rfl, hb⟩; replace BK543 := Fa.mk (blk_below (bU BK543) hb); replace HB := Fa.mk (below_step (BU HB) hb))))
    go_loopg [5] k (fun kq v5 w' => ∃ (x5_1 : Int), v5 = .int .i64 x5_1 ∧ Fa (spec_l02Code.l0 kq l1 x5_1 a0_0 l0_1 = some r) ∧ Fa (kq ≤ k) ∧ Fa (w'.heap[gb543]? = some (.cells #[.int .i64 a0_0, (.slice A0_1 l0_1.length c0_1)] 26 (0, 0))) ∧ Fa (Below w.heap.size w w'))
    case atStart => exact ⟨(0), rfl, H', ⟨Nat.le_refl _⟩, ⟨bU BK543⟩, ⟨BU HB⟩⟩
    case round =>
      clear H'
      obtain ⟨x5_1, rfl, HA, HK1, BK543, HB⟩ := hrel
      cases gk with
      | zero => exact absurd HA.out (by simp [spec_l02Code.l0])
      | succ k1 =>
        have H := HA.out
        clear HA
        simp only [spec_l02Code.l0] at H
        by_cases c8 : x5_1 < (l1.length : Int)
        · rw [if_pos c8] at H
          have c8b0 := decide_eq_true c8
          clear c8
          by_cases c9 : 0 ≤ x5_1
          · rw [if_pos c9] at H
            have c9b0 := decide_eq_true c9
            clear c9
            replace H := Option.bind_eq_some_iff.mp H
            obtain ⟨t546, A100, H⟩ := H
            replace H : (if t546 = true then (spec_l02Code.l0 k1 l1 (wrap64 (x5_1 + 1)) a0_0 l0_1) else (some 2)) = some r := H
            have A10 := Fa.mk A100
            clear A100
            by_cases c11 : t546 = true
            · subst c11
              have H1 : (spec_l02Code.l0 k1 l1 (wrap64 (x5_1 + 1)) a0_0 l0_1) = some r := by rw [if_pos rfl] at H; exact H
              clear H
              have H := H1
              clear H1
              have H' := Fa.mk H
              clear H
              have p545 : 0 ≤ (x5_1 : Int) := of_decide_eq_true (by assumption)
              have q545 : x5_1 < (l1.length : Int) := of_decide_eq_true (by assumption)
              obtain ⟨ad545, e545, hx545_0⟩ := Kd.at_int HR1.out x5_1 p545 q545
              cases e545
              replace hx545_0 := (HB.out.cell (World.block_lt_of_cell? w _ hx545_0)).trans hx545_0
              replace p545 := eq_true p545
              replace q545 := eq_true q545
              obtain ⟨hcz12_0, hcz12_1, hfz12_0, hfz12_1⟩ := cz2 BK543.out
              go_wp2_with (first | (go_at_call 66; (with_reducible refine (spec_l01In.calls (rd l1 x5_1) 0 (wrap64 (a0_0 - 1)) true _ A10.out).mono ?_); rintro e w' ⟨rfl, ⟨nd, rfl⟩⟩; (try first | exact ⟨rfl, _, World.drewN_drewN _ _ _⟩ | exact ⟨rfl, _, Eq.trans (World.drewN_drewN _ _ _) (congrArg (World.drewN _) (Nat.add_assoc _ _ _))⟩)))
              repeat (go_quiet (first | (go_at_call 66; (with_reducible refine (spec_l01In.calls (rd l1 x5_1) 0 (wrap64 (a0_0 - 1)) true _ A10.out).mono ?_); rintro e w' ⟨rfl, ⟨nd, rfl⟩⟩; (try first | exact ⟨rfl, _, World.drewN_drewN _ _ _⟩ | exact ⟨rfl, _, Eq.trans (World.drewN_drewN _ _ _) (congrArg (World.drewN _) (Nat.add_assoc _ _ _))⟩))); try go_wp2_with (first | (go_at_call 66; (with_reducible refine (spec_l01In.calls (rd l1 x5_1) 0 (wrap64 (a0_0 - 1)) true _ A10.out).mono ?_); rintro e w' ⟨rfl, ⟨nd, rfl⟩⟩; (try first | exact ⟨rfl, _, World.drewN_drewN _ _ _⟩ | exact ⟨rfl, _, Eq.trans (World.drewN_drewN _ _ _) (congrArg (World.drewN _) (Nat.add_assoc _ _ _))⟩))))
              go_roundg k1
              case measure => have := HK1.out; omega
              case rel => exact ⟨(wrap64 (x5_1 + 1)), rfl, H', ⟨by have := HK1.out; omega⟩, ⟨bU BK543⟩, ⟨BU HB⟩⟩
            · replace c11 := Bool.eq_false_iff.mpr c11
              subst c11
              have H1 : (some 2) = some r := by rw [if_neg (show ¬ (false = true) by decide)] at H; exact H
              clear H
              have H := H1
              clear H1
              obtain rfl := Option.some.inj H
              have p545 : 0 ≤ (x5_1 : Int) := of_decide_eq_true (by assumption)
              have q545 : x5_1 < (l1.length : Int) := of_decide_eq_true (by assumption)
              obtain ⟨ad545, e545, hx545_0⟩ := Kd.at_int HR1.out x5_1 p545 q545
              cases e545
              replace hx545_0 := (HB.out.cell (World.block_lt_of_cell? w _ hx545_0)).trans hx545_0
              replace p545 := eq_true p545
              replace q545 := eq_true q545
              obtain ⟨hcz13_0, hcz13_1, hfz13_0, hfz13_1⟩ := cz2 BK543.out
              go_wp2_with (first | (go_at_call 66; (with_reducible refine (spec_l01In.calls (rd l1 x5_1) 0 (wrap64 (a0_0 - 1)) false _ A10.out).mono ?_); rintro e w' ⟨rfl, ⟨nd, rfl⟩⟩; (try first | exact ⟨rfl, _, World.drewN_drewN _ _ _⟩ | exact ⟨rfl, _, Eq.trans (World.drewN_drewN _ _ _) (congrArg (World.drewN _) (Nat.add_assoc _ _ _))⟩)))
              repeat (go_quiet (first | (go_at_call 66; (with_reducible refine (spec_l01In.calls (rd l1 x5_1) 0 (wrap64 (a0_0 - 1)) false _ A10.out).mono ?_); rintro e w' ⟨rfl, ⟨nd, rfl⟩⟩; (try first | exact ⟨rfl, _, World.drewN_drewN _ _ _⟩ | exact ⟨rfl, _, Eq.trans (World.drewN_drewN _ _ _) (congrArg (World.drewN _) (Nat.add_assoc _ _ _))⟩))); try go_wp2_with (first | (go_at_call 66; (with_reducible refine (spec_l01In.calls (rd l1 x5_1) 0 (wrap64 (a0_0 - 1)) false _ A10.out).mono ?_); rintro e w' ⟨rfl, ⟨nd, rfl⟩⟩; (try first | exact ⟨rfl, _, World.drewN_drewN _ _ _⟩ | exact ⟨rfl, _, Eq.trans (World.drewN_drewN _ _ _) (congrArg (World.drewN _) (Nat.add_assoc _ _ _))⟩))))
              go_ret
              exact ⟨rfl, BU HB⟩
          · rw [if_neg c9] at H
            exact absurd H (by simp)
        · rw [if_neg c8] at H
          have c8b0 := decide_eq_false c8
          clear c8
          obtain rfl := Option.some.inj H
          go_wp2
          repeat (go_quiet (fail); try go_wp2)
          go_ret
          exact ⟨rfl, BU HB⟩
  · replace c4 := Bool.eq_false_iff.mpr c4
    subst c4
    have H1 : (some 1) = some r := by rw [if_neg (show ¬ (false = true) by decide)] at H; exact H
    clear H
    have H := H1
    clear H1
    obtain rfl := Option.some.inj H
    go_enter Tryd.func38, Tryd.ntmps38
    go_wp2_with (first | ((with_reducible refine gd 2 rfl ?_); refine box_event ?hg (N := 2) ?hd (cs := #[.int .i64 a0_0, .slice A0_1 l0_1.length c0_1]) (t := 26) ?hr ?_; (case hd => rfl); (case hg => rfl); (case hr => first | (go_simp; done) | (go_simp; rfl)); intro gb543 hg w14 hbox hb; have BK543 := Fa.mk hbox; have GW543 := Fa.mk (bsz hg (BU HB) : w.heap.size ≤ gb543); have GE543 := GW543; replace HB := Fa.mk (below_step (BU HB) hb); clear hb hbox hg; obtain ⟨hcz15_0, hcz15_1, hfz15_0, hfz15_1⟩ := cz2 BK543.out) | (go_at_call 48; (with_reducible refine (spec_l01Is.calls k a0_0 _ _ l0_1 false _ (Kd.C_below HR0_1.out (BU HB)) HC0_1.out A3.out).mono ?_); rintro e w16 ⟨rfl, hb⟩; replace BK543 := Fa.mk (blk_below (bU BK543) hb); replace HB := Fa.mk (below_step (BU HB) hb)))
    repeat (go_quiet (first | ((with_reducible refine gd 2 rfl ?_); refine box_event ?hg (N := 2) ?hd (cs := #[.int .i64 a0_0, .slice A0_1 l0_1.length c0_1]) (t := 26) ?hr ?_; (case hd => rfl); (case hg => rfl); (case hr => first | (go_simp; done) | (go_simp; rfl)); intro gb543 hg w14 hbox hb; have BK543 := Fa.mk hbox; have GW543 := Fa.mk (bsz hg (BU HB) : w.heap.size ≤ gb543); have GE543 := GW543; replace HB := Fa.mk (below_step (BU HB) hb); clear hb hbox hg; obtain ⟨hcz15_0, hcz15_1, hfz15_0, hfz15_1⟩ := cz2 BK543.out) | (go_at_call 48; (with_reducible refine (spec_l01Is.calls k a0_0 _ _ l0_1 false _ (Kd.C_below HR0_1.out (BU HB)) HC0_1.out A3.out).mono ?_); rintro e w16 ⟨rfl, hb⟩; replace BK543 := Fa.mk (blk_below (bU BK543) hb); replace HB := Fa.mk (below_step (BU HB) hb))); try go_wp2_with (first | ((with_reducible refine gd 2 rfl ?_); refine box_event ?hg (N := 2) ?hd (cs := #[.int .i64 a0_0, .slice A0_1 l0_1.length c0_1]) (t := 26) ?hr ?_; (case hd => rfl); (case hg => rfl); (case hr => first | (go_simp; done) | (go_simp; rfl)); intro gb543 hg w14 hbox hb; have BK543 := Fa.mk hbox; have GW543 := Fa.mk (bsz hg (BU HB) : w.heap.size ≤ gb543); have GE543 := GW543; replace HB := Fa.mk (below_step (BU HB) hb); clear hb hbox hg; obtain ⟨hcz15_0, hcz15_1, hfz15_0, hfz15_1⟩ := cz2 BK543.out) | (go_at_call 48; (with_reducible refine (spec_l01Is.calls k a0_0 _ _ l0_1 false _ (Kd.C_below HR0_1.out (BU HB)) HC0_1.out A3.out).mono ?_); rintro e w16 ⟨rfl, hb⟩; replace BK543 := Fa.mk (blk_below (bU BK543) hb); replace HB := Fa.mk (below_step (BU HB) hb))))
    go_ret
    exact ⟨rfl, BU HB⟩

end Go.Proofs.YtockngphfpedkaaDoor.XFnDistances
