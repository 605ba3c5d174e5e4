-- Written by this project's own program (mprint.py) by means of the kit's printer: with contracts of its own for the functions that the printer leaves out.
import Derived.Test.YtockngphfpedkaaDoorXFnDistancesx0
import Derived.Test.YtockngphfpedkaaDoorXFnDistancesx1
import Derived.Test.YtockngphfpedkaaDoorXFnDistancesx10
import Derived.Test.YtockngphfpedkaaDoorXFnDistancesx11
import Derived.Test.YtockngphfpedkaaDoorXFnDistancesx12
import Derived.Test.YtockngphfpedkaaDoorXFnDistancesx14
import Derived.Test.YtockngphfpedkaaDoorXFnDistancesx15
import Derived.Test.YtockngphfpedkaaDoorXFnDistancesx16
namespace Go.Proofs.YtockngphfpedkaaDoor.XFnDistances
open Go.RowKit Go.Proofs.YtockngphfpedkaaDoorW.PrintWords Go.Proofs.YtockngphfpedkaaDoorW.PrintLast Go.Proofs.YtockngphfpedkaaDoorW.PrintMore
attribute [local go_sem] max2_int min2_int max_two min_two max_three min_three max_four min_four   -- for this text's walks alone
set_option linter.unusedVariables false
set_option linter.unusedSimpArgs false

/-! ### impl_LevelsFrom: function 15 -/
def impl_LevelsFrom.l0 : Nat → List Int → List Int → Int → Int → Option (List Int × Int)
  | 0, _, _, _, _ => none
  | k + 1, x8, x25, x26, x27 => if x27 < x26 then (if 0 ≤ x27 then (if x27 < (x25.length : Int) then (if (rd x25 x27) ≥ 0 then (if 0 ≤ (rd x25 x27) then (if (rd x25 x27) < (x8.length : Int) then (impl_LevelsFrom.l0 k (x8.set ((rd x25 x27) : Int).toNat (wrap64 ((rd x8 (rd x25 x27)) + 1))) x25 x26 (wrap64 (x27 + 1))) else (none)) else (none)) else (impl_LevelsFrom.l0 k x8 x25 x26 (wrap64 (x27 + 1)))) else (none)) else (none)) else (some (x8, 0))
def impl_LevelsFrom.f (k : Nat) (a0_0 : Int) (l0_1 : List Int) (a1 : Int) : Option (List Int × Int) := (impl_graphCode.f k a0_0 l0_1 (([a1] : List Int))).bind fun t662 => (if t662 = 0 then ((impl_Graph_distances.f k a0_0 l0_1 a1).bind fun t663 => ((slices_Max_int64_int64.f k t663).bind fun t666 => (if 0 ≤ (wrap64 (t666 + 1)) then (if (wrap64 (t666 + 1) : Int).toNat ≤ 35184372088832 then (impl_LevelsFrom.l0 k (List.replicate (wrap64 (t666 + 1) : Int).toNat 0) t663 (t663.length : Int) 0) else (none)) else (none)))) else (some (([] : List Int), t662)))
set_option maxHeartbeats 8000000 in
set_option maxRecDepth 100000 in
theorem impl_LevelsFrom.calls (k : Nat) (a0_0 : Int) (A0_1 : Option Addr) (c0_1 : Nat) (l0_1 : List Int) (a1 : Int) (r1 : List Int) (r2 : Int) (w : World) (hr0_1 : Kd.C (Kd.int .i64) w A0_1 l0_1.length l0_1) (hc0_1 : l0_1.length ≤ c0_1) (ht : Tab w) (h : impl_LevelsFrom.f k a0_0 l0_1 a1 = some (r1, r2)) :
    Calls Tryd.prog 15 #[.agg #[.int .i64 a0_0, .slice A0_1 l0_1.length c0_1], .int .i64 a1] w fun e w' => ∃ v0_ : Value, e = .returned (.tuple #[v0_, .int .i64 r2]) ∧ Kd.R (Kd.int .i64) 2 w' w.heap.size (fun _ => True) v0_ r1 ∧ Below w.heap.size w w' := by
  have hu26 := Tryd.underlying26
  have HR0_1 := Fa.mk hr0_1
  have HC0_1 := Fa.mk hc0_1
  clear hr0_1 hc0_1
  have HB := Fa.mk (Below.refl w.heap.size w)
  have HT := Fa.mk ht
  clear ht
  unfold impl_LevelsFrom.f at h; have H := h
  clear h
  obtain ⟨y659, hy659⟩ : ∃ y_ : List Int, y_ = (([a1] : List Int)) := ⟨_, rfl⟩
  first | replace H := bs_ hy659 H | rw [← hy659] at H
  have Ny659 := Fa.mk hy659
  clear hy659
  replace H := Option.bind_eq_some_iff.mp H
  obtain ⟨t662, A30, H⟩ := H
  replace H : (if t662 = 0 then ((impl_Graph_distances.f k a0_0 l0_1 a1).bind fun t663 => ((slices_Max_int64_int64.f k t663).bind fun t666 => (if 0 ≤ (wrap64 (t666 + 1)) then (if (wrap64 (t666 + 1) : Int).toNat ≤ 35184372088832 then (impl_LevelsFrom.l0 k (List.replicate (wrap64 (t666 + 1) : Int).toNat 0) t663 (t663.length : Int) 0) else (none)) else (none)))) else (some (([] : List Int), t662))) = some (r1, r2) := H
  have A3 := Fa.mk A30
  clear A30
  by_cases c4 : t662 = 0
  · rw [if_pos c4] at H
    have c4b0 := beq_iff_eq.mpr c4
    have c4b1 := bne_eq_false_iff_eq.mpr c4
    clear c4
    replace H := Option.bind_eq_some_iff.mp H
    obtain ⟨t663, A50, H⟩ := H
    replace H : ((slices_Max_int64_int64.f k t663).bind fun t666 => (if 0 ≤ (wrap64 (t666 + 1)) then (if (wrap64 (t666 + 1) : Int).toNat ≤ 35184372088832 then (impl_LevelsFrom.l0 k (List.replicate (wrap64 (t666 + 1) : Int).toNat 0) t663 (t663.length : Int) 0) else (none)) else (none))) = some (r1, r2) := H
    have A5 := Fa.mk A50
    clear A50
    replace H := Option.bind_eq_some_iff.mp H
    obtain ⟨t666, A60, H⟩ := H
    replace H : (if 0 ≤ (wrap64 (t666 + 1)) then (if (wrap64 (t666 + 1) : Int).toNat ≤ 35184372088832 then (impl_LevelsFrom.l0 k (List.replicate (wrap64 (t666 + 1) : Int).toNat 0) t663 (t663.length : Int) 0) else (none)) else (none)) = some (r1, r2) := H
    have A6 := Fa.mk A60
    clear A60
    obtain ⟨ji7, hji7⟩ : ∃ j_ : Int, (wrap64 (t666 + 1)) = j_ := ⟨_, rfl⟩
    rw [hji7] at H
    (try rw [hji7] at A3)
    (try rw [hji7] at A5)
    (try rw [hji7] at A6)
    have hji7w : (IntKind.i64.wrap (t666 + 1)) = ji7 := (i64_w _).trans hji7
    by_cases c8 : 0 ≤ (ji7)
    · rw [if_pos c8] at H
      have c8b0 := eq_true c8
      have c8b1 := decide_eq_true c8
      clear c8
      by_cases c9 : (ji7 : Int).toNat ≤ 35184372088832
      · rw [if_pos c9] at H
        have c9b0 := eq_true c9
        have c9b1 := decide_eq_true c9
        clear c9
        obtain ⟨y667, hy667⟩ : ∃ y_ : List Int, y_ = (List.replicate (ji7 : Int).toNat 0) := ⟨_, rfl⟩
        first | replace H := bs_ hy667 H | rw [← hy667] at H
        have Ny667 := Fa.mk hy667
        clear hy667
        have H' := Fa.mk H
        clear H
        go_enter Tryd.func15, Tryd.ntmps15
        go_wp2_with (first | ((with_reducible refine gd 2 rfl ?_); refine box_event ?hg (N := 2) ?hd (cs := #[.int .i64 a0_0, .slice A0_1 l0_1.length c0_1]) (t := 26) ?hr ?_; (case hd => rfl); (case hg => rfl); (case hr => first | (go_simp; done) | (go_simp; rfl)); intro gb658 hg w10 hbox hb; have BK658 := Fa.mk hbox; have GW658 := Fa.mk (bsz hg (BU HB) : w.heap.size ≤ gb658); have GE658 := GW658; replace HB := Fa.mk (below_step (BU HB) hb); clear hb hbox hg; obtain ⟨hcz11_0, hcz11_1, hfz11_0, hfz11_1⟩ := cz2 BK658.out) | ((with_reducible refine gd 13 rfl ?_); refine Kd.R_lit (Kd.int .i64) _ 2 ?hg (N := 13) ?hd (xs := ([a1] : List Int)) (inner := [.int .i64 a1]) (ok := fun _ => True) (okp := fun _ => True) ?hr ?hp (fun _ hk => hk) trivial (Below.refl _ _) (Nat.le_refl _) (by simp) ?_; (case hd => rfl); (case hg => rfl); (case hr => first | (go_simp; done) | (go_simp; rfl)); (case hp => exact (Reps.one (show Kd.M (Kd.int .i64) _ _ _ a1 [.int .i64 a1] from rfl) (Reps.none _ _))); intro v660 w12 ho13 hb hg_ hnew_; clear hg_ hnew_; (first | rw [← Ny659.out] at ho13 | (simp only [Int.reduceToNat] at ho13; rw [← Ny659.out] at ho13)); have HO661 := Fa.mk (Kd.R_lower ho13 (below_size (BU HB))); replace BK658 := Fa.mk (blk_below (bU BK658) hb); replace HB := Fa.mk (below_step (BU HB) hb); clear hb ho13; obtain ⟨Ao14, co14, eo14⟩ := Kd.R_slice HO661.out; subst eo14) | ((with_reducible refine gc 36 rfl ?_); refine gL 14 Tryd.func36 #[.agg #[.int .i64 a0_0, .slice A0_1 l0_1.length c0_1], .slice Ao14 y659.length co14] rfl (by first | rfl | (simp only [mA, mC, mN]; rfl)) ?_; (with_reducible refine (impl_graphCode.calls k a0_0 _ _ l0_1 _ _ y659 t662 _ (Kd.C_below HR0_1.out (BU HB)) HC0_1.out (rC HO661) ((Kd.R_reads' HO661.out).2.1) A3.out).mono ?_); rintro e w15 ⟨rfl, hb⟩; refine ⟨_, rfl, ?_⟩; replace HO661 := Fa.mk (Kd.R_below (rU HO661) hb); replace BK658 := Fa.mk (blk_below (bU BK658) hb); replace HB := Fa.mk (below_step (BU HB) hb); obtain ⟨hcz16_0, hcz16_1, hfz16_0, hfz16_1⟩ := cz2 BK658.out) | ((with_reducible refine gc 37 rfl ?_); refine gL 20 Tryd.func37 #[.agg #[.int .i64 a0_0, .slice A0_1 l0_1.length c0_1], .int .i64 a1] rfl (by first | rfl | (simp only [mA, mC, mN]; rfl)) ?_; (with_reducible refine (impl_Graph_distances.calls k a0_0 _ _ l0_1 a1 t663 _ (Kd.C_below HR0_1.out (BU HB)) HC0_1.out (Tab.below HT.out (BU HB)) A5.out).mono ?_); rintro e w17 ⟨v664, rfl, ho0, hb⟩; refine ⟨_, rfl, ?_⟩; have HO665 := Fa.mk (Kd.R_lower (Kd.R_new' ho0 (Kd.R_lt (rU HO661))) (below_size (BU HB))); replace HO661 := Fa.mk (Kd.R_elder' (rU HO661) (Kd.R_base ho0) hb); replace BK658 := Fa.mk (blk_below (bU BK658) hb); replace HB := Fa.mk (below_step (BU HB) hb); obtain ⟨Ao18, co18, eo18⟩ := Kd.R_slice HO665.out; subst eo18) | ((with_reducible refine gc 41 rfl ?_); refine gL 22 Tryd.func41 #[.slice Ao18 t663.length co18] rfl (by first | rfl | (simp only [mA, mC, mN]; rfl)) ?_; (with_reducible refine (slices_Max_int64_int64.calls k _ _ t663 t666 _ (rC HO665) ((Kd.R_reads' HO665.out).2.1) A6.out).mono ?_); rintro e w19 ⟨rfl, hb⟩; refine ⟨_, rfl, ?_⟩; replace HO661 := Fa.mk (Kd.R_below (rU HO661) hb); replace HO665 := Fa.mk (Kd.R_below (rU HO665) hb); replace BK658 := Fa.mk (blk_below (bU BK658) hb); replace HB := Fa.mk (below_step (BU HB) hb)) | ((with_reducible refine gd 24 rfl ?_); refine Kd.R_make (Kd.int .i64) _ 2 rfl (N := 24) rfl 24 _ _ rfl ji7 rfl rfl Tryd.underlying24 (.int .i64 0) 8 info2 rfl (by decide) (by omega) 0 (ok := fun _ => True) (okp := fun _ => True) rfl (fun _ hk => hk) trivial (of_decide_eq_true (by assumption)) (Nat.le_trans (Nat.mul_le_mul_right _ (of_decide_eq_true (by assumption) : ji7.toNat ≤ 35184372088832)) (by omega)) (Below.refl _ _) (Nat.le_refl _) ?_; intro v668 w20 ho21 hb hg_ hnew_; clear hg_ hnew_; (first | rw [← Ny667.out] at ho21 | (simp only [Int.reduceToNat] at ho21; rw [← Ny667.out] at ho21)); have HO669 := Fa.mk (Kd.R_lower (Kd.R_new' (Kd.R_new' ho21 (Kd.R_lt (rU HO661))) (Kd.R_lt (rU HO665))) (below_size (BU HB))); replace HO661 := Fa.mk (Kd.R_elder' (rU HO661) (Kd.R_base ho21) hb); replace HO665 := Fa.mk (Kd.R_elder' (rU HO665) (Kd.R_base ho21) hb); replace BK658 := Fa.mk (blk_below (bU BK658) hb); replace HB := Fa.mk (below_step (BU HB) hb); clear hb ho21))
        go_loopg [27] k (fun kq v27 w' => ∃ (x8_1 : List Int) (x27_1 : Int), v27 = .int .i64 x27_1 ∧ Fa (impl_LevelsFrom.l0 kq x8_1 t663 (t663.length : Int) x27_1 = some (r1, r2)) ∧ Fa (kq ≤ k) ∧ Fa (Kd.R (Kd.int .i64) 2 w' w.heap.size (fun k_ => some k_ ≠ ((.slice Ao18 t663.length co18) : Value).ownBlock) v668 x8_1) ∧ Fa (Kd.R (Kd.int .i64) 2 w' w.heap.size (fun k_ => some k_ ≠ (v668 : Value).ownBlock) (.slice Ao18 t663.length co18) t663) ∧ Fa (w'.heap[gb658]? = some (.cells #[.int .i64 a0_0, (.slice A0_1 l0_1.length c0_1)] 26 (0, 0))) ∧ Fa (Below w.heap.size w w'))
        case atStart => exact ⟨(y667), (0), rfl, H', ⟨Nat.le_refl _⟩, ⟨by (with_reducible repeat (first | apply Kd.R_alloc | apply Kd.R_drewN | apply Kd.R_drew)); exact Kd.R_mono HO669.out (fun _ hk => hk.2)⟩, ⟨by (with_reducible repeat (first | apply Kd.R_alloc | apply Kd.R_drewN | apply Kd.R_drew)); exact Kd.R_mono HO665.out (fun _ hk => hk.2)⟩, ⟨bU BK658⟩, ⟨BU HB⟩⟩
        case round =>
          clear H'
          obtain ⟨x8_1, x27_1, rfl, HA, HK1, HO_8, HO_25, BK658, HB⟩ := hrel
          cases gk with
          | zero => exact absurd HA.out (by simp [impl_LevelsFrom.l0])
          | succ k1 =>
            have H := HA.out
            clear HA
            simp only [impl_LevelsFrom.l0] at H
            by_cases c22 : x27_1 < (t663.length : Int)
            · rw [if_pos c22] at H
              have c22b0 := decide_eq_true c22
              clear c22
              by_cases c23 : 0 ≤ x27_1
              · rw [if_pos c23] at H
                have c23b0 := decide_eq_true c23
                clear c23
                by_cases c24 : x27_1 < (t663.length : Int)
                · rw [if_pos c24] at H
                  have c24b0 := decide_eq_true c24
                  clear c24
                  by_cases c25 : (rd t663 x27_1) ≥ 0
                  · rw [if_pos c25] at H
                    have c25b0 := decide_eq_true c25
                    clear c25
                    by_cases c26 : 0 ≤ (rd t663 x27_1)
                    · rw [if_pos c26] at H
                      have c26b0 := decide_eq_true c26
                      clear c26
                      by_cases c27 : (rd t663 x27_1) < (x8_1.length : Int)
                      · rw [if_pos c27] at H
                        have c27b0 := decide_eq_true c27
                        clear c27
                        obtain ⟨y672, hy672⟩ : ∃ y_ : List Int, y_ = (x8_1.set ((rd t663 x27_1) : Int).toNat (wrap64 ((rd x8_1 (rd t663 x27_1)) + 1))) := ⟨_, rfl⟩
                        first | replace H := bs_ hy672 H | rw [← hy672] at H
                        have Ny672 := Fa.mk hy672
                        clear hy672
                        have H' := Fa.mk H
                        clear H
                        have p670 : 0 ≤ (x27_1 : Int) := of_decide_eq_true (by assumption)
                        have q670 : x27_1 < (t663.length : Int) := of_decide_eq_true (by assumption)
                        obtain ⟨ad670, e670, hx670_0⟩ := Kd.at_int (Kd.R_reads' HO_25.out).2.2 x27_1 p670 q670
                        cases e670
                        replace p670 := eq_true p670
                        replace q670 := eq_true q670
                        obtain ⟨Ao29, co29, eo29⟩ := Kd.R_slice HO_8.out
                        subst eo29
                        have p671 : 0 ≤ ((rd t663 x27_1) : Int) := of_decide_eq_true (by assumption)
                        have q671 : (rd t663 x27_1) < (x8_1.length : Int) := of_decide_eq_true (by assumption)
                        obtain ⟨ad671, e671, hx671_0⟩ := Kd.at_int (Kd.R_reads' HO_8.out).2.2 (rd t663 x27_1) p671 q671
                        cases e671
                        replace p671 := eq_true p671
                        replace q671 := eq_true q671
                        have p28 : 0 ≤ ((rd t663 x27_1) : Int) := of_decide_eq_true (by assumption)
                        have q28 : ((rd t663 x27_1) : Int) < ((x8_1.length : Int) : Int) := of_decide_eq_true (by assumption)
                        obtain ⟨go28, co28, eo28, gb28, gl28, cl28, HG28⟩ := Kd.R_form HO_8.out (by omega)
                        (first | cases eo28 | (injection eo28 with ea_ en_ ec_; (first | subst ea_ | (injection ea_ with ea_; subst ea_)); subst ec_; clear en_))
                        have GB28 := Fa.mk gb28
                        have GG28 := Fa.mk HG28
                        clear gb28 gl28 HG28
                        (first | simp only [add_plain] at hx671_0 | skip)
                        obtain ⟨hx28_0, hf28_0⟩ := Kd.R_celln 0 HO_8.out ((rd t663 x27_1) : Int) p28 q28
                        replace p28 := eq_true p28
                        replace q28 := eq_true q28
                        have HP30 := Kd.R_putg HO_8.out ((rd t663 x27_1) : Int) (wrap64 ((rd x8_1 (rd t663 x27_1)) + 1))
                        go_wp2_with (first | ((with_reducible refine gate_store (t := 2) (p := 38) rfl ?_); refine store_event (t := 2) (p := 38) (v := ?vo_w31) (w1 := (wr.setCell ⟨go28, ((rd t663 x27_1) : Int).toNat, none⟩ (.int .i64 (wrap64 ((rd x8_1 (rd t663 x27_1)) + 1))))) ?hg ?ho ?hn ?hr ?_; (case ho => rfl); (case hg => rfl); (case hn => rfl); (case hr => first | (go_simp; done) | (go_simp; rfl)); intro w31 hw; have hg : wr.grownBy w31 (some go28) := (by rw [hw]; exact HP30.2); have hp_ : Kd.R (Kd.int .i64) 2 w31 w.heap.size (fun k_ => some k_ ≠ (.slice (some ad670) t663.length co18 : Value).ownBlock) (.slice (some ⟨go28, 0, none⟩) x8_1.length co29) y672 := (by rw [hw, Ny672.out]; exact HP30.1); clear HP30; replace HO_25 := Fa.mk (Kd.R_after (v := (.slice (some ⟨go28, 0, none⟩) x8_1.length co29)) (v1 := (.slice (some ⟨go28, 0, none⟩) x8_1.length co29)) (ok := (fun _ => True)) (by (with_reducible repeat (first | apply Kd.R_alloc | apply Kd.R_drewN | apply Kd.R_drew)); exact Kd.R_mono HO_25.out (fun _ hk => ⟨trivial, hk⟩)) hg (.inl rfl)); replace BK658 := Fa.mk (blk_grown (bU BK658) hg (Kd.R_ne HO_8.out BK658.out (by decide))); replace HO_8 := Fa.mk hp_; replace HB := Fa.mk ((by rw [hw]; exact below_set (HB.out) GB28.out : Below w.heap.size w w31)); clear hg hw hp_))
                        go_roundg k1
                        case measure => have := HK1.out; omega
                        case rel => exact ⟨(y672), (wrap64 (x27_1 + 1)), rfl, H', ⟨by have := HK1.out; omega⟩, ⟨rU HO_8⟩, ⟨by (with_reducible repeat (first | apply Kd.R_alloc | apply Kd.R_drewN | apply Kd.R_drew)); exact Kd.R_mono HO_25.out (fun _ hk => hk.2)⟩, ⟨bU BK658⟩, ⟨BU HB⟩⟩
                      · rw [if_neg c27] at H
                        exact absurd H (by simp)
                    · rw [if_neg c26] at H
                      exact absurd H (by simp)
                  · rw [if_neg c25] at H
                    have c25b0 := decide_eq_false c25
                    clear c25
                    have H' := Fa.mk H
                    clear H
                    have p670 : 0 ≤ (x27_1 : Int) := of_decide_eq_true (by assumption)
                    have q670 : x27_1 < (t663.length : Int) := of_decide_eq_true (by assumption)
                    obtain ⟨ad670, e670, hx670_0⟩ := Kd.at_int (Kd.R_reads' HO_25.out).2.2 x27_1 p670 q670
                    cases e670
                    replace p670 := eq_true p670
                    replace q670 := eq_true q670
                    go_wp2
                    go_roundg k1
                    case measure => have := HK1.out; omega
                    case rel => exact ⟨(x8_1), (wrap64 (x27_1 + 1)), rfl, H', ⟨by have := HK1.out; omega⟩, ⟨rU HO_8⟩, ⟨rU HO_25⟩, ⟨bU BK658⟩, ⟨BU HB⟩⟩
                · rw [if_neg c24] at H
                  exact absurd H (by simp)
              · rw [if_neg c23] at H
                exact absurd H (by simp)
            · rw [if_neg c22] at H
              have c22b0 := decide_eq_false c22
              clear c22
              simp only [Option.some.injEq, Prod.mk.injEq] at H
              obtain ⟨rfl, rfl⟩ := H
              go_wp2
              go_ret2
              exact ⟨_, rfl, by (with_reducible repeat (first | apply Kd.R_alloc | apply Kd.R_drewN | apply Kd.R_drew)); exact Kd.R_mono HO_8.out (fun _ hk => trivial), BU HB⟩
      · rw [if_neg c9] at H
        exact absurd H (by simp)
    · rw [if_neg c8] at H
      exact absurd H (by simp)
  · rw [if_neg c4] at H
    have c4b0 := beq_eq_false_iff_ne.mpr c4
    have c4b1 := bne_iff_ne.mpr c4
    simp only [Option.some.injEq, Prod.mk.injEq] at H
    obtain ⟨rfl, rfl⟩ := H
    go_enter Tryd.func15, Tryd.ntmps15
    go_wp2_with (first | ((with_reducible refine gd 2 rfl ?_); refine box_event ?hg (N := 2) ?hd (cs := #[.int .i64 a0_0, .slice A0_1 l0_1.length c0_1]) (t := 26) ?hr ?_; (case hd => rfl); (case hg => rfl); (case hr => first | (go_simp; done) | (go_simp; rfl)); intro gb658 hg w32 hbox hb; have BK658 := Fa.mk hbox; have GW658 := Fa.mk (bsz hg (BU HB) : w.heap.size ≤ gb658); have GE658 := GW658; replace HB := Fa.mk (below_step (BU HB) hb); clear hb hbox hg; obtain ⟨hcz33_0, hcz33_1, hfz33_0, hfz33_1⟩ := cz2 BK658.out) | ((with_reducible refine gd 13 rfl ?_); refine Kd.R_lit (Kd.int .i64) _ 2 ?hg (N := 13) ?hd (xs := ([a1] : List Int)) (inner := [.int .i64 a1]) (ok := fun _ => True) (okp := fun _ => True) ?hr ?hp (fun _ hk => hk) trivial (Below.refl _ _) (Nat.le_refl _) (by simp) ?_; (case hd => rfl); (case hg => rfl); (case hr => first | (go_simp; done) | (go_simp; rfl)); (case hp => exact (Reps.one (show Kd.M (Kd.int .i64) _ _ _ a1 [.int .i64 a1] from rfl) (Reps.none _ _))); intro v660 w34 ho35 hb hg_ hnew_; clear hg_ hnew_; (first | rw [← Ny659.out] at ho35 | (simp only [Int.reduceToNat] at ho35; rw [← Ny659.out] at ho35)); have HO661 := Fa.mk (Kd.R_lower ho35 (below_size (BU HB))); replace BK658 := Fa.mk (blk_below (bU BK658) hb); replace HB := Fa.mk (below_step (BU HB) hb); clear hb ho35; obtain ⟨Ao36, co36, eo36⟩ := Kd.R_slice HO661.out; subst eo36) | ((with_reducible refine gc 36 rfl ?_); refine gL 14 Tryd.func36 #[.agg #[.int .i64 a0_0, .slice A0_1 l0_1.length c0_1], .slice Ao36 y659.length co36] rfl (by first | rfl | (simp only [mA, mC, mN]; rfl)) ?_; (with_reducible refine (impl_graphCode.calls k a0_0 _ _ l0_1 _ _ y659 t662 _ (Kd.C_below HR0_1.out (BU HB)) HC0_1.out (rC HO661) ((Kd.R_reads' HO661.out).2.1) A3.out).mono ?_); rintro e w37 ⟨rfl, hb⟩; refine ⟨_, rfl, ?_⟩; replace HO661 := Fa.mk (Kd.R_below (rU HO661) hb); replace BK658 := Fa.mk (blk_below (bU BK658) hb); replace HB := Fa.mk (below_step (BU HB) hb)))
    go_ret2
    exact ⟨_, rfl, by first | exact Kd.R_nil _ _ _ _ _ | exact Kd.N_nil _ _ _ _ _ | exact Kd.V_nil _ _ _ _ _ | exact Kd.Q_nil _ _ _ _ _ | exact Kd.S_nil _ _ _ _ _, BU HB⟩

/-! ### spec_l02Levels: function 42 -/
mutual
def spec_l02Levels.l0 : Nat → List Int → List Int → Int → Option (List Int)
  | 0, _, _, _ => none
  | k + 1, x5, x6, x7 => if x7 < (x5.length : Int) then (spec_l02Levels.l1 k x5 x6 x7) else (some x6)
def spec_l02Levels.l1 : Nat → List Int → List Int → Int → Option (List Int)
  | 0, _, _, _ => none
  | k + 1, x5, x6, x7 => if 0 ≤ x7 then (if x7 < (x5.length : Int) then (if (x6.length : Int) ≤ (rd x5 x7) then (if x6.length < 17592186044416 then (spec_l02Levels.l1 k x5 (x6 ++ [0]) x7) else (none)) else (if (rd x5 x7) ≥ 0 then (if 0 ≤ (rd x5 x7) then (if (rd x5 x7) < (x6.length : Int) then (spec_l02Levels.l0 k x5 (x6.set ((rd x5 x7) : Int).toNat (wrap64 ((rd x6 (rd x5 x7)) + 1))) (wrap64 (x7 + 1))) else (none)) else (none)) else (spec_l02Levels.l0 k x5 x6 (wrap64 (x7 + 1))))) else (none)) else (none)
end
def spec_l02Levels.f (k : Nat) (a0_0 : Int) (l0_1 : List Int) (a1 : Int) : Option (List Int) := (spec_l02From.f k a0_0 l0_1 a1 (-1) (-1)).bind fun t674 => (spec_l02Levels.l0 k t674 (([] : List Int)) 0)
set_option maxHeartbeats 8000000 in
set_option maxRecDepth 100000 in
theorem spec_l02Levels.calls (k : Nat) (a0_0 : Int) (A0_1 : Option Addr) (c0_1 : Nat) (l0_1 : List Int) (a1 : Int) (r : List Int) (w : World) (hr0_1 : Kd.C (Kd.int .i64) w A0_1 l0_1.length l0_1) (hc0_1 : l0_1.length ≤ c0_1) (h : spec_l02Levels.f k a0_0 l0_1 a1 = some r) :
    Calls Tryd.prog 42 #[.agg #[.int .i64 a0_0, .slice A0_1 l0_1.length c0_1], .int .i64 a1] w fun e w' => ∃ v0_ : Value, e = .returned (v0_) ∧ Kd.R (Kd.int .i64) 2 w' w.heap.size (fun _ => True) v0_ r ∧ Below w.heap.size w w' := by
  have hu26 := Tryd.underlying26
  have HR0_1 := Fa.mk hr0_1
  have HC0_1 := Fa.mk hc0_1
  clear hr0_1 hc0_1
  have HB := Fa.mk (Below.refl w.heap.size w)
  unfold spec_l02Levels.f at h; have H := h
  clear h
  replace H := Option.bind_eq_some_iff.mp H
  obtain ⟨t674, A30, H⟩ := H
  replace H : (spec_l02Levels.l0 k t674 (([] : List Int)) 0) = some r := H
  have A3 := Fa.mk A30
  clear A30
  obtain ⟨y677, hy677⟩ : ∃ y_ : List Int, y_ = (([] : List Int)) := ⟨_, rfl⟩
  first | replace H := bs_ hy677 H | rw [← hy677] at H
  have Ny677 := Fa.mk hy677
  clear hy677
  have H' := Fa.mk H
  clear H
  go_enter Tryd.func42, Tryd.ntmps42
  go_wp2_with (first | ((with_reducible refine gd 2 rfl ?_); refine box_event ?hg (N := 2) ?hd (cs := #[.int .i64 a0_0, .slice A0_1 l0_1.length c0_1]) (t := 26) ?hr ?_; (case hd => rfl); (case hg => rfl); (case hr => first | (go_simp; done) | (go_simp; rfl)); intro gb673 hg w4 hbox hb; have BK673 := Fa.mk hbox; have GW673 := Fa.mk (bsz hg (BU HB) : w.heap.size ≤ gb673); have GE673 := GW673; replace HB := Fa.mk (below_step (BU HB) hb); clear hb hbox hg; obtain ⟨hcz5_0, hcz5_1, hfz5_0, hfz5_1⟩ := cz2 BK673.out) | ((with_reducible refine gc 39 rfl ?_); refine gL 10 Tryd.func39 #[.agg #[.int .i64 a0_0, .slice A0_1 l0_1.length c0_1], .int .i64 a1, .int .i64 (-1), .int .i64 (-1)] rfl (by first | rfl | (simp only [mA, mC, mN]; rfl)) ?_; (with_reducible refine (spec_l02From.calls k a0_0 _ _ l0_1 a1 (-1) (-1) t674 _ (Kd.C_below HR0_1.out (BU HB)) HC0_1.out A3.out).mono ?_); rintro e w6 ⟨v675, rfl, ho0, hb⟩; refine ⟨_, rfl, ?_⟩; have HO676 := Fa.mk (Kd.R_lower ho0 (below_size (BU HB))); replace BK673 := Fa.mk (blk_below (bU BK673) hb); replace HB := Fa.mk (below_step (BU HB) hb)) | ((with_reducible refine gd 11 rfl ?_); refine Kd.R_lit (Kd.int .i64) _ 2 ?hg (N := 11) ?hd (xs := ([] : List Int)) (inner := []) (ok := fun _ => True) (okp := fun _ => True) ?hr ?hp (fun _ hk => hk) trivial (Below.refl _ _) (Nat.le_refl _) (by simp) ?_; (case hd => rfl); (case hg => rfl); (case hr => first | (go_simp; done) | (go_simp; rfl)); (case hp => exact (Reps.none _ _)); intro v678 w7 ho8 hb hg_ hnew_; clear hg_ hnew_; (first | rw [← Ny677.out] at ho8 | (simp only [Int.reduceToNat] at ho8; rw [← Ny677.out] at ho8)); have HO679 := Fa.mk (Kd.R_lower (Kd.R_new' ho8 (Kd.R_lt (rU HO676))) (below_size (BU HB))); replace HO676 := Fa.mk (Kd.R_elder' (rU HO676) (Kd.R_base ho8) hb); replace BK673 := Fa.mk (blk_below (bU BK673) hb); replace HB := Fa.mk (below_step (BU HB) hb); clear hb ho8))
  go_loopg [6, 7] k (fun kq v6 v7 w' => ∃ (x5_1 : List Int) (x6_1 : List Int) (x7_1 : Int), v7 = .int .i64 x7_1 ∧ Fa (spec_l02Levels.l0 kq x5_1 x6_1 x7_1 = some r) ∧ Fa (kq ≤ k) ∧ Fa (Kd.R (Kd.int .i64) 2 w' w.heap.size (fun k_ => some k_ ≠ (v6 : Value).ownBlock) v675 x5_1) ∧ Fa (Kd.R (Kd.int .i64) 2 w' w.heap.size (fun k_ => some k_ ≠ (v675 : Value).ownBlock) v6 x6_1) ∧ Fa (w'.heap[gb673]? = some (.cells #[.int .i64 a0_0, (.slice A0_1 l0_1.length c0_1)] 26 (0, 0))) ∧ Fa (Below w.heap.size w w'))
  case atStart => exact ⟨(t674), (y677), (0), rfl, H', ⟨Nat.le_refl _⟩, ⟨by (with_reducible repeat (first | apply Kd.R_alloc | apply Kd.R_drewN | apply Kd.R_drew)); exact Kd.R_mono HO676.out (fun _ hk => hk.2)⟩, ⟨by (with_reducible repeat (first | apply Kd.R_alloc | apply Kd.R_drewN | apply Kd.R_drew)); exact Kd.R_mono HO679.out (fun _ hk => hk.2)⟩, ⟨bU BK673⟩, ⟨BU HB⟩⟩
  case round =>
    clear H'
    obtain ⟨x5_1, x6_1, x7_1, rfl, HA, HK1, HO_5, HO_6, BK673, HB⟩ := hrel
    cases gk with
    | zero => exact absurd HA.out (by simp [spec_l02Levels.l0])
    | succ k1 =>
      have H := HA.out
      clear HA
      simp only [spec_l02Levels.l0] at H
      by_cases c9 : x7_1 < (x5_1.length : Int)
      · rw [if_pos c9] at H
        have c9b0 := decide_eq_true c9
        clear c9
        have H' := Fa.mk H
        clear H
        obtain ⟨Ao10, co10, eo10⟩ := Kd.R_slice HO_5.out
        subst eo10
        go_wp2
        go_loopg [6] k1 (fun kq v6 w' => ∃ (x6_2 : List Int), Fa (spec_l02Levels.l1 kq x5_1 x6_2 x7_1 = some r) ∧ Fa (kq ≤ k1) ∧ Fa (Kd.R (Kd.int .i64) 2 w' w.heap.size (fun k_ => some k_ ≠ (v6 : Value).ownBlock) (.slice Ao10 x5_1.length co10) x5_1) ∧ Fa (Kd.R (Kd.int .i64) 2 w' w.heap.size (fun k_ => some k_ ≠ ((.slice Ao10 x5_1.length co10) : Value).ownBlock) v6 x6_2) ∧ Fa (w'.heap[gb673]? = some (.cells #[.int .i64 a0_0, (.slice A0_1 l0_1.length c0_1)] 26 (0, 0))) ∧ Fa (Below w.heap.size w w'))
        case atStart => exact ⟨(x6_1), H', ⟨Nat.le_refl _⟩, ⟨rU HO_5⟩, ⟨rU HO_6⟩, ⟨bU BK673⟩, ⟨BU HB⟩⟩
        case round =>
          clear H'
          obtain ⟨x6_2, HA, HK2, HO_5, HO_6, BK673, HB⟩ := hrel
          cases gk with
          | zero => exact absurd HA.out (by simp [spec_l02Levels.l1])
          | succ k2 =>
            have H := HA.out
            clear HA
            simp only [spec_l02Levels.l1] at H
            by_cases c11 : 0 ≤ x7_1
            · rw [if_pos c11] at H
              have c11b0 := decide_eq_true c11
              clear c11
              by_cases c12 : x7_1 < (x5_1.length : Int)
              · rw [if_pos c12] at H
                have c12b0 := decide_eq_true c12
                clear c12
                by_cases c13 : (x6_2.length : Int) ≤ (rd x5_1 x7_1)
                · rw [if_pos c13] at H
                  have c13b0 := decide_eq_true c13
                  clear c13
                  by_cases c14 : x6_2.length < 17592186044416
                  · rw [if_pos c14] at H
                    have LMc14 := Fa.mk c14
                    clear c14
                    obtain ⟨y681, hy681⟩ : ∃ y_ : List Int, y_ = (x6_2 ++ [0]) := ⟨_, rfl⟩
                    first | replace H := bs_ hy681 H | rw [← hy681] at H
                    have Ny681 := Fa.mk hy681
                    clear hy681
                    have H' := Fa.mk H
                    clear H
                    obtain ⟨Ao15, co15, eo15⟩ := Kd.R_slice HO_6.out
                    subst eo15
                    have p680 : 0 ≤ (x7_1 : Int) := of_decide_eq_true (by assumption)
                    have q680 : x7_1 < (x5_1.length : Int) := of_decide_eq_true (by assumption)
                    obtain ⟨ad680, e680, hx680_0⟩ := Kd.at_int (Kd.R_reads' HO_5.out).2.2 x7_1 p680 q680
                    cases e680
                    replace p680 := eq_true p680
                    replace q680 := eq_true q680
                    go_wp2_with (first | ((with_reducible refine gate_builtin (b := .append) (xs := #[.tmp 25, .tmp 26]) rfl ?_); at_builtin; refine Kd.R_append (Kd.int .i64) (w0 := w) w.heap.size rfl (.tmp 25) (.tmp 26) 24 2 (.int .i64 0) 8 rfl Tryd.underlying24 info2 rfl (by decide) (by omega) (.slice Ao15 x6_2.length co15) x6_2 0 [.int .i64 0] (fun k_ => some k_ ≠ (.slice (some ad680) x5_1.length co10 : Value).ownBlock) (fun _ => False) rfl rfl ?aP (fun _ hk => hk.elim) ?aF ?aO ?aB ?aS ?aL ?_; (case aP => exact rfl); (case aB => exact (BU HB)); (case aF => exact (fun k_ hk => Kd.fresh' (Kd.R_lt (rU HO_5)) k_ hk)); (case aO => exact (rU HO_6)); (case aS => exact (below_size (BU HB))); (case aL => have := LMc14.out; omega); intro v682 w16 ho hb hg hat; rw [← Ny681.out] at ho; replace HO_5 := Fa.mk (Kd.R_after (ok := (fun _ => True)) (by (with_reducible repeat (first | apply Kd.R_alloc | apply Kd.R_drewN | apply Kd.R_drew)); exact Kd.R_mono HO_5.out (fun _ hk => ⟨trivial, hk⟩)) hg hat); replace BK673 := Fa.mk (blk_grown (bU BK673) hg (Kd.R_ne HO_6.out BK673.out (by decide))); have HO683 := Fa.mk ho; replace HB := Fa.mk hb; clear HO_6; clear ho hb hg hat))
                    go_roundg k2
                    case measure => have := HK1.out; have := HK2.out; omega
                    case rel => exact ⟨(y681), H', ⟨by have := HK1.out; have := HK2.out; omega⟩, ⟨by (with_reducible repeat (first | apply Kd.R_alloc | apply Kd.R_drewN | apply Kd.R_drew)); exact Kd.R_mono HO_5.out (fun _ hk => hk.2)⟩, ⟨rU HO683⟩, ⟨bU BK673⟩, ⟨BU HB⟩⟩
                  · rw [if_neg c14] at H
                    exact absurd H (by simp)
                · rw [if_neg c13] at H
                  have c13b0 := decide_eq_false c13
                  clear c13
                  by_cases c17 : (rd x5_1 x7_1) ≥ 0
                  · rw [if_pos c17] at H
                    have c17b0 := decide_eq_true c17
                    clear c17
                    by_cases c18 : 0 ≤ (rd x5_1 x7_1)
                    · rw [if_pos c18] at H
                      have c18b0 := decide_eq_true c18
                      clear c18
                      by_cases c19 : (rd x5_1 x7_1) < (x6_2.length : Int)
                      · rw [if_pos c19] at H
                        have c19b0 := decide_eq_true c19
                        clear c19
                        obtain ⟨y687, hy687⟩ : ∃ y_ : List Int, y_ = (x6_2.set ((rd x5_1 x7_1) : Int).toNat (wrap64 ((rd x6_2 (rd x5_1 x7_1)) + 1))) := ⟨_, rfl⟩
                        first | replace H := bs_ hy687 H | rw [← hy687] at H
                        have Ny687 := Fa.mk hy687
                        clear hy687
                        have H' := Fa.mk H
                        clear H
                        obtain ⟨Ao21, co21, eo21⟩ := Kd.R_slice HO_6.out
                        subst eo21
                        have p680 : 0 ≤ (x7_1 : Int) := of_decide_eq_true (by assumption)
                        have q680 : x7_1 < (x5_1.length : Int) := of_decide_eq_true (by assumption)
                        obtain ⟨ad680, e680, hx680_0⟩ := Kd.at_int (Kd.R_reads' HO_5.out).2.2 x7_1 p680 q680
                        cases e680
                        replace p680 := eq_true p680
                        replace q680 := eq_true q680
                        have p684 : 0 ≤ (x7_1 : Int) := of_decide_eq_true (by assumption)
                        have q684 : x7_1 < (x5_1.length : Int) := of_decide_eq_true (by assumption)
                        obtain ⟨ad684, e684, hx684_0⟩ := Kd.at_int (Kd.R_reads' HO_5.out).2.2 x7_1 p684 q684
                        obtain rfl : ad680 = ad684 := (by injection e684)
                        replace p684 := eq_true p684
                        replace q684 := eq_true q684
                        have p685 : 0 ≤ (x7_1 : Int) := of_decide_eq_true (by assumption)
                        have q685 : x7_1 < (x5_1.length : Int) := of_decide_eq_true (by assumption)
                        obtain ⟨ad685, e685, hx685_0⟩ := Kd.at_int (Kd.R_reads' HO_5.out).2.2 x7_1 p685 q685
                        obtain rfl : ad680 = ad685 := (by injection e685)
                        replace p685 := eq_true p685
                        replace q685 := eq_true q685
                        have p686 : 0 ≤ ((rd x5_1 x7_1) : Int) := of_decide_eq_true (by assumption)
                        have q686 : (rd x5_1 x7_1) < (x6_2.length : Int) := of_decide_eq_true (by assumption)
                        obtain ⟨ad686, e686, hx686_0⟩ := Kd.at_int (Kd.R_reads' HO_6.out).2.2 (rd x5_1 x7_1) p686 q686
                        cases e686
                        replace p686 := eq_true p686
                        replace q686 := eq_true q686
                        have p20 : 0 ≤ ((rd x5_1 x7_1) : Int) := of_decide_eq_true (by assumption)
                        have q20 : ((rd x5_1 x7_1) : Int) < ((x6_2.length : Int) : Int) := of_decide_eq_true (by assumption)
                        obtain ⟨go20, co20, eo20, gb20, gl20, cl20, HG20⟩ := Kd.R_form HO_6.out (by omega)
                        (first | cases eo20 | (injection eo20 with ea_ en_ ec_; (first | subst ea_ | (injection ea_ with ea_; subst ea_)); subst ec_; clear en_))
                        have GB20 := Fa.mk gb20
                        have GG20 := Fa.mk HG20
                        clear gb20 gl20 HG20
                        (first | simp only [add_plain] at hx686_0 | skip)
                        obtain ⟨hx20_0, hf20_0⟩ := Kd.R_celln 0 HO_6.out ((rd x5_1 x7_1) : Int) p20 q20
                        replace p20 := eq_true p20
                        replace q20 := eq_true q20
                        have HP22 := Kd.R_putg HO_6.out ((rd x5_1 x7_1) : Int) (wrap64 ((rd x6_2 (rd x5_1 x7_1)) + 1))
                        go_wp2_with (first | ((with_reducible refine gate_store (t := 2) (p := 41) rfl ?_); refine store_event (t := 2) (p := 41) (v := ?vo_w23) (w1 := (wr.setCell ⟨go20, ((rd x5_1 x7_1) : Int).toNat, none⟩ (.int .i64 (wrap64 ((rd x6_2 (rd x5_1 x7_1)) + 1))))) ?hg ?ho ?hn ?hr ?_; (case ho => rfl); (case hg => rfl); (case hn => rfl); (case hr => first | (go_simp; done) | (go_simp; rfl)); intro w23 hw; have hg : wr.grownBy w23 (some go20) := (by rw [hw]; exact HP22.2); have hp_ : Kd.R (Kd.int .i64) 2 w23 w.heap.size (fun k_ => some k_ ≠ (.slice (some ad680) x5_1.length co10 : Value).ownBlock) (.slice (some ⟨go20, 0, none⟩) x6_2.length co21) y687 := (by rw [hw, Ny687.out]; exact HP22.1); clear HP22; replace HO_5 := Fa.mk (Kd.R_after (v := (.slice (some ⟨go20, 0, none⟩) x6_2.length co21)) (v1 := (.slice (some ⟨go20, 0, none⟩) x6_2.length co21)) (ok := (fun _ => True)) (by (with_reducible repeat (first | apply Kd.R_alloc | apply Kd.R_drewN | apply Kd.R_drew)); exact Kd.R_mono HO_5.out (fun _ hk => ⟨trivial, hk⟩)) hg (.inl rfl)); replace BK673 := Fa.mk (blk_grown (bU BK673) hg (Kd.R_ne HO_6.out BK673.out (by decide))); replace HO_6 := Fa.mk hp_; replace HB := Fa.mk ((by rw [hw]; exact below_set (HB.out) GB20.out : Below w.heap.size w w23)); clear hg hw hp_))
                        go_roundg k2
                        case measure => have := HK1.out; have := HK2.out; omega
                        case rel => exact ⟨(x5_1), (y687), (wrap64 (x7_1 + 1)), rfl, H', ⟨by have := HK1.out; have := HK2.out; omega⟩, ⟨by (with_reducible repeat (first | apply Kd.R_alloc | apply Kd.R_drewN | apply Kd.R_drew)); exact Kd.R_mono HO_5.out (fun _ hk => hk.2)⟩, ⟨rU HO_6⟩, ⟨bU BK673⟩, ⟨BU HB⟩⟩
                      · rw [if_neg c19] at H
                        exact absurd H (by simp)
                    · rw [if_neg c18] at H
                      exact absurd H (by simp)
                  · rw [if_neg c17] at H
                    have c17b0 := decide_eq_false c17
                    clear c17
                    have H' := Fa.mk H
                    clear H
                    obtain ⟨Ao24, co24, eo24⟩ := Kd.R_slice HO_6.out
                    subst eo24
                    have p680 : 0 ≤ (x7_1 : Int) := of_decide_eq_true (by assumption)
                    have q680 : x7_1 < (x5_1.length : Int) := of_decide_eq_true (by assumption)
                    obtain ⟨ad680, e680, hx680_0⟩ := Kd.at_int (Kd.R_reads' HO_5.out).2.2 x7_1 p680 q680
                    cases e680
                    replace p680 := eq_true p680
                    replace q680 := eq_true q680
                    have p684 : 0 ≤ (x7_1 : Int) := of_decide_eq_true (by assumption)
                    have q684 : x7_1 < (x5_1.length : Int) := of_decide_eq_true (by assumption)
                    obtain ⟨ad684, e684, hx684_0⟩ := Kd.at_int (Kd.R_reads' HO_5.out).2.2 x7_1 p684 q684
                    obtain rfl : ad680 = ad684 := (by injection e684)
                    replace p684 := eq_true p684
                    replace q684 := eq_true q684
                    go_wp2
                    go_roundg k2
                    case measure => have := HK1.out; have := HK2.out; omega
                    case rel => exact ⟨(x5_1), (x6_2), (wrap64 (x7_1 + 1)), rfl, H', ⟨by have := HK1.out; have := HK2.out; omega⟩, ⟨rU HO_5⟩, ⟨rU HO_6⟩, ⟨bU BK673⟩, ⟨BU HB⟩⟩
              · rw [if_neg c12] at H
                exact absurd H (by simp)
            · rw [if_neg c11] at H
              exact absurd H (by simp)
      · rw [if_neg c9] at H
        have c9b0 := decide_eq_false c9
        clear c9
        obtain rfl := Option.some.inj H
        obtain ⟨Ao25, co25, eo25⟩ := Kd.R_slice HO_5.out
        subst eo25
        go_wp2
        go_ret
        exact ⟨_, rfl, by (with_reducible repeat (first | apply Kd.R_alloc | apply Kd.R_drewN | apply Kd.R_drew)); exact Kd.R_mono HO_6.out (fun _ hk => trivial), BU HB⟩

/-! ### spec_LevelsFrom: function 16 -/
def spec_LevelsFrom.f (k : Nat) (a0_0 : Int) (l0_1 : List Int) (a1 : Int) : Option (List Int × Int) := (spec_l02Code.f k a0_0 l0_1 (([a1] : List Int))).bind fun t692 => (if t692 = 0 then ((spec_l02Levels.f k a0_0 l0_1 a1).bind fun t693 => (some (t693, 0))) else (some (([] : List Int), t692)))
set_option maxHeartbeats 8000000 in
set_option maxRecDepth 100000 in
theorem spec_LevelsFrom.calls (k : Nat) (a0_0 : Int) (A0_1 : Option Addr) (c0_1 : Nat) (l0_1 : List Int) (a1 : Int) (r1 : List Int) (r2 : Int) (w : World) (hr0_1 : Kd.C (Kd.int .i64) w A0_1 l0_1.length l0_1) (hc0_1 : l0_1.length ≤ c0_1) (h : spec_LevelsFrom.f k a0_0 l0_1 a1 = some (r1, r2)) :
    Calls Tryd.prog 16 #[.agg #[.int .i64 a0_0, .slice A0_1 l0_1.length c0_1], .int .i64 a1] w fun e w' => ∃ v0_ : Value, e = .returned (.tuple #[v0_, .int .i64 r2]) ∧ Kd.R (Kd.int .i64) 2 w' w.heap.size (fun _ => True) v0_ r1 ∧ Below w.heap.size w w' := by
  have hu26 := Tryd.underlying26
  have HR0_1 := Fa.mk hr0_1
  have HC0_1 := Fa.mk hc0_1
  clear hr0_1 hc0_1
  have HB := Fa.mk (Below.refl w.heap.size w)
  unfold spec_LevelsFrom.f at h; have H := h
  clear h
  obtain ⟨y689, hy689⟩ : ∃ y_ : List Int, y_ = (([a1] : List Int)) := ⟨_, rfl⟩
  first | replace H := bs_ hy689 H | rw [← hy689] at H
  have Ny689 := Fa.mk hy689
  clear hy689
  replace H := Option.bind_eq_some_iff.mp H
  obtain ⟨t692, A30, H⟩ := H
  replace H : (if t692 = 0 then ((spec_l02Levels.f k a0_0 l0_1 a1).bind fun t693 => (some (t693, 0))) else (some (([] : List Int), t692))) = some (r1, r2) := H
  have A3 := Fa.mk A30
  clear A30
  by_cases c4 : t692 = 0
  · rw [if_pos c4] at H
    have c4b0 := beq_iff_eq.mpr c4
    have c4b1 := bne_eq_false_iff_eq.mpr c4
    clear c4
    replace H := Option.bind_eq_some_iff.mp H
    obtain ⟨t693, A50, H⟩ := H
    replace H : (some (t693, 0)) = some (r1, r2) := H
    have A5 := Fa.mk A50
    clear A50
    simp only [Option.some.injEq, Prod.mk.injEq] at H
    obtain ⟨rfl, rfl⟩ := H
    go_enter Tryd.func16, Tryd.ntmps16
    go_wp2_with (first | ((with_reducible refine gd 2 rfl ?_); refine box_event ?hg (N := 2) ?hd (cs := #[.int .i64 a0_0, .slice A0_1 l0_1.length c0_1]) (t := 26) ?hr ?_; (case hd => rfl); (case hg => rfl); (case hr => first | (go_simp; done) | (go_simp; rfl)); intro gb688 hg w6 hbox hb; have BK688 := Fa.mk hbox; have GW688 := Fa.mk (bsz hg (BU HB) : w.heap.size ≤ gb688); have GE688 := GW688; replace HB := Fa.mk (below_step (BU HB) hb); clear hb hbox hg; obtain ⟨hcz7_0, hcz7_1, hfz7_0, hfz7_1⟩ := cz2 BK688.out) | ((with_reducible refine gd 9 rfl ?_); refine Kd.R_lit (Kd.int .i64) _ 2 ?hg (N := 9) ?hd (xs := ([a1] : List Int)) (inner := [.int .i64 a1]) (ok := fun _ => True) (okp := fun _ => True) ?hr ?hp (fun _ hk => hk) trivial (Below.refl _ _) (Nat.le_refl _) (by simp) ?_; (case hd => rfl); (case hg => rfl); (case hr => first | (go_simp; done) | (go_simp; rfl)); (case hp => exact (Reps.one (show Kd.M (Kd.int .i64) _ _ _ a1 [.int .i64 a1] from rfl) (Reps.none _ _))); intro v690 w8 ho9 hb hg_ hnew_; clear hg_ hnew_; (first | rw [← Ny689.out] at ho9 | (simp only [Int.reduceToNat] at ho9; rw [← Ny689.out] at ho9)); have HO691 := Fa.mk (Kd.R_lower ho9 (below_size (BU HB))); replace BK688 := Fa.mk (blk_below (bU BK688) hb); replace HB := Fa.mk (below_step (BU HB) hb); clear hb ho9; obtain ⟨Ao10, co10, eo10⟩ := Kd.R_slice HO691.out; subst eo10) | ((with_reducible refine gc 38 rfl ?_); refine gL 10 Tryd.func38 #[.agg #[.int .i64 a0_0, .slice A0_1 l0_1.length c0_1], .slice Ao10 y689.length co10] rfl (by first | rfl | (simp only [mA, mC, mN]; rfl)) ?_; (with_reducible refine (spec_l02Code.calls k a0_0 _ _ l0_1 _ _ y689 t692 _ (Kd.C_below HR0_1.out (BU HB)) HC0_1.out (rC HO691) ((Kd.R_reads' HO691.out).2.1) A3.out).mono ?_); rintro e w11 ⟨rfl, hb⟩; refine ⟨_, rfl, ?_⟩; replace HO691 := Fa.mk (Kd.R_below (rU HO691) hb); replace BK688 := Fa.mk (blk_below (bU BK688) hb); replace HB := Fa.mk (below_step (BU HB) hb); obtain ⟨hcz12_0, hcz12_1, hfz12_0, hfz12_1⟩ := cz2 BK688.out) | ((with_reducible refine gc 42 rfl ?_); refine gL 16 Tryd.func42 #[.agg #[.int .i64 a0_0, .slice A0_1 l0_1.length c0_1], .int .i64 a1] rfl (by first | rfl | (simp only [mA, mC, mN]; rfl)) ?_; (with_reducible refine (spec_l02Levels.calls k a0_0 _ _ l0_1 a1 t693 _ (Kd.C_below HR0_1.out (BU HB)) HC0_1.out A5.out).mono ?_); rintro e w13 ⟨v694, rfl, ho0, hb⟩; refine ⟨_, rfl, ?_⟩; have HO695 := Fa.mk (Kd.R_lower (Kd.R_new' ho0 (Kd.R_lt (rU HO691))) (below_size (BU HB))); replace HO691 := Fa.mk (Kd.R_elder' (rU HO691) (Kd.R_base ho0) hb); replace BK688 := Fa.mk (blk_below (bU BK688) hb); replace HB := Fa.mk (below_step (BU HB) hb)))
    go_ret2
    exact ⟨_, rfl, by (with_reducible repeat (first | apply Kd.R_alloc | apply Kd.R_drewN | apply Kd.R_drew)); exact Kd.R_mono HO695.out (fun _ hk => trivial), BU HB⟩
  · rw [if_neg c4] at H
    have c4b0 := beq_eq_false_iff_ne.mpr c4
    have c4b1 := bne_iff_ne.mpr c4
    simp only [Option.some.injEq, Prod.mk.injEq] at H
    obtain ⟨rfl, rfl⟩ := H
    go_enter Tryd.func16, Tryd.ntmps16
    go_wp2_with (first | ((with_reducible refine gd 2 rfl ?_); refine box_event ?hg (N := 2) ?hd (cs := #[.int .i64 a0_0, .slice A0_1 l0_1.length c0_1]) (t := 26) ?hr ?_; (case hd => rfl); (case hg => rfl); (case hr => first | (go_simp; done) | (go_simp; rfl)); intro gb688 hg w14 hbox hb; have BK688 := Fa.mk hbox; have GW688 := Fa.mk (bsz hg (BU HB) : w.heap.size ≤ gb688); have GE688 := GW688; replace HB := Fa.mk (below_step (BU HB) hb); clear hb hbox hg; obtain ⟨hcz15_0, hcz15_1, hfz15_0, hfz15_1⟩ := cz2 BK688.out) | ((with_reducible refine gd 9 rfl ?_); refine Kd.R_lit (Kd.int .i64) _ 2 ?hg (N := 9) ?hd (xs := ([a1] : List Int)) (inner := [.int .i64 a1]) (ok := fun _ => True) (okp := fun _ => True) ?hr ?hp (fun _ hk => hk) trivial (Below.refl _ _) (Nat.le_refl _) (by simp) ?_; (case hd => rfl); (case hg => rfl); (case hr => first | (go_simp; done) | (go_simp; rfl)); (case hp => exact (Reps.one (show Kd.M (Kd.int .i64) _ _ _ a1 [.int .i64 a1] from rfl) (Reps.none _ _))); intro v690 w16 ho17 hb hg_ hnew_; clear hg_ hnew_; (first | rw [← Ny689.out] at ho17 | (simp only [Int.reduceToNat] at ho17; rw [← Ny689.out] at ho17)); have HO691 := Fa.mk (Kd.R_lower ho17 (below_size (BU HB))); replace BK688 := Fa.mk (blk_below (bU BK688) hb); replace HB := Fa.mk (below_step (BU HB) hb); clear hb ho17; obtain ⟨Ao18, co18, eo18⟩ := Kd.R_slice HO691.out; subst eo18) | ((with_reducible refine gc 38 rfl ?_); refine gL 10 Tryd.func38 #[.agg #[.int .i64 a0_0, .slice A0_1 l0_1.length c0_1], .slice Ao18 y689.length co18] rfl (by first | rfl | (simp only [mA, mC, mN]; rfl)) ?_; (with_reducible refine (spec_l02Code.calls k a0_0 _ _ l0_1 _ _ y689 t692 _ (Kd.C_below HR0_1.out (BU HB)) HC0_1.out (rC HO691) ((Kd.R_reads' HO691.out).2.1) A3.out).mono ?_); rintro e w19 ⟨rfl, hb⟩; refine ⟨_, rfl, ?_⟩; replace HO691 := Fa.mk (Kd.R_below (rU HO691) hb); replace BK688 := Fa.mk (blk_below (bU BK688) hb); replace HB := Fa.mk (below_step (BU HB) hb)))
    go_ret2
    exact ⟨_, rfl, by first | exact Kd.R_nil _ _ _ _ _ | exact Kd.N_nil _ _ _ _ _ | exact Kd.V_nil _ _ _ _ _ | exact Kd.Q_nil _ _ _ _ _ | exact Kd.S_nil _ _ _ _ _, BU HB⟩

/-! ### spec_DrawDiameterOf: function 17 -/
def spec_DrawDiameterOf.f (k : Nat) (l0 : List Int) : Option (Int × List Int) := (spec_l01From.f k l0).bind fun bt697 => ((spec_l02Draw.f k bt697.1 bt697.2.1 bt697.2.2).bind fun bt701 => (some (bt701.1, bt701.2.1)))
set_option maxHeartbeats 8000000 in
set_option maxRecDepth 100000 in
theorem spec_DrawDiameterOf.calls (k : Nat) (A0 : Option Addr) (c0 : Nat) (l0 : List Int) (r1 : Int) (r2 : List Int) (w : World) (hr0 : Kd.C (Kd.int .u8) w A0 l0.length l0) (hc0 : l0.length ≤ c0) (h : spec_DrawDiameterOf.f k l0 = some (r1, r2)) :
    Calls Tryd.prog 17 #[.slice A0 l0.length c0] w fun e w' => ∃ v1_ : Value, e = .returned (.agg #[.int .i64 r1, v1_]) ∧ Kd.R (Kd.int .i64) 2 w' w.heap.size (fun _ => True) v1_ r2 ∧ Below w.heap.size w w' := by
  have hu26 := Tryd.underlying26
  have HR0 := Fa.mk hr0
  have HC0 := Fa.mk hc0
  clear hr0 hc0
  have HB := Fa.mk (Below.refl w.heap.size w)
  unfold spec_DrawDiameterOf.f at h; have H := h
  clear h
  replace H := Option.bind_eq_some_iff.mp H
  obtain ⟨⟨t697, t698, t699⟩, A20, H⟩ := H
  dsimp only at H
  have A2 := Fa.mk A20
  clear A20
  replace H := Option.bind_eq_some_iff.mp H
  obtain ⟨⟨t701, t702, t705, t706⟩, A30, H⟩ := H
  dsimp only at H
  have A3 := Fa.mk A30
  clear A30
  simp only [Option.some.injEq, Prod.mk.injEq] at H
  obtain ⟨rfl, rfl⟩ := H
  go_enter Tryd.func17, Tryd.ntmps17
  go_wp2_with (first | ((with_reducible refine gd 2 rfl ?_); refine box_event ?hg (N := 2) ?hd (cs := #[.int .i64 0, .slice none 0 0]) (t := 26) ?hr ?_; (case hd => rfl); (case hg => rfl); (case hr => first | (go_simp; done) | (go_simp; rfl)); intro gb696 hg w4 hbox hb; have BK696 := Fa.mk hbox; have GW696 := Fa.mk (bsz hg (BU HB) : w.heap.size ≤ gb696); have GE696 := GW696; replace HB := Fa.mk (below_step (BU HB) hb); clear hb hbox hg) | ((with_reducible refine gc 44 rfl ?_); refine gL 4 Tryd.func44 #[.slice A0 l0.length c0] rfl (by first | rfl | (simp only [mA, mC, mN]; rfl)) ?_; (with_reducible refine (spec_l01From.calls k _ _ l0 t697 t698 t699 w _ (BU HB) HR0.out HC0.out A2.out).mono ?_); rintro e w5 ⟨g700, rfl, hi, hb, hb2⟩; refine ⟨_, rfl, ?_⟩; have HI700 := Fa.mk hi; have NB700_696 := Fa.mk (IsS92.ne_blk hi (blk_below (bU BK696) hb2) (by decide)); have NB696_700 := Fa.mk (Ne.symm (IsS92.ne_blk hi (blk_below (bU BK696) hb2) (by decide))); replace BK696 := Fa.mk (blk_below (bU BK696) hb2); replace HB := Fa.mk hb) | ((with_reducible refine gc 43 rfl ?_); refine gL 5 Tryd.func43 #[.pointer (some ⟨g700, 0, none⟩)] rfl (by first | rfl | (simp only [mA, mC, mN]; rfl)) ?_; (with_reducible refine (spec_l02Draw.calls k g700 t697 t698 t699 t701 t702 t705 t706 w _ oo (BU HB) A3.out).mono ?_); rintro e w6 ⟨v703, rfl, ho0, hi, hb, hk⟩; refine ⟨_, rfl, ?_⟩; replace BK696 := Fa.mk (KeepBut.blk hk (bU BK696) NB696_700.out (by simp)); have HO704 := Fa.mk (Kd.R_lower ho0 (below_size (BU HB))); replace HI700 := Fa.mk hi; replace HB := Fa.mk hb; have hnb7 := NB696_700.out; have hnc7 := NB700_696.out; obtain ⟨hcz8_0, hcz8_1, hfz8_0, hfz8_1⟩ := cz2 BK696.out; obtain ⟨Ao9, co9, eo9⟩ := Kd.R_slice HO704.out; subst eo9))
  refine bodyPost_ret (results_cell_row rfl _ _ gb696 26 #[.int .i64 t701, .slice Ao9 t702.length co9] (0, 0) _ rfl oo Tryd.underlying26 rfl (by kernel_rfl)) rfl ?_
  exact ⟨_, rfl, by (with_reducible repeat (first | apply Kd.R_alloc | apply Kd.R_drewN | apply Kd.R_drew)); exact Kd.R_mono (Kd.R_far (p := ⟨gb696, 1, none⟩) (Kd.R_far (p := ⟨gb696, 0, none⟩) (Kd.R_types HO704.out BK696.out (by decide)) (fun _ hk => hk.2) (.int .i64 t701)) (fun _ hk => hk.2) (.slice Ao9 t702.length co9)) (fun _ hk => trivial), BU HB⟩

/-! ### impl_Graph_part: function 108 -/
mutual
def impl_Graph_part.l0 : Nat → Int → Int → Int → List Int → Option (Int)
  | 0, _, _, _, _ => none
  | k + 1, x5, x6, x708000, x708001 => if x6 = 0 then (some x5) else ((impl_list.f k x6).bind fun t708 => (impl_Graph_part.l1 k x5 0 t708 (t708.length : Int) 0 x708000 x708001))
def impl_Graph_part.l1 : Nat → Int → Int → List Int → Int → Int → Int → List Int → Option (Int)
  | 0, _, _, _, _, _, _, _ => none
  | k + 1, x5, x7, x16, x17, x18, x708000, x708001 => if x18 < x17 then (if 0 ≤ x18 then (if x18 < (x16.length : Int) then (if 0 ≤ (rd x16 x18) then (if (rd x16 x18) < (x708001.length : Int) then (impl_Graph_part.l1 k x5 (Go.bits .or .i64 x7 (rd x708001 (rd x16 x18))) x16 x17 (wrap64 (x18 + 1)) x708000 x708001) else (none)) else (none)) else (none)) else (none)) else (impl_Graph_part.l0 k (Go.bits .or .i64 x5 x7) (Go.bits .andNot .i64 x7 x5) x708000 x708001)
end
def impl_Graph_part.f (k : Nat) (a0_0 : Int) (l0_1 : List Int) (a1 : Int) : Option (Int) := if 0 ≤ a1 then (impl_Graph_part.l0 k (shl .i64 1 a1) (shl .i64 1 a1) a0_0 l0_1) else (none)
set_option maxHeartbeats 8000000 in
set_option maxRecDepth 100000 in
theorem impl_Graph_part.calls (k : Nat) (a0_0 : Int) (A0_1 : Option Addr) (c0_1 : Nat) (l0_1 : List Int) (a1 : Int) (r : Int) (w : World) (hr0_1 : Kd.C (Kd.int .i64) w A0_1 l0_1.length l0_1) (hc0_1 : l0_1.length ≤ c0_1) (ht : Tab w) (h : impl_Graph_part.f k a0_0 l0_1 a1 = some r) :
    Calls Tryd.prog 108 #[.agg #[.int .i64 a0_0, .slice A0_1 l0_1.length c0_1], .int .i64 a1] w fun e w' => e = .returned (.int .i64 r) ∧ Below w.heap.size w w' := by
  have hu26 := Tryd.underlying26
  have HR0_1 := Fa.mk hr0_1
  have HC0_1 := Fa.mk hc0_1
  clear hr0_1 hc0_1
  have HB := Fa.mk (Below.refl w.heap.size w)
  have HT := Fa.mk ht
  clear ht
  have H : (if 0 ≤ a1 then (impl_Graph_part.l0 k (shl .i64 1 a1) (shl .i64 1 a1) a0_0 l0_1) else (none)) = some r := h
  clear h
  by_cases c3 : 0 ≤ a1
  · rw [if_pos c3] at H
    have c3b0 := eq_true c3
    have c3b1 := decide_eq_true c3
    clear c3
    obtain ⟨ji4, hji4⟩ : ∃ j_ : Int, (shl .i64 1 a1) = j_ := ⟨_, rfl⟩
    rw [hji4] at H
    have hji4_ : (IntKind.i64.wrap (1 * 2 ^ min a1.toNat 64)) = ji4 := hji4
    have hji4z : a1 ≤ 64 → (IntKind.i64.wrap (1 * 2 ^ a1.toNat)) = ji4 := shl_small hji4
    have hji4u : (IntKind.i64.wrap (2 ^ min a1.toNat 64)) = ji4 := by have h_ := hji4_; rw [Int.one_mul] at h_; exact h_
    have hji4v : a1 ≤ 64 → (IntKind.i64.wrap (2 ^ a1.toNat)) = ji4 := fun hle_ => by have h_ := hji4z hle_; rw [Int.one_mul] at h_; exact h_
    have hji4y : (wrap64 (1 * 2 ^ min a1.toNat 64)) = ji4 := (i64_w _).symm.trans hji4_
    have hji4x : a1 ≤ 64 → (wrap64 (1 * 2 ^ a1.toNat)) = ji4 := fun h_ => (i64_w _).symm.trans (hji4z h_)
    have H' := Fa.mk H
    clear H
    go_enter Tryd.func108, Tryd.ntmps108
    go_wp2_with (first | ((with_reducible refine gd 2 rfl ?_); refine box_event ?hg (N := 2) ?hd (cs := #[.int .i64 a0_0, .slice A0_1 l0_1.length c0_1]) (t := 26) ?hr ?_; (case hd => rfl); (case hg => rfl); (case hr => first | (go_simp; done) | (go_simp; rfl)); intro gb707 hg w5 hbox hb; have BK707 := Fa.mk hbox; have GW707 := Fa.mk (bsz hg (BU HB) : w.heap.size ≤ gb707); have GE707 := GW707; replace HB := Fa.mk (below_step (BU HB) hb); clear hb hbox hg))
    go_loopg [5, 6] k (fun kq v5 v6 w' => ∃ (x5_1 : Int) (x6_1 : Int), v5 = .int .i64 x5_1 ∧ v6 = .int .i64 x6_1 ∧ Fa (impl_Graph_part.l0 kq x5_1 x6_1 a0_0 l0_1 = some r) ∧ Fa (kq ≤ k) ∧ Fa (w'.heap[gb707]? = some (.cells #[.int .i64 a0_0, (.slice A0_1 l0_1.length c0_1)] 26 (0, 0))) ∧ Fa (Below w.heap.size w w'))
    case atStart => exact ⟨(ji4), (ji4), (by first | rfl | (simp; done) | (simp only [← hji4] <;> (first | rfl | simp)) | (simp [*]; done)), (by first | rfl | (simp; done) | (simp only [← hji4] <;> (first | rfl | simp)) | (simp [*]; done)), H', ⟨Nat.le_refl _⟩, ⟨bU BK707⟩, ⟨BU HB⟩⟩
    case round =>
      clear H'
      obtain ⟨x5_1, x6_1, rfl, rfl, HA, HK1, BK707, HB⟩ := hrel
      cases gk with
      | zero => exact absurd HA.out (by simp [impl_Graph_part.l0])
      | succ k1 =>
        have H := HA.out
        clear HA
        simp only [impl_Graph_part.l0] at H
        by_cases c6 : x6_1 = 0
        · rw [if_pos c6] at H
          have c6b0 := beq_iff_eq.mpr c6
          have c6b1 := bne_eq_false_iff_eq.mpr c6
          clear c6
          obtain rfl := Option.some.inj H
          go_wp2
          go_ret
          exact ⟨rfl, BU HB⟩
        · rw [if_neg c6] at H
          have c6b0 := beq_eq_false_iff_ne.mpr c6
          have c6b1 := bne_iff_ne.mpr c6
          replace H := Option.bind_eq_some_iff.mp H
          obtain ⟨t708, A70, H⟩ := H
          replace H : (impl_Graph_part.l1 k1 x5_1 0 t708 (t708.length : Int) 0 a0_0 l0_1) = some r := H
          have A7 := Fa.mk A70
          clear A70
          have H' := Fa.mk H
          clear H
          go_wp2_with (first | ((with_reducible refine gc 74 rfl ?_); refine gL 16 Tryd.func74 #[.int .i64 x6_1] rfl (by first | rfl | (simp only [mA, mC, mN]; rfl)) ?_; (with_reducible refine (impl_list.calls k1 x6_1 t708 _ (Tab.below HT.out (BU HB)) A7.out).mono ?_); rintro e w8 ⟨v709, rfl, ho0, hb⟩; refine ⟨_, rfl, ?_⟩; have HO710 := Fa.mk (Kd.R_lower ho0 (below_size (BU HB))); replace BK707 := Fa.mk (blk_below (bU BK707) hb); replace HB := Fa.mk (below_step (BU HB) hb); obtain ⟨Ao9, co9, eo9⟩ := Kd.R_slice HO710.out; subst eo9))
          go_loopg [7, 18] k1 (fun kq v7 v18 w' => ∃ (x7_2 : Int) (x18_2 : Int), v7 = .int .i64 x7_2 ∧ v18 = .int .i64 x18_2 ∧ Fa (impl_Graph_part.l1 kq x5_1 x7_2 t708 (t708.length : Int) x18_2 a0_0 l0_1 = some r) ∧ Fa (kq ≤ k1) ∧ Fa (Kd.R (Kd.int .i64) 2 w' w.heap.size (fun _ => True) (.slice Ao9 t708.length co9) t708) ∧ Fa (w'.heap[gb707]? = some (.cells #[.int .i64 a0_0, (.slice A0_1 l0_1.length c0_1)] 26 (0, 0))) ∧ Fa (Below w.heap.size w w'))
          case atStart => exact ⟨(0), (0), rfl, rfl, H', ⟨Nat.le_refl _⟩, ⟨rU HO710⟩, ⟨bU BK707⟩, ⟨BU HB⟩⟩
          case round =>
            clear H'
            obtain ⟨x7_2, x18_2, rfl, rfl, HA, HK2, HO_16, BK707, HB⟩ := hrel
            cases gk with
            | zero => exact absurd HA.out (by simp [impl_Graph_part.l1])
            | succ k2 =>
              have H := HA.out
              clear HA
              simp only [impl_Graph_part.l1] at H
              by_cases c10 : x18_2 < (t708.length : Int)
              · rw [if_pos c10] at H
                have c10b0 := decide_eq_true c10
                clear c10
                by_cases c11 : 0 ≤ x18_2
                · rw [if_pos c11] at H
                  have c11b0 := decide_eq_true c11
                  clear c11
                  by_cases c12 : x18_2 < (t708.length : Int)
                  · rw [if_pos c12] at H
                    have c12b0 := decide_eq_true c12
                    clear c12
                    by_cases c13 : 0 ≤ (rd t708 x18_2)
                    · rw [if_pos c13] at H
                      have c13b0 := decide_eq_true c13
                      clear c13
                      by_cases c14 : (rd t708 x18_2) < (l0_1.length : Int)
                      · rw [if_pos c14] at H
                        have c14b0 := decide_eq_true c14
                        clear c14
                        have H' := Fa.mk H
                        clear H
                        have p711 : 0 ≤ (x18_2 : Int) := of_decide_eq_true (by assumption)
                        have q711 : x18_2 < (t708.length : Int) := of_decide_eq_true (by assumption)
                        obtain ⟨ad711, e711, hx711_0⟩ := Kd.at_int (Kd.R_reads' HO_16.out).2.2 x18_2 p711 q711
                        cases e711
                        replace p711 := eq_true p711
                        replace q711 := eq_true q711
                        obtain ⟨hcz15_0, hcz15_1, hfz15_0, hfz15_1⟩ := cz2 BK707.out
                        have p712 : 0 ≤ ((rd t708 x18_2) : Int) := of_decide_eq_true (by assumption)
                        have q712 : (rd t708 x18_2) < (l0_1.length : Int) := of_decide_eq_true (by assumption)
                        obtain ⟨ad712, e712, hx712_0⟩ := Kd.at_int HR0_1.out (rd t708 x18_2) p712 q712
                        cases e712
                        replace hx712_0 := (HB.out.cell (World.block_lt_of_cell? w _ hx712_0)).trans hx712_0
                        replace p712 := eq_true p712
                        replace q712 := eq_true q712
                        go_wp2
                        go_roundg k2
                        case measure => have := HK1.out; have := HK2.out; omega
                        case rel => exact ⟨(Go.bits .or .i64 x7_2 (rd l0_1 (rd t708 x18_2))), (wrap64 (x18_2 + 1)), rfl, rfl, H', ⟨by have := HK1.out; have := HK2.out; omega⟩, ⟨rU HO_16⟩, ⟨bU BK707⟩, ⟨BU HB⟩⟩
                      · rw [if_neg c14] at H
                        exact absurd H (by simp)
                    · rw [if_neg c13] at H
                      exact absurd H (by simp)
                  · rw [if_neg c12] at H
                    exact absurd H (by simp)
                · rw [if_neg c11] at H
                  exact absurd H (by simp)
              · rw [if_neg c10] at H
                have c10b0 := decide_eq_false c10
                clear c10
                have H' := Fa.mk H
                clear H
                go_wp2
                go_roundg k2
                case measure => have := HK1.out; have := HK2.out; omega
                case rel => exact ⟨(Go.bits .or .i64 x5_1 x7_2), (Go.bits .andNot .i64 x7_2 x5_1), rfl, rfl, H', ⟨by have := HK1.out; have := HK2.out; omega⟩, ⟨bU BK707⟩, ⟨BU HB⟩⟩
  · rw [if_neg c3] at H
    exact absurd H (by simp)

/-! ### impl_all: function 109 -/
def impl_all.f (a0 : Int) : Option (Int) := if 0 ≤ a0 then (some (wrap64 ((shl .i64 1 a0) - 1))) else (none)
set_option maxHeartbeats 8000000 in
set_option maxRecDepth 100000 in
theorem impl_all.calls (a0 : Int) (r : Int) (w : World) (h : impl_all.f a0 = some r) :
    Calls Tryd.prog 109 #[.int .i64 a0] w fun e w' => e = .returned (.int .i64 r) ∧ Drawn0 w w' := by
  have H : (if 0 ≤ a0 then (some (wrap64 ((shl .i64 1 a0) - 1))) else (none)) = some r := h
  clear h
  by_cases c2 : 0 ≤ a0
  · rw [if_pos c2] at H
    have c2b0 := eq_true c2
    have c2b1 := decide_eq_true c2
    clear c2
    obtain ⟨ji3, hji3⟩ : ∃ j_ : Int, (shl .i64 1 a0) = j_ := ⟨_, rfl⟩
    rw [hji3] at H
    have hji3_ : (IntKind.i64.wrap (1 * 2 ^ min a0.toNat 64)) = ji3 := hji3
    have hji3z : a0 ≤ 64 → (IntKind.i64.wrap (1 * 2 ^ a0.toNat)) = ji3 := shl_small hji3
    have hji3u : (IntKind.i64.wrap (2 ^ min a0.toNat 64)) = ji3 := by have h_ := hji3_; rw [Int.one_mul] at h_; exact h_
    have hji3v : a0 ≤ 64 → (IntKind.i64.wrap (2 ^ a0.toNat)) = ji3 := fun hle_ => by have h_ := hji3z hle_; rw [Int.one_mul] at h_; exact h_
    have hji3y : (wrap64 (1 * 2 ^ min a0.toNat 64)) = ji3 := (i64_w _).symm.trans hji3_
    have hji3x : a0 ≤ 64 → (wrap64 (1 * 2 ^ a0.toNat)) = ji3 := fun h_ => (i64_w _).symm.trans (hji3z h_)
    obtain rfl := Option.some.inj H
    go_enter Tryd.func109, Tryd.ntmps109
    go_wp2
    go_ret
    exact ⟨by first | rfl | (simp; done) | (simp only [← hji3] <;> (first | rfl | simp)) | (simp [*]; done), by repeat (first | exact Drawn0.refl _ | apply Drawn0.step)⟩
  · rw [if_neg c2] at H
    exact absurd H (by simp)

end Go.Proofs.YtockngphfpedkaaDoor.XFnDistances
