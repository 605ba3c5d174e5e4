-- Written by this project's own program (mprint.py) by means of the kit's printer: with contracts of its own for the functions that the printer leaves out.
import Derived.Test.YtockngphfpedkaaDoorXFnDistancesx0
import Derived.Test.YtockngphfpedkaaDoorXFnDistancesx1
import Derived.Test.YtockngphfpedkaaDoorXFnDistancesx6
import Derived.Test.YtockngphfpedkaaDoorXFnDistancesx10
import Derived.Test.YtockngphfpedkaaDoorXFnDistancesx11
import Derived.Test.YtockngphfpedkaaDoorXFnDistancesx12
import Derived.Test.YtockngphfpedkaaDoorXFnDistancesx13
import Derived.Test.YtockngphfpedkaaDoorXFnDistancesx14
import Derived.Test.YtockngphfpedkaaDoorXFnDistancesx15
namespace Go.Proofs.YtockngphfpedkaaDoor.XFnDistances
open Go.RowKit Go.Proofs.YtockngphfpedkaaDoorW.PrintWords Go.Proofs.YtockngphfpedkaaDoorW.PrintLast Go.Proofs.YtockngphfpedkaaDoorW.PrintMore
attribute [local go_sem] max2_int min2_int max_two min_two max_three min_three max_four min_four   -- for this text's walks alone
set_option linter.unusedVariables false
set_option linter.unusedSimpArgs false

/-! ### laws_likeInts: function 11 -/
def laws_likeInts.l0 : Nat → List Int → List Int → Int → Option (Bool)
  | 0, _, _, _ => none
  | k + 1, x0, x1, x5 => if x5 < (x0.length : Int) then (if 0 ≤ x5 then (if x5 < (x1.length : Int) then (if (rd x0 x5) = (rd x1 x5) then (laws_likeInts.l0 k x0 x1 (wrap64 (x5 + 1))) else (some false)) else (none)) else (none)) else (some true)
def laws_likeInts.f (k : Nat) (l0 : List Int) (l1 : List Int) : Option (Bool) := if (l0.length : Int) = (l1.length : Int) then (laws_likeInts.l0 k l0 l1 0) else (some false)
set_option maxHeartbeats 8000000 in
set_option maxRecDepth 100000 in
theorem laws_likeInts.calls (k : Nat) (A0 : Option Addr) (c0 : Nat) (l0 : List Int) (A1 : Option Addr) (c1 : Nat) (l1 : List Int) (r : Bool) (w : World) (hr0 : Kd.C (Kd.int .i64) w A0 l0.length l0) (hc0 : l0.length ≤ c0) (hr1 : Kd.C (Kd.int .i64) w A1 l1.length l1) (hc1 : l1.length ≤ c1) (h : laws_likeInts.f k l0 l1 = some r) :
    Calls Tryd.prog 11 #[.slice A0 l0.length c0, .slice A1 l1.length c1] w fun e w' => e = .returned (.bool r) ∧ Drawn0 w w' := by
  have HR0 := Fa.mk hr0
  have HC0 := Fa.mk hc0
  clear hr0 hc0
  have HR1 := Fa.mk hr1
  have HC1 := Fa.mk hc1
  clear hr1 hc1
  have H : (if (l0.length : Int) = (l1.length : Int) then (laws_likeInts.l0 k l0 l1 0) else (some false)) = some r := h
  clear h
  by_cases c3 : (l0.length : Int) = (l1.length : Int)
  · rw [if_pos c3] at H
    have c3b0 := beq_iff_eq.mpr c3
    have c3b1 := bne_eq_false_iff_eq.mpr c3
    have c3b2 : (l0.length == l1.length) = true := by first | simpa using c3 | (simp at c3 ⊢; omega)
    clear c3
    have H' := Fa.mk H
    clear H
    go_enter Tryd.func11, Tryd.ntmps11
    go_wp2
    repeat (go_quiet (fail); try go_wp2)
    go_loopg [5] k (fun kq v5 w' => ∃ (x5_1 : Int), v5 = .int .i64 x5_1 ∧ Fa (laws_likeInts.l0 kq l0 l1 x5_1 = some r) ∧ Fa (kq ≤ k) ∧ Drawn0 w w')
    case atStart => exact ⟨(0), rfl, H', ⟨Nat.le_refl _⟩, by repeat (first | exact Drawn0.refl _ | apply Drawn0.step)⟩
    case round =>
      clear H'
      obtain ⟨x5_1, rfl, HA, HK1, ⟨m1, rfl⟩⟩ := hrel
      cases gk with
      | zero => exact absurd HA.out (by simp [laws_likeInts.l0])
      | succ k1 =>
        have H := HA.out
        clear HA
        simp only [laws_likeInts.l0] at H
        by_cases c4 : x5_1 < (l0.length : Int)
        · rw [if_pos c4] at H
          have c4b0 := decide_eq_true c4
          clear c4
          by_cases c5 : 0 ≤ x5_1
          · rw [if_pos c5] at H
            have c5b0 := decide_eq_true c5
            clear c5
            by_cases c6 : x5_1 < (l1.length : Int)
            · rw [if_pos c6] at H
              have c6b0 := decide_eq_true c6
              clear c6
              by_cases c7 : (rd l0 x5_1) = (rd l1 x5_1)
              · rw [if_pos c7] at H
                have c7b0 := beq_iff_eq.mpr c7
                have c7b1 := bne_eq_false_iff_eq.mpr c7
                clear c7
                have H' := Fa.mk H
                clear H
                have p589 : 0 ≤ (x5_1 : Int) := of_decide_eq_true (by assumption)
                have q589 : x5_1 < (l0.length : Int) := of_decide_eq_true (by assumption)
                obtain ⟨ad589, e589, hx589_0⟩ := Kd.at_int HR0.out x5_1 p589 q589
                cases e589
                replace p589 := eq_true p589
                replace q589 := eq_true q589
                have p590 : 0 ≤ (x5_1 : Int) := of_decide_eq_true (by assumption)
                have q590 : x5_1 < (l1.length : Int) := of_decide_eq_true (by assumption)
                obtain ⟨ad590, e590, hx590_0⟩ := Kd.at_int HR1.out x5_1 p590 q590
                cases e590
                replace p590 := eq_true p590
                replace q590 := eq_true q590
                go_wp2
                repeat (go_quiet (fail); try go_wp2)
                go_roundg k1
                case measure => have := HK1.out; omega
                case rel => exact ⟨(wrap64 (x5_1 + 1)), rfl, H', ⟨by have := HK1.out; omega⟩, by repeat (first | exact Drawn0.refl _ | apply Drawn0.step)⟩
              · rw [if_neg c7] at H
                have c7b0 := beq_eq_false_iff_ne.mpr c7
                have c7b1 := bne_iff_ne.mpr c7
                obtain rfl := Option.some.inj H
                have p589 : 0 ≤ (x5_1 : Int) := of_decide_eq_true (by assumption)
                have q589 : x5_1 < (l0.length : Int) := of_decide_eq_true (by assumption)
                obtain ⟨ad589, e589, hx589_0⟩ := Kd.at_int HR0.out x5_1 p589 q589
                cases e589
                replace p589 := eq_true p589
                replace q589 := eq_true q589
                have p590 : 0 ≤ (x5_1 : Int) := of_decide_eq_true (by assumption)
                have q590 : x5_1 < (l1.length : Int) := of_decide_eq_true (by assumption)
                obtain ⟨ad590, e590, hx590_0⟩ := Kd.at_int HR1.out x5_1 p590 q590
                cases e590
                replace p590 := eq_true p590
                replace q590 := eq_true q590
                go_wp2
                repeat (go_quiet (fail); try go_wp2)
                go_ret
                exact ⟨rfl, by repeat (first | exact Drawn0.refl _ | apply Drawn0.step)⟩
            · rw [if_neg c6] at H
              exact absurd H (by simp)
          · rw [if_neg c5] at H
            exact absurd H (by simp)
        · rw [if_neg c4] at H
          have c4b0 := decide_eq_false c4
          clear c4
          obtain rfl := Option.some.inj H
          go_wp2
          repeat (go_quiet (fail); try go_wp2)
          go_ret
          exact ⟨rfl, by repeat (first | exact Drawn0.refl _ | apply Drawn0.step)⟩
  · rw [if_neg c3] at H
    have c3b0 := beq_eq_false_iff_ne.mpr c3
    have c3b1 := bne_iff_ne.mpr c3
    have c3b2 : (l0.length == l1.length) = false := by first | simpa using c3 | (simp at c3 ⊢; omega)
    obtain rfl := Option.some.inj H
    go_enter Tryd.func11, Tryd.ntmps11
    go_wp2
    repeat (go_quiet (fail); try go_wp2)
    go_ret
    exact ⟨rfl, by repeat (first | exact Drawn0.refl _ | apply Drawn0.step)⟩

/-! ### spec_l01Neighbours: function 79 -/
def spec_l01Neighbours.l0 : Nat → Int → List Int → Int → Int → List Int → Option (List Int)
  | 0, _, _, _, _, _ => none
  | k + 1, x1, x5, x6, x592000, x592001 => if x6 < x592000 then ((spec_l01Has.f x592000 x592001 x1 x6).bind fun t595 => (if t595 = true then (if x5.length < 17592186044416 then (spec_l01Neighbours.l0 k x1 (x5 ++ [x6]) (wrap64 (x6 + 1)) x592000 x592001) else (none)) else (spec_l01Neighbours.l0 k x1 x5 (wrap64 (x6 + 1)) x592000 x592001))) else (some x5)
def spec_l01Neighbours.f (k : Nat) (a0_0 : Int) (l0_1 : List Int) (a1 : Int) : Option (List Int) := spec_l01Neighbours.l0 k a1 (([] : List Int)) 0 a0_0 l0_1
set_option maxHeartbeats 8000000 in
set_option maxRecDepth 100000 in
theorem spec_l01Neighbours.calls (k : Nat) (a0_0 : Int) (A0_1 : Option Addr) (c0_1 : Nat) (l0_1 : List Int) (a1 : Int) (r : List Int) (w : World) (hr0_1 : Kd.C (Kd.int .i64) w A0_1 l0_1.length l0_1) (hc0_1 : l0_1.length ≤ c0_1) (h : spec_l01Neighbours.f k a0_0 l0_1 a1 = some r) :
    Calls Tryd.prog 79 #[.agg #[.int .i64 a0_0, .slice A0_1 l0_1.length c0_1], .int .i64 a1] w fun e w' => ∃ v0_ : Value, e = .returned (v0_) ∧ Kd.R (Kd.int .i64) 2 w' w.heap.size (fun _ => True) v0_ r ∧ Below w.heap.size w w' := by
  have hu26 := Tryd.underlying26
  have HR0_1 := Fa.mk hr0_1
  have HC0_1 := Fa.mk hc0_1
  clear hr0_1 hc0_1
  have HB := Fa.mk (Below.refl w.heap.size w)
  have H : (spec_l01Neighbours.l0 k a1 (([] : List Int)) 0 a0_0 l0_1) = some r := h
  clear h
  obtain ⟨y592, hy592⟩ : ∃ y_ : List Int, y_ = (([] : List Int)) := ⟨_, rfl⟩
  first | replace H := bs_ hy592 H | rw [← hy592] at H
  have Ny592 := Fa.mk hy592
  clear hy592
  have H' := Fa.mk H
  clear H
  go_enter Tryd.func79, Tryd.ntmps79
  go_wp2_with (first | ((with_reducible refine gd 2 rfl ?_); refine box_event ?hg (N := 2) ?hd (cs := #[.int .i64 a0_0, .slice A0_1 l0_1.length c0_1]) (t := 26) ?hr ?_; (case hd => rfl); (case hg => rfl); (case hr => first | (go_simp; done) | (go_simp; rfl)); intro gb591 hg w3 hbox hb; have BK591 := Fa.mk hbox; have GW591 := Fa.mk (bsz hg (BU HB) : w.heap.size ≤ gb591); have GE591 := GW591; replace HB := Fa.mk (below_step (BU HB) hb); clear hb hbox hg) | ((with_reducible refine gd 7 rfl ?_); refine Kd.R_lit (Kd.int .i64) _ 2 ?hg (N := 7) ?hd (xs := ([] : List Int)) (inner := []) (ok := fun _ => True) (okp := fun _ => True) ?hr ?hp (fun _ hk => hk) trivial (Below.refl _ _) (Nat.le_refl _) (by simp) ?_; (case hd => rfl); (case hg => rfl); (case hr => first | (go_simp; done) | (go_simp; rfl)); (case hp => exact (Reps.none _ _)); intro v593 w4 ho5 hb hg_ hnew_; clear hg_ hnew_; (first | rw [← Ny592.out] at ho5 | (simp only [Int.reduceToNat] at ho5; rw [← Ny592.out] at ho5)); have HO594 := Fa.mk (Kd.R_lower ho5 (below_size (BU HB))); replace BK591 := Fa.mk (blk_below (bU BK591) hb); replace HB := Fa.mk (below_step (BU HB) hb); clear hb ho5))
  go_loopg [5, 6] k (fun kq v5 v6 w' => ∃ (x5_1 : List Int) (x6_1 : Int), v6 = .int .i64 x6_1 ∧ Fa (spec_l01Neighbours.l0 kq a1 x5_1 x6_1 a0_0 l0_1 = some r) ∧ Fa (kq ≤ k) ∧ Fa (Kd.R (Kd.int .i64) 2 w' w.heap.size (fun _ => True) v5 x5_1) ∧ Fa (w'.heap[gb591]? = some (.cells #[.int .i64 a0_0, (.slice A0_1 l0_1.length c0_1)] 26 (0, 0))) ∧ Fa (Below w.heap.size w w'))
  case atStart => exact ⟨(y592), (0), rfl, H', ⟨Nat.le_refl _⟩, ⟨rU HO594⟩, ⟨bU BK591⟩, ⟨BU HB⟩⟩
  case round =>
    clear H'
    obtain ⟨x5_1, x6_1, rfl, HA, HK1, HO_5, BK591, HB⟩ := hrel
    cases gk with
    | zero => exact absurd HA.out (by simp [spec_l01Neighbours.l0])
    | succ k1 =>
      have H := HA.out
      clear HA
      simp only [spec_l01Neighbours.l0] at H
      by_cases c6 : x6_1 < a0_0
      · rw [if_pos c6] at H
        have c6b0 := decide_eq_true c6
        clear c6
        replace H := Option.bind_eq_some_iff.mp H
        obtain ⟨t595, A70, H⟩ := H
        replace H : (if t595 = true then (if x5_1.length < 17592186044416 then (spec_l01Neighbours.l0 k1 a1 (x5_1 ++ [x6_1]) (wrap64 (x6_1 + 1)) a0_0 l0_1) else (none)) else (spec_l01Neighbours.l0 k1 a1 x5_1 (wrap64 (x6_1 + 1)) a0_0 l0_1)) = some r := H
        have A7 := Fa.mk A70
        clear A70
        by_cases c8 : t595 = true
        · subst c8
          have H1 : (if x5_1.length < 17592186044416 then (spec_l01Neighbours.l0 k1 a1 (x5_1 ++ [x6_1]) (wrap64 (x6_1 + 1)) a0_0 l0_1) else (none)) = some r := by rw [if_pos rfl] at H; exact H
          clear H
          have H := H1
          clear H1
          by_cases c9 : x5_1.length < 17592186044416
          · rw [if_pos c9] at H
            have LMc9 := Fa.mk c9
            clear c9
            obtain ⟨y596, hy596⟩ : ∃ y_ : List Int, y_ = (x5_1 ++ [x6_1]) := ⟨_, rfl⟩
            first | replace H := bs_ hy596 H | rw [← hy596] at H
            have Ny596 := Fa.mk hy596
            clear hy596
            have H' := Fa.mk H
            clear H
            obtain ⟨hcz10_0, hcz10_1, hfz10_0, hfz10_1⟩ := cz2 BK591.out
            go_wp2_with (first | ((with_reducible refine gc 83 rfl ?_); refine gL 17 Tryd.func83 #[.agg #[.int .i64 a0_0, .slice A0_1 l0_1.length c0_1], .int .i64 a1, .int .i64 x6_1] rfl (by first | rfl | (simp only [mA, mC, mN]; rfl)) ?_; (with_reducible refine (spec_l01Has.calls a0_0 _ _ l0_1 a1 x6_1 true _ (Kd.C_below HR0_1.out (BU HB)) HC0_1.out A7.out).mono ?_); rintro e w11 ⟨rfl, hb⟩; refine ⟨_, rfl, ?_⟩; replace HO_5 := Fa.mk (Kd.R_below (rU HO_5) hb); replace BK591 := Fa.mk (blk_below (bU BK591) hb); replace HB := Fa.mk (below_step (BU HB) hb)) | ((with_reducible refine gate_builtin (b := .append) (xs := #[.tmp 18, .tmp 20]) rfl ?_); at_builtin; refine Kd.R_append (Kd.int .i64) (w0 := w) w.heap.size rfl (.tmp 18) (.tmp 20) 24 2 (.int .i64 0) 8 rfl Tryd.underlying24 info2 rfl (by decide) (by omega) u5 x5_1 x6_1 [.int .i64 x6_1] (fun _ => True) (fun _ => False) rfl rfl ?aP (fun _ hk => hk.elim) ?aF ?aO ?aB ?aS ?aL ?_; (case aP => exact rfl); (case aB => exact (BU HB)); (case aF => exact (fun _ _ => trivial)); (case aO => exact (rU HO_5)); (case aS => exact (below_size (BU HB))); (case aL => have := LMc9.out; omega); intro v597 w12 ho hb hg hat; rw [← Ny596.out] at ho; replace BK591 := Fa.mk (blk_grown (bU BK591) hg (Kd.R_ne HO_5.out BK591.out (by decide))); have HO598 := Fa.mk ho; replace HB := Fa.mk hb; clear HO_5; clear ho hb hg hat))
            go_roundg k1
            case measure => have := HK1.out; omega
            case rel => exact ⟨(y596), (wrap64 (x6_1 + 1)), rfl, H', ⟨by have := HK1.out; omega⟩, ⟨rU HO598⟩, ⟨bU BK591⟩, ⟨BU HB⟩⟩
          · rw [if_neg c9] at H
            exact absurd H (by simp)
        · replace c8 := Bool.eq_false_iff.mpr c8
          subst c8
          have H1 : (spec_l01Neighbours.l0 k1 a1 x5_1 (wrap64 (x6_1 + 1)) a0_0 l0_1) = some r := by rw [if_neg (show ¬ (false = true) by decide)] at H; exact H
          clear H
          have H := H1
          clear H1
          have H' := Fa.mk H
          clear H
          obtain ⟨hcz13_0, hcz13_1, hfz13_0, hfz13_1⟩ := cz2 BK591.out
          go_wp2_with (first | ((with_reducible refine gc 83 rfl ?_); refine gL 17 Tryd.func83 #[.agg #[.int .i64 a0_0, .slice A0_1 l0_1.length c0_1], .int .i64 a1, .int .i64 x6_1] rfl (by first | rfl | (simp only [mA, mC, mN]; rfl)) ?_; (with_reducible refine (spec_l01Has.calls a0_0 _ _ l0_1 a1 x6_1 false _ (Kd.C_below HR0_1.out (BU HB)) HC0_1.out A7.out).mono ?_); rintro e w14 ⟨rfl, hb⟩; refine ⟨_, rfl, ?_⟩; replace HO_5 := Fa.mk (Kd.R_below (rU HO_5) hb); replace BK591 := Fa.mk (blk_below (bU BK591) hb); replace HB := Fa.mk (below_step (BU HB) hb)))
          go_roundg k1
          case measure => have := HK1.out; omega
          case rel => exact ⟨(x5_1), (wrap64 (x6_1 + 1)), rfl, H', ⟨by have := HK1.out; omega⟩, ⟨rU HO_5⟩, ⟨bU BK591⟩, ⟨BU HB⟩⟩
      · rw [if_neg c6] at H
        have c6b0 := decide_eq_false c6
        clear c6
        obtain rfl := Option.some.inj H
        obtain ⟨hcz15_0, hcz15_1, hfz15_0, hfz15_1⟩ := cz2 BK591.out
        go_wp2
        go_ret
        exact ⟨_, rfl, HO_5.out, BU HB⟩

/-! ### spec_l02Pair: function 40 -/
def spec_l02Pair.j0 : Nat → Int → Int → Bool → List Int → Int → Int → Int → List Int → Option (Int × List Int × Int × Int)
  | 0, _, _, _, _, _, _, _, _ => none
  | k + 1, x8, x9, x35, x604000, x604001, x604002, x611000, x611001 => if x35 = true then ((spec_l01Neighbours.f k x611000 x611001 x8).bind fun t624 => (if (t624.length : Int) > 0 then ((spec_l01Next.f x604000 x604001 x604002 (t624.length : Int)).bind fun bt627 => (if 0 ≤ bt627.1 then (if bt627.1 < (t624.length : Int) then (some (x611000, x611001, x8, rd t624 bt627.1)) else (none)) else (none))) else (some (x611000, x611001, x8, x9)))) else (some (x611000, x611001, x8, x9))
def spec_l02Pair.f (k : Nat) (l0 : List Int) : Option (Int × List Int × Int × Int) := (spec_l01From.f k l0).bind fun bt600 => ((spec_l02Draw.f k bt600.1 bt600.2.1 bt600.2.2).bind fun bt604 => ((spec_l01Next.f bt600.1 bt604.2.2.1 bt604.2.2.2 (mn (mx bt604.1 1) 62)).bind fun bt611 => ((spec_l01Next.f bt600.1 bt611.2.1 bt611.2.2 24).bind fun bt614 => ((spec_l01Next.f bt600.1 bt614.2.1 bt614.2.2 (wrap64 ((mn (mx bt604.1 1) 62) + (wrap64 (Int.tdiv bt614.1 23))))).bind fun bt617 => ((spec_l01Is.f k bt604.1 bt604.2.1).bind fun t620 => (if t620 = true then ((spec_l01Next.f bt600.1 bt617.2.1 bt617.2.2 2).bind fun bt621 => (spec_l02Pair.j0 k bt611.1 bt617.1 (bt621.1 == 0) bt600.1 bt621.2.1 bt621.2.2 bt604.1 bt604.2.1)) else (spec_l02Pair.j0 k bt611.1 bt617.1 false bt600.1 bt617.2.1 bt617.2.2 bt604.1 bt604.2.1)))))))
set_option maxHeartbeats 8000000 in
set_option maxRecDepth 100000 in
theorem spec_l02Pair.calls (k : Nat) (A0 : Option Addr) (c0 : Nat) (l0 : List Int) (r1 : Int) (r2 : List Int) (r3 : Int) (r4 : Int) (w : World) (hr0 : Kd.C (Kd.int .u8) w A0 l0.length l0) (hc0 : l0.length ≤ c0) (h : spec_l02Pair.f k l0 = some (r1, r2, r3, r4)) :
    Calls Tryd.prog 40 #[.slice A0 l0.length c0] w fun e w' => ∃ v1_ : Value, e = .returned (.tuple #[.agg #[.int .i64 r1, v1_], .int .i64 r3, .int .i64 r4]) ∧ Kd.R (Kd.int .i64) 2 w' w.heap.size (fun _ => True) v1_ r2 ∧ Below w.heap.size w w' := by
  have hu26 := Tryd.underlying26
  have HR0 := Fa.mk hr0
  have HC0 := Fa.mk hc0
  clear hr0 hc0
  have HB := Fa.mk (Below.refl w.heap.size w)
  unfold spec_l02Pair.f at h; have H := h
  clear h
  replace H := Option.bind_eq_some_iff.mp H
  obtain ⟨⟨t600, t601, t602⟩, A20, H⟩ := H
  dsimp only at H
  have A2 := Fa.mk A20
  clear A20
  replace H := Option.bind_eq_some_iff.mp H
  obtain ⟨⟨t604, t605, t608, t609⟩, A30, H⟩ := H
  dsimp only at H
  have A3 := Fa.mk A30
  clear A30
  obtain ⟨ji4, hji4⟩ : ∃ j_ : Int, (mx t604 1) = j_ := ⟨_, rfl⟩
  rw [hji4] at H
  (try rw [hji4] at A2)
  (try rw [hji4] at A3)
  (try (have hji4l : 1 ≤ ji4 := by (rw [← hji4]; unfold mx; (repeat' split) <;> omega)))
  (try (have hji4m : 0 ≤ ji4 := by omega))
  have hji4_ : (if t604 < 1 then 1 else t604) = ji4 := hji4
  obtain ⟨ji5, hji5⟩ : ∃ j_ : Int, (mn (ji4) 62) = j_ := ⟨_, rfl⟩
  rw [hji5] at H
  (try rw [hji5] at A2)
  (try rw [hji5] at A3)
  have hji5_ : (if 62 < (ji4) then 62 else (ji4)) = ji5 := hji5
  replace H := Option.bind_eq_some_iff.mp H
  obtain ⟨⟨t611, t612, t613⟩, A60, H⟩ := H
  dsimp only at H
  have A6 := Fa.mk A60
  clear A60
  replace H := Option.bind_eq_some_iff.mp H
  obtain ⟨⟨t614, t615, t616⟩, A70, H⟩ := H
  dsimp only at H
  have A7 := Fa.mk A70
  clear A70
  replace H := Option.bind_eq_some_iff.mp H
  obtain ⟨⟨t617, t618, t619⟩, A80, H⟩ := H
  dsimp only at H
  have A8 := Fa.mk A80
  clear A80
  have HC9 := Fa.mk H
  clear H
  go_enter Tryd.func40, Tryd.ntmps40
  go_upto_region 5 with (first | ((with_reducible refine gd 2 rfl ?_); refine box_event ?hg (N := 2) ?hd (cs := #[.int .i64 0, .slice none 0 0]) (t := 26) ?hr ?_; (case hd => rfl); (case hg => rfl); (case hr => first | (go_simp; done) | (go_simp; rfl)); intro gb599 hg w10 hbox hb; have BK599 := Fa.mk hbox; have GW599 := Fa.mk (bsz hg (BU HB) : w.heap.size ≤ gb599); have GE599 := GW599; replace HB := Fa.mk (below_step (BU HB) hb); clear hb hbox hg) | ((with_reducible refine gc 44 rfl ?_); refine gL 12 Tryd.func44 #[.slice A0 l0.length c0] rfl (by first | rfl | (simp only [mA, mC, mN]; rfl)) ?_; (with_reducible refine (spec_l01From.calls k _ _ l0 t600 t601 t602 w _ (BU HB) HR0.out HC0.out A2.out).mono ?_); rintro e w11 ⟨g603, rfl, hi, hb, hb2⟩; refine ⟨_, rfl, ?_⟩; have HI603 := Fa.mk hi; have NB603_599 := Fa.mk (IsS92.ne_blk hi (blk_below (bU BK599) hb2) (by decide)); have NB599_603 := Fa.mk (Ne.symm (IsS92.ne_blk hi (blk_below (bU BK599) hb2) (by decide))); replace BK599 := Fa.mk (blk_below (bU BK599) hb2); replace HB := Fa.mk hb) | ((with_reducible refine gc 43 rfl ?_); refine gL 14 Tryd.func43 #[.pointer (some ⟨g603, 0, none⟩)] rfl (by first | rfl | (simp only [mA, mC, mN]; rfl)) ?_; (with_reducible refine (spec_l02Draw.calls k g603 t600 t601 t602 t604 t605 t608 t609 w _ oo (BU HB) A3.out).mono ?_); rintro e w12 ⟨v606, rfl, ho0, hi, hb, hk⟩; refine ⟨_, rfl, ?_⟩; replace BK599 := Fa.mk (KeepBut.blk hk (bU BK599) NB599_603.out (by simp)); have HO607 := Fa.mk (Kd.R_lower ho0 (below_size (BU HB))); replace HI603 := Fa.mk hi; replace HB := Fa.mk hb) | ((with_reducible refine gd 6 rfl ?_); refine box_event ?hg (N := 6) ?hd (cs := #[.int .i64 0, .slice none 0 0]) (t := 26) ?hr ?_; (case hd => rfl); (case hg => rfl); (case hr => first | (go_simp; done) | (go_simp; rfl)); intro gb610 hg w13 hbox hb; have BK610 := Fa.mk hbox; have GW610 := Fa.mk (bsz hg (BU HB) : w.heap.size ≤ gb610); have GE610 := GW610; have NB599_610 := Fa.mk ((by rw [hg]; exact Nat.ne_of_lt (blk_lt (bU BK599)) : gb599 ≠ gb610)); have NB610_599 := Fa.mk ((by rw [hg]; exact Nat.ne_of_gt (blk_lt (bU BK599)) : gb610 ≠ gb599)); have NB603_610 := Fa.mk ((by rw [hg]; exact Nat.ne_of_lt (IsS92.lt (show IsS92 w _ g603 t600 t608 t609 from oo)) : g603 ≠ gb610)); have NB610_603 := Fa.mk ((by rw [hg]; exact Nat.ne_of_gt (IsS92.lt (show IsS92 w _ g603 t600 t608 t609 from oo)) : gb610 ≠ g603)); replace HO607 := Fa.mk (Kd.R_below (rU HO607) hb); replace BK599 := Fa.mk (blk_below (bU BK599) hb); replace HI603 := Fa.mk (IsS92.below (sU HI603) hb); replace HB := Fa.mk (below_step (BU HB) hb); clear hb hbox hg; have hnb14 := NB610_599.out; have hnc14 := NB599_610.out; have hnb15 := NB610_603.out; have hnc15 := NB603_610.out; obtain ⟨hcz16_0, hcz16_1, hfz16_0, hfz16_1⟩ := cz2 BK610.out; obtain ⟨Ao17, co17, eo17⟩ := Kd.R_slice HO607.out; subst eo17) | ((with_reducible refine gc 77 rfl ?_); refine goesL_ (some 21) rfl rfl Tryd.func77 (by kernel_rfl) rfl #[.pointer (some ⟨g603, 0, none⟩), .int .i64 ji5] rfl (by (try simp only [List.map_toArray, List.map_cons, List.map_nil]); first | done | (simp only [hji5]; rfl) | rfl | (simp only [List.length_drop, List.length_take]; rfl)) ?_; (with_reducible refine (spec_l01Next.calls g603 t600 t608 t609 ji5 t611 t612 t613 w _ oo (BU HB) A6.out).mono ?_); rintro e w18 ⟨rfl, hi, hb, hk⟩; refine ⟨_, rfl, ?_⟩; have n0_ := Fa.mk (KeepBut.blk hk (g' := gb599) (o := .cells #[.int .i64 0, .slice none 0 0] 26 (0, 0)) (by (with_reducible repeat (first | refine blk_drewN ?_ _ | refine blk_drew ?_ | refine blk_alloc ?_ _)); refine blk_far ?_ NB599_610.out _; (with_reducible repeat (first | refine blk_drewN ?_ _ | refine blk_drew ?_ | refine blk_alloc ?_ _)); refine blk_far ?_ NB599_610.out _; (with_reducible repeat (first | refine blk_drewN ?_ _ | refine blk_drew ?_ | refine blk_alloc ?_ _)); exact BK599.out) NB599_603.out (by simp)); have n1_ := Fa.mk (Kd.R_mono (Kd.R_keep (IsS92.apart (show IsS92 w _ g603 t600 t608 t609 from oo) (by (with_reducible repeat (first | apply Kd.R_alloc | apply Kd.R_drewN | apply Kd.R_drew)); exact (Kd.R_mono (Kd.R_far (p := ⟨gb610, 1, none⟩) (Kd.R_far (p := ⟨gb610, 0, none⟩) (Kd.R_types HO607.out BK610.out (by decide)) (fun _ hk => hk.2) (.int .i64 t604)) (fun _ hk => hk.2) (.slice Ao17 t605.length co17)) (fun _ h_ => h_.1))) (by decide)) hk (fun _ h => h.2)) (fun _ h => h.1)); have n2_ := Fa.mk (KeepBut.blk hk (g' := gb610) (o := .cells #[.int .i64 t604, .slice Ao17 t605.length co17] 26 (0, 0)) oo NB610_603.out (by simp)); have n3_ := Fa.mk hb; have n4_ := Fa.mk hi; clear BK599; clear HO607; clear BK610; clear HB; clear HI603; have BK599 := n0_; have HO607 := n1_; have BK610 := n2_; have HB := n3_; have HI603 := n4_; clear n0_ n1_ n2_ n3_ n4_) | ((with_reducible refine gc 77 rfl ?_); refine gL 25 Tryd.func77 #[.pointer (some ⟨g603, 0, none⟩), .int .i64 24] rfl (by first | rfl | (simp only [mA, mC, mN]; rfl)) ?_; (with_reducible refine (spec_l01Next.calls g603 t600 t612 t613 24 t614 t615 t616 w _ oo (BU HB) A7.out).mono ?_); rintro e w19 ⟨rfl, hi, hb, hk⟩; refine ⟨_, rfl, ?_⟩; replace HO607 := Fa.mk (Kd.R_mono (Kd.R_keep (IsS92.apart (show IsS92 w _ g603 t600 t612 t613 from oo) (rU HO607) (by decide)) hk (fun _ h => h.2)) (fun _ h => h.1)); replace BK599 := Fa.mk (KeepBut.blk hk (bU BK599) NB599_603.out (by simp)); replace BK610 := Fa.mk (KeepBut.blk hk (bU BK610) NB610_603.out (by simp)); replace HI603 := Fa.mk hi; replace HB := Fa.mk hb) | ((with_reducible refine gc 77 rfl ?_); refine goesL_ (some 28) rfl rfl Tryd.func77 (by kernel_rfl) rfl #[.pointer (some ⟨g603, 0, none⟩), .int .i64 (wrap64 ((ji5) + (wrap64 (Int.tdiv t614 23))))] rfl (by (try simp only [List.map_toArray, List.map_cons, List.map_nil]); first | done | (simp only [hji5]; rfl) | rfl | (simp only [List.length_drop, List.length_take]; rfl)) ?_; (with_reducible refine (spec_l01Next.calls g603 t600 t615 t616 (wrap64 ((ji5) + (wrap64 (Int.tdiv t614 23)))) t617 t618 t619 w _ oo (BU HB) A8.out).mono ?_); rintro e w20 ⟨rfl, hi, hb, hk⟩; refine ⟨_, rfl, ?_⟩; replace HO607 := Fa.mk (Kd.R_mono (Kd.R_keep (IsS92.apart (show IsS92 w _ g603 t600 t615 t616 from oo) (rU HO607) (by decide)) hk (fun _ h => h.2)) (fun _ h => h.1)); replace BK599 := Fa.mk (KeepBut.blk hk (bU BK599) NB599_603.out (by simp)); replace BK610 := Fa.mk (KeepBut.blk hk (bU BK610) NB610_603.out (by simp)); replace HI603 := Fa.mk hi; replace HB := Fa.mk hb))
  (try simp only [Act.put, sA, sZ, sC])
  go_cut [35] (fun v35 wc => ∃ (kq : Nat) (x35_8 : Bool) (x604001_8 : Int) (x604002_8 : Int), v35 = .bool x35_8 ∧ Fa (spec_l02Pair.j0 kq t611 t617 x35_8 t600 x604001_8 x604002_8 t604 t605 = some (r1, r2, r3, r4)) ∧ Fa (kq ≤ k) ∧ Fa (Kd.R (Kd.int .i64) 2 wc w.heap.size (fun _ => True) (.slice Ao17 t605.length co17) t605) ∧ Fa (wc.heap[gb599]? = some (.cells #[.int .i64 0, (.slice none 0 0)] 26 (0, 0))) ∧ Fa (wc.heap[gb610]? = some (.cells #[.int .i64 t604, (.slice Ao17 t605.length co17)] 26 (0, 0))) ∧ Fa (IsS92 w wc g603 t600 x604001_8 x604002_8) ∧ Fa (Below w.heap.size w wc))
  case first =>
    have H := HC9.out
    clear HC9
    replace H := Option.bind_eq_some_iff.mp H
    obtain ⟨t620, A210, H⟩ := H
    replace H : (if t620 = true then ((spec_l01Next.f t600 t618 t619 2).bind fun bt621 => (spec_l02Pair.j0 k t611 t617 (bt621.1 == 0) t600 bt621.2.1 bt621.2.2 t604 t605)) else (spec_l02Pair.j0 k t611 t617 false t600 t618 t619 t604 t605)) = some (r1, r2, r3, r4) := H
    have A21 := Fa.mk A210
    clear A210
    by_cases c22 : t620 = true
    · subst c22
      have H1 : ((spec_l01Next.f t600 t618 t619 2).bind fun bt621 => (spec_l02Pair.j0 k t611 t617 (bt621.1 == 0) t600 bt621.2.1 bt621.2.2 t604 t605)) = some (r1, r2, r3, r4) := by rw [if_pos rfl] at H; exact H
      clear H
      have H := H1
      clear H1
      replace H := Option.bind_eq_some_iff.mp H
      obtain ⟨⟨t621, t622, t623⟩, A230, H⟩ := H
      dsimp only at H
      have A23 := Fa.mk A230
      clear A230
      have H' := Fa.mk H
      clear H
      have hnb24 := NB610_599.out
      have hnc24 := NB599_610.out
      have hnb25 := NB610_603.out
      have hnc25 := NB603_610.out
      obtain ⟨hcz26_0, hcz26_1, hfz26_0, hfz26_1⟩ := cz2 BK610.out
      go_wp2_with (first | ((with_reducible refine gc 48 rfl ?_); refine gL 30 Tryd.func48 #[.agg #[.int .i64 t604, .slice Ao17 t605.length co17]] rfl (by first | rfl | (simp only [mA, mC, mN]; rfl)) ?_; (with_reducible refine (spec_l01Is.calls k t604 _ _ t605 true _ (rC HO607) ((Kd.R_reads' HO607.out).2.1) A21.out).mono ?_); rintro e w27 ⟨rfl, hb⟩; refine ⟨_, rfl, ?_⟩; replace HO607 := Fa.mk (Kd.R_below (rU HO607) hb); replace BK599 := Fa.mk (blk_below (bU BK599) hb); replace HI603 := Fa.mk (IsS92.below (sU HI603) hb); replace BK610 := Fa.mk (blk_below (bU BK610) hb); replace HB := Fa.mk (below_step (BU HB) hb)) | (go_at_call 77; (with_reducible refine (spec_l01Next.calls g603 t600 t618 t619 2 t621 t622 t623 w _ oo (BU HB) A23.out).mono ?_); rintro e w28 ⟨rfl, hi, hb, hk⟩; replace HO607 := Fa.mk (Kd.R_mono (Kd.R_keep (IsS92.apart (show IsS92 w _ g603 t600 t618 t619 from oo) (rU HO607) (by decide)) hk (fun _ h => h.2)) (fun _ h => h.1)); replace BK599 := Fa.mk (KeepBut.blk hk (bU BK599) NB599_603.out (by simp)); replace BK610 := Fa.mk (KeepBut.blk hk (bU BK610) NB610_603.out (by simp)); replace HI603 := Fa.mk hi; replace HB := Fa.mk hb))
      go_meet
      case rel => exact ⟨_, ((t621 == 0)), (t622), (t623), rfl, H', ⟨by first | omega | exact Nat.le_refl _⟩, ⟨rU HO607⟩, ⟨bU BK599⟩, ⟨bU BK610⟩, ⟨oo⟩, ⟨BU HB⟩⟩
    · replace c22 := Bool.eq_false_iff.mpr c22
      subst c22
      have H1 : (spec_l02Pair.j0 k t611 t617 false t600 t618 t619 t604 t605) = some (r1, r2, r3, r4) := by rw [if_neg (show ¬ (false = true) by decide)] at H; exact H
      clear H
      have H := H1
      clear H1
      have H' := Fa.mk H
      clear H
      have hnb29 := NB610_599.out
      have hnc29 := NB599_610.out
      have hnb30 := NB610_603.out
      have hnc30 := NB603_610.out
      obtain ⟨hcz31_0, hcz31_1, hfz31_0, hfz31_1⟩ := cz2 BK610.out
      go_wp2_with (first | ((with_reducible refine gc 48 rfl ?_); refine gL 30 Tryd.func48 #[.agg #[.int .i64 t604, .slice Ao17 t605.length co17]] rfl (by first | rfl | (simp only [mA, mC, mN]; rfl)) ?_; (with_reducible refine (spec_l01Is.calls k t604 _ _ t605 false _ (rC HO607) ((Kd.R_reads' HO607.out).2.1) A21.out).mono ?_); rintro e w32 ⟨rfl, hb⟩; refine ⟨_, rfl, ?_⟩; replace HO607 := Fa.mk (Kd.R_below (rU HO607) hb); replace BK599 := Fa.mk (blk_below (bU BK599) hb); replace HI603 := Fa.mk (IsS92.below (sU HI603) hb); replace BK610 := Fa.mk (blk_below (bU BK610) hb); replace HB := Fa.mk (below_step (BU HB) hb)))
      go_meet
      case rel => exact ⟨_, (false), (t618), (t619), rfl, H', ⟨by first | omega | exact Nat.le_refl _⟩, ⟨rU HO607⟩, ⟨bU BK599⟩, ⟨bU BK610⟩, ⟨oo⟩, ⟨BU HB⟩⟩
  case rest =>
    clear HC9
    obtain ⟨kq, x35_8, x604001_8, x604002_8, rfl, HA, HJ8, HO_611001, BK599, BK610, HI603, HB⟩ := hcut
    cases kq with
    | zero => exact absurd HA.out (by simp [spec_l02Pair.j0])
    | succ kj8 =>
      have H := HA.out
      clear HA
      simp only [spec_l02Pair.j0] at H
      by_cases c33 : x35_8 = true
      · subst c33
        have H1 : ((spec_l01Neighbours.f kj8 t604 t605 t611).bind fun t624 => (if (t624.length : Int) > 0 then ((spec_l01Next.f t600 x604001_8 x604002_8 (t624.length : Int)).bind fun bt627 => (if 0 ≤ bt627.1 then (if bt627.1 < (t624.length : Int) then (some (t604, t605, t611, rd t624 bt627.1)) else (none)) else (none))) else (some (t604, t605, t611, t617)))) = some (r1, r2, r3, r4) := by rw [if_pos rfl] at H; exact H
        clear H
        have H := H1
        clear H1
        replace H := Option.bind_eq_some_iff.mp H
        obtain ⟨t624, A340, H⟩ := H
        replace H : (if (t624.length : Int) > 0 then ((spec_l01Next.f t600 x604001_8 x604002_8 (t624.length : Int)).bind fun bt627 => (if 0 ≤ bt627.1 then (if bt627.1 < (t624.length : Int) then (some (t604, t605, t611, rd t624 bt627.1)) else (none)) else (none))) else (some (t604, t605, t611, t617))) = some (r1, r2, r3, r4) := H
        have A34 := Fa.mk A340
        clear A340
        by_cases c35 : (t624.length : Int) > 0
        · rw [if_pos c35] at H
          have c35b0 := decide_eq_true c35
          have c35b1 : decide (0 < t624.length) = true := decide_eq_true (by omega)
          clear c35
          replace H := Option.bind_eq_some_iff.mp H
          obtain ⟨⟨t627, t628, t629⟩, A360, H⟩ := H
          dsimp only at H
          have A36 := Fa.mk A360
          clear A360
          by_cases c37 : 0 ≤ t627
          · rw [if_pos c37] at H
            have c37b0 := decide_eq_true c37
            clear c37
            by_cases c38 : t627 < (t624.length : Int)
            · rw [if_pos c38] at H
              have c38b0 := decide_eq_true c38
              clear c38
              simp only [Option.some.injEq, Prod.mk.injEq] at H
              obtain ⟨rfl, rfl, rfl, rfl⟩ := H
              have hnb39 := NB610_599.out
              have hnc39 := NB599_610.out
              have hnb40 := NB610_603.out
              have hnc40 := NB603_610.out
              obtain ⟨hcz41_0, hcz41_1, hfz41_0, hfz41_1⟩ := cz2 BK610.out
              go_wp2_with (first | ((with_reducible refine gc 79 rfl ?_); refine gL 38 Tryd.func79 #[.agg #[.int .i64 t604, .slice Ao17 t605.length co17], .int .i64 t611] rfl (by first | rfl | (simp only [mA, mC, mN]; rfl)) ?_; (with_reducible refine (spec_l01Neighbours.calls kj8 t604 _ _ t605 t611 t624 _ (rC HO_611001) ((Kd.R_reads' HO_611001.out).2.1) A34.out).mono ?_); rintro e w42 ⟨v625, rfl, ho0, hb⟩; refine ⟨_, rfl, ?_⟩; have HO626 := Fa.mk (Kd.R_lower (Kd.R_new' ho0 (Kd.R_lt (rU HO_611001))) (below_size (BU HB))); replace HO_611001 := Fa.mk (Kd.R_elder' (rU HO_611001) (Kd.R_base ho0) hb); replace BK599 := Fa.mk (blk_below (bU BK599) hb); replace BK610 := Fa.mk (blk_below (bU BK610) hb); replace HI603 := Fa.mk (IsS92.below (sU HI603) hb); replace HB := Fa.mk (below_step (BU HB) hb); obtain ⟨Ao43, co43, eo43⟩ := Kd.R_slice HO626.out; subst eo43) | ((with_reducible refine gc 77 rfl ?_); refine gL 46 Tryd.func77 #[.pointer (some ⟨g603, 0, none⟩), .int .i64 (t624.length : Int)] rfl (by first | rfl | (simp only [mA, mC, mN]; rfl)) ?_; (with_reducible refine (spec_l01Next.calls g603 t600 x604001_8 x604002_8 (t624.length : Int) t627 t628 t629 w _ oo (BU HB) A36.out).mono ?_); rintro e w44 ⟨rfl, hi, hb, hk⟩; refine ⟨_, rfl, ?_⟩; have n0_ := Fa.mk (Kd.R_mono (Kd.R_keep (IsS92.apart (show IsS92 w _ g603 t600 x604001_8 x604002_8 from oo) (rU HO_611001) (by decide)) hk (fun _ h => h.2)) (fun _ h => h.1)); have n1_ := Fa.mk (KeepBut.blk hk (bU BK599) NB599_603.out (by simp)); have n2_ := Fa.mk (KeepBut.blk hk (bU BK610) NB610_603.out (by simp)); have n3_ := Fa.mk (Kd.R_mono (Kd.R_keep (IsS92.apart (show IsS92 w _ g603 t600 x604001_8 x604002_8 from oo) (rU HO626) (by decide)) hk (fun _ h => h.2)) (fun _ h => h.1)); have n4_ := Fa.mk hb; have n5_ := Fa.mk hi; clear HO_611001; clear BK599; clear BK610; clear HO626; clear HB; clear HI603; have HO_611001 := n0_; have BK599 := n1_; have BK610 := n2_; have HO626 := n3_; have HB := n4_; have HI603 := n5_; clear n0_ n1_ n2_ n3_ n4_ n5_; have p630 : 0 ≤ (t627 : Int) := of_decide_eq_true (by assumption); have q630 : t627 < (t624.length : Int) := of_decide_eq_true (by assumption); obtain ⟨ad630, e630, hx630_0⟩ := Kd.at_int (Kd.R_reads' HO626.out).2.2 t627 p630 q630; cases e630; replace p630 := eq_true p630; replace q630 := eq_true q630; obtain ⟨hcz45_0, hcz45_1, hfz45_0, hfz45_1⟩ := cz2 BK610.out; have hnb46 := NB599_603.out; have hnc46 := NB603_599.out; obtain ⟨hcz47_0, hcz47_1, hfz47_0, hfz47_1⟩ := cz2 BK599.out))
              refine bodyPost_ret (results_ctt rfl _ _ gb599 26 #[.int .i64 t604, .slice Ao17 t605.length co17] (0, 0) _ rfl oo Tryd.underlying26 rfl (by kernel_rfl)) rfl ?_
              exact ⟨_, rfl, by (with_reducible repeat (first | apply Kd.R_alloc | apply Kd.R_drewN | apply Kd.R_drew)); exact Kd.R_mono (Kd.R_far (p := ⟨gb599, 1, none⟩) (Kd.R_far (p := ⟨gb599, 0, none⟩) (Kd.R_types HO_611001.out BK599.out (by decide)) (fun _ hk => hk.2) (.int .i64 t604)) (fun _ hk => hk.2) (.slice Ao17 t605.length co17)) (fun _ hk => trivial), BU HB⟩
            · rw [if_neg c38] at H
              exact absurd H (by simp)
          · rw [if_neg c37] at H
            exact absurd H (by simp)
        · rw [if_neg c35] at H
          have c35b0 := decide_eq_false c35
          have c35b1 : decide (0 < t624.length) = false := decide_eq_false (by omega)
          clear c35
          simp only [Option.some.injEq, Prod.mk.injEq] at H
          obtain ⟨rfl, rfl, rfl, rfl⟩ := H
          have hnb48 := NB610_599.out
          have hnc48 := NB599_610.out
          have hnb49 := NB610_603.out
          have hnc49 := NB603_610.out
          obtain ⟨hcz50_0, hcz50_1, hfz50_0, hfz50_1⟩ := cz2 BK610.out
          go_wp2_with (first | ((with_reducible refine gc 79 rfl ?_); refine gL 38 Tryd.func79 #[.agg #[.int .i64 t604, .slice Ao17 t605.length co17], .int .i64 t611] rfl (by first | rfl | (simp only [mA, mC, mN]; rfl)) ?_; (with_reducible refine (spec_l01Neighbours.calls kj8 t604 _ _ t605 t611 t624 _ (rC HO_611001) ((Kd.R_reads' HO_611001.out).2.1) A34.out).mono ?_); rintro e w51 ⟨v625, rfl, ho0, hb⟩; refine ⟨_, rfl, ?_⟩; have HO626 := Fa.mk (Kd.R_lower (Kd.R_new' ho0 (Kd.R_lt (rU HO_611001))) (below_size (BU HB))); replace HO_611001 := Fa.mk (Kd.R_elder' (rU HO_611001) (Kd.R_base ho0) hb); replace BK599 := Fa.mk (blk_below (bU BK599) hb); replace BK610 := Fa.mk (blk_below (bU BK610) hb); replace HI603 := Fa.mk (IsS92.below (sU HI603) hb); replace HB := Fa.mk (below_step (BU HB) hb); obtain ⟨Ao52, co52, eo52⟩ := Kd.R_slice HO626.out; subst eo52; obtain ⟨hcz53_0, hcz53_1, hfz53_0, hfz53_1⟩ := cz2 BK610.out; have hnb54 := NB599_603.out; have hnc54 := NB603_599.out; obtain ⟨hcz55_0, hcz55_1, hfz55_0, hfz55_1⟩ := cz2 BK599.out))
          refine bodyPost_ret (results_ctt rfl _ _ gb599 26 #[.int .i64 t604, .slice Ao17 t605.length co17] (0, 0) _ rfl oo Tryd.underlying26 rfl (by kernel_rfl)) rfl ?_
          exact ⟨_, rfl, by (with_reducible repeat (first | apply Kd.R_alloc | apply Kd.R_drewN | apply Kd.R_drew)); exact Kd.R_mono (Kd.R_far (p := ⟨gb599, 1, none⟩) (Kd.R_far (p := ⟨gb599, 0, none⟩) (Kd.R_types HO_611001.out BK599.out (by decide)) (fun _ hk => hk.2) (.int .i64 t604)) (fun _ hk => hk.2) (.slice Ao17 t605.length co17)) (fun _ hk => trivial), BU HB⟩
      · replace c33 := Bool.eq_false_iff.mpr c33
        subst c33
        have H1 : (some (t604, t605, t611, t617)) = some (r1, r2, r3, r4) := by rw [if_neg (show ¬ (false = true) by decide)] at H; exact H
        clear H
        have H := H1
        clear H1
        simp only [Option.some.injEq, Prod.mk.injEq] at H
        obtain ⟨rfl, rfl, rfl, rfl⟩ := H
        have hnb56 := NB610_599.out
        have hnc56 := NB599_610.out
        have hnb57 := NB610_603.out
        have hnc57 := NB603_610.out
        obtain ⟨hcz58_0, hcz58_1, hfz58_0, hfz58_1⟩ := cz2 BK610.out
        have hnb59 := NB599_603.out
        have hnc59 := NB603_599.out
        obtain ⟨hcz60_0, hcz60_1, hfz60_0, hfz60_1⟩ := cz2 BK599.out
        go_wp2
        refine bodyPost_ret (results_ctt rfl _ _ gb599 26 #[.int .i64 t604, .slice Ao17 t605.length co17] (0, 0) _ rfl oo Tryd.underlying26 rfl (by kernel_rfl)) rfl ?_
        exact ⟨_, rfl, by (with_reducible repeat (first | apply Kd.R_alloc | apply Kd.R_drewN | apply Kd.R_drew)); exact Kd.R_mono (Kd.R_far (p := ⟨gb599, 1, none⟩) (Kd.R_far (p := ⟨gb599, 0, none⟩) (Kd.R_types HO_611001.out BK599.out (by decide)) (fun _ hk => hk.2) (.int .i64 t604)) (fun _ hk => hk.2) (.slice Ao17 t605.length co17)) (fun _ hk => trivial), BU HB⟩

/-! ### spec_DrawDistanceOf: function 12 -/
def spec_DrawDistanceOf.f (k : Nat) (l0 : List Int) : Option (Int × List Int × Int × Int) := (spec_l02Pair.f k l0).bind fun bt632 => (some (bt632.1, bt632.2.1, bt632.2.2.1, bt632.2.2.2))
set_option maxHeartbeats 8000000 in
set_option maxRecDepth 100000 in
theorem spec_DrawDistanceOf.calls (k : Nat) (A0 : Option Addr) (c0 : Nat) (l0 : List Int) (r1 : Int) (r2 : List Int) (r3 : Int) (r4 : Int) (w : World) (hr0 : Kd.C (Kd.int .u8) w A0 l0.length l0) (hc0 : l0.length ≤ c0) (h : spec_DrawDistanceOf.f k l0 = some (r1, r2, r3, r4)) :
    Calls Tryd.prog 12 #[.slice A0 l0.length c0] w fun e w' => ∃ v1_ : Value, e = .returned (.tuple #[.agg #[.int .i64 r1, v1_], .int .i64 r3, .int .i64 r4]) ∧ Kd.R (Kd.int .i64) 2 w' w.heap.size (fun _ => True) v1_ r2 ∧ Below w.heap.size w w' := by
  have hu26 := Tryd.underlying26
  have HR0 := Fa.mk hr0
  have HC0 := Fa.mk hc0
  clear hr0 hc0
  have HB := Fa.mk (Below.refl w.heap.size w)
  unfold spec_DrawDistanceOf.f at h; have H := h
  clear h
  replace H := Option.bind_eq_some_iff.mp H
  obtain ⟨⟨t632, t633, t636, t637⟩, A20, H⟩ := H
  dsimp only at H
  have A2 := Fa.mk A20
  clear A20
  simp only [Option.some.injEq, Prod.mk.injEq] at H
  obtain ⟨rfl, rfl, rfl, rfl⟩ := H
  go_enter Tryd.func12, Tryd.ntmps12
  go_wp2_with (first | ((with_reducible refine gd 2 rfl ?_); refine box_event ?hg (N := 2) ?hd (cs := #[.int .i64 0, .slice none 0 0]) (t := 26) ?hr ?_; (case hd => rfl); (case hg => rfl); (case hr => first | (go_simp; done) | (go_simp; rfl)); intro gb631 hg w3 hbox hb; have BK631 := Fa.mk hbox; have GW631 := Fa.mk (bsz hg (BU HB) : w.heap.size ≤ gb631); have GE631 := GW631; replace HB := Fa.mk (below_step (BU HB) hb); clear hb hbox hg) | ((with_reducible refine gc 40 rfl ?_); refine gL 6 Tryd.func40 #[.slice A0 l0.length c0] rfl (by first | rfl | (simp only [mA, mC, mN]; rfl)) ?_; (with_reducible refine (spec_l02Pair.calls k _ _ l0 t632 t633 t636 t637 _ (Kd.C_below HR0.out (BU HB)) HC0.out A2.out).mono ?_); rintro e w4 ⟨v634, rfl, ho0, hb⟩; refine ⟨_, rfl, ?_⟩; have HO635 := Fa.mk (Kd.R_lower ho0 (below_size (BU HB))); replace BK631 := Fa.mk (blk_below (bU BK631) hb); replace HB := Fa.mk (below_step (BU HB) hb); obtain ⟨hcz5_0, hcz5_1, hfz5_0, hfz5_1⟩ := cz2 BK631.out; obtain ⟨Ao6, co6, eo6⟩ := Kd.R_slice HO635.out; subst eo6))
  refine bodyPost_ret (results_ctt rfl _ _ gb631 26 #[.int .i64 t632, .slice Ao6 t633.length co6] (0, 0) _ rfl oo Tryd.underlying26 rfl (by kernel_rfl)) rfl ?_
  exact ⟨_, rfl, by (with_reducible repeat (first | apply Kd.R_alloc | apply Kd.R_drewN | apply Kd.R_drew)); exact Kd.R_mono (Kd.R_far (p := ⟨gb631, 1, none⟩) (Kd.R_far (p := ⟨gb631, 0, none⟩) (Kd.R_types HO635.out BK631.out (by decide)) (fun _ hk => hk.2) (.int .i64 t632)) (fun _ hk => hk.2) (.slice Ao6 t633.length co6)) (fun _ hk => trivial), BU HB⟩

/-! ### impl_DistanceOf: function 13 -/
def impl_DistanceOf.f (k : Nat) (a0_0 : Int) (l0_1 : List Int) (a1 : Int) (a2 : Int) : Option (Int × Int) := (impl_graphCode.f k a0_0 l0_1 (([a1, a2] : List Int))).bind fun t642 => (if t642 = 0 then ((impl_Graph_distances.f k a0_0 l0_1 a1).bind fun t643 => (if 0 ≤ a2 then (if a2 < (t643.length : Int) then (if (rd t643 a2) < 0 then (some (0, 4)) else (some (rd t643 a2, 0))) else (none)) else (none))) else (some (0, t642)))
set_option maxHeartbeats 8000000 in
set_option maxRecDepth 100000 in
theorem impl_DistanceOf.calls (k : Nat) (a0_0 : Int) (A0_1 : Option Addr) (c0_1 : Nat) (l0_1 : List Int) (a1 : Int) (a2 : Int) (r1 : Int) (r2 : Int) (w : World) (hr0_1 : Kd.C (Kd.int .i64) w A0_1 l0_1.length l0_1) (hc0_1 : l0_1.length ≤ c0_1) (ht : Tab w) (h : impl_DistanceOf.f k a0_0 l0_1 a1 a2 = some (r1, r2)) :
    Calls Tryd.prog 13 #[.agg #[.int .i64 a0_0, .slice A0_1 l0_1.length c0_1], .int .i64 a1, .int .i64 a2] w fun e w' => e = .returned (.tuple #[.int .i64 r1, .int .i64 r2]) ∧ Below w.heap.size w w' := by
  have hu26 := Tryd.underlying26
  have HR0_1 := Fa.mk hr0_1
  have HC0_1 := Fa.mk hc0_1
  clear hr0_1 hc0_1
  have HB := Fa.mk (Below.refl w.heap.size w)
  have HT := Fa.mk ht
  clear ht
  unfold impl_DistanceOf.f at h; have H := h
  clear h
  obtain ⟨y639, hy639⟩ : ∃ y_ : List Int, y_ = (([a1, a2] : List Int)) := ⟨_, rfl⟩
  first | replace H := bs_ hy639 H | rw [← hy639] at H
  have Ny639 := Fa.mk hy639
  clear hy639
  replace H := Option.bind_eq_some_iff.mp H
  obtain ⟨t642, A40, H⟩ := H
  replace H : (if t642 = 0 then ((impl_Graph_distances.f k a0_0 l0_1 a1).bind fun t643 => (if 0 ≤ a2 then (if a2 < (t643.length : Int) then (if (rd t643 a2) < 0 then (some (0, 4)) else (some (rd t643 a2, 0))) else (none)) else (none))) else (some (0, t642))) = some (r1, r2) := H
  have A4 := Fa.mk A40
  clear A40
  by_cases c5 : t642 = 0
  · rw [if_pos c5] at H
    have c5b0 := beq_iff_eq.mpr c5
    have c5b1 := bne_eq_false_iff_eq.mpr c5
    clear c5
    replace H := Option.bind_eq_some_iff.mp H
    obtain ⟨t643, A60, H⟩ := H
    replace H : (if 0 ≤ a2 then (if a2 < (t643.length : Int) then (if (rd t643 a2) < 0 then (some (0, 4)) else (some (rd t643 a2, 0))) else (none)) else (none)) = some (r1, r2) := H
    have A6 := Fa.mk A60
    clear A60
    by_cases c7 : 0 ≤ a2
    · rw [if_pos c7] at H
      have c7b0 := decide_eq_true c7
      clear c7
      by_cases c8 : a2 < (t643.length : Int)
      · rw [if_pos c8] at H
        have c8b0 := decide_eq_true c8
        clear c8
        by_cases c9 : (rd t643 a2) < 0
        · rw [if_pos c9] at H
          have c9b0 := decide_eq_true c9
          clear c9
          simp only [Option.some.injEq, Prod.mk.injEq] at H
          obtain ⟨rfl, rfl⟩ := H
          go_enter Tryd.func13, Tryd.ntmps13
          go_wp2_with (first | ((with_reducible refine gd 3 rfl ?_); refine box_event ?hg (N := 3) ?hd (cs := #[.int .i64 a0_0, .slice A0_1 l0_1.length c0_1]) (t := 26) ?hr ?_; (case hd => rfl); (case hg => rfl); (case hr => first | (go_simp; done) | (go_simp; rfl)); intro gb638 hg w10 hbox hb; have BK638 := Fa.mk hbox; have GW638 := Fa.mk (bsz hg (BU HB) : w.heap.size ≤ gb638); have GE638 := GW638; replace HB := Fa.mk (below_step (BU HB) hb); clear hb hbox hg; obtain ⟨hcz11_0, hcz11_1, hfz11_0, hfz11_1⟩ := cz2 BK638.out) | ((with_reducible refine gd 13 rfl ?_); refine Kd.R_lit (Kd.int .i64) _ 2 ?hg (N := 13) ?hd (xs := ([a1, a2] : List Int)) (inner := [.int .i64 a1, .int .i64 a2]) (ok := fun _ => True) (okp := fun _ => True) ?hr ?hp (fun _ hk => hk) trivial (Below.refl _ _) (Nat.le_refl _) (by simp) ?_; (case hd => rfl); (case hg => rfl); (case hr => first | (go_simp; done) | (go_simp; rfl)); (case hp => exact (Reps.one (show Kd.M (Kd.int .i64) _ _ _ a1 [.int .i64 a1] from rfl) (Reps.one (show Kd.M (Kd.int .i64) _ _ _ a2 [.int .i64 a2] from rfl) (Reps.none _ _)))); intro v640 w12 ho13 hb hg_ hnew_; clear hg_ hnew_; (first | rw [← Ny639.out] at ho13 | (simp only [Int.reduceToNat] at ho13; rw [← Ny639.out] at ho13)); have HO641 := Fa.mk (Kd.R_lower ho13 (below_size (BU HB))); replace BK638 := Fa.mk (blk_below (bU BK638) hb); replace HB := Fa.mk (below_step (BU HB) hb); clear hb ho13; obtain ⟨Ao14, co14, eo14⟩ := Kd.R_slice HO641.out; subst eo14) | ((with_reducible refine gc 36 rfl ?_); refine gL 14 Tryd.func36 #[.agg #[.int .i64 a0_0, .slice A0_1 l0_1.length c0_1], .slice Ao14 y639.length co14] rfl (by first | rfl | (simp only [mA, mC, mN]; rfl)) ?_; (with_reducible refine (impl_graphCode.calls k a0_0 _ _ l0_1 _ _ y639 t642 _ (Kd.C_below HR0_1.out (BU HB)) HC0_1.out (rC HO641) ((Kd.R_reads' HO641.out).2.1) A4.out).mono ?_); rintro e w15 ⟨rfl, hb⟩; refine ⟨_, rfl, ?_⟩; replace HO641 := Fa.mk (Kd.R_below (rU HO641) hb); replace BK638 := Fa.mk (blk_below (bU BK638) hb); replace HB := Fa.mk (below_step (BU HB) hb); obtain ⟨hcz16_0, hcz16_1, hfz16_0, hfz16_1⟩ := cz2 BK638.out) | ((with_reducible refine gc 37 rfl ?_); refine gL 20 Tryd.func37 #[.agg #[.int .i64 a0_0, .slice A0_1 l0_1.length c0_1], .int .i64 a1] rfl (by first | rfl | (simp only [mA, mC, mN]; rfl)) ?_; (with_reducible refine (impl_Graph_distances.calls k a0_0 _ _ l0_1 a1 t643 _ (Kd.C_below HR0_1.out (BU HB)) HC0_1.out (Tab.below HT.out (BU HB)) A6.out).mono ?_); rintro e w17 ⟨v644, rfl, ho0, hb⟩; refine ⟨_, rfl, ?_⟩; have HO645 := Fa.mk (Kd.R_lower (Kd.R_new' ho0 (Kd.R_lt (rU HO641))) (below_size (BU HB))); replace HO641 := Fa.mk (Kd.R_elder' (rU HO641) (Kd.R_base ho0) hb); replace BK638 := Fa.mk (blk_below (bU BK638) hb); replace HB := Fa.mk (below_step (BU HB) hb); obtain ⟨Ao18, co18, eo18⟩ := Kd.R_slice HO645.out; subst eo18; have p646 : 0 ≤ (a2 : Int) := of_decide_eq_true (by assumption); have q646 : a2 < (t643.length : Int) := of_decide_eq_true (by assumption); obtain ⟨ad646, e646, hx646_0⟩ := Kd.at_int (Kd.R_reads' HO645.out).2.2 a2 p646 q646; cases e646; replace p646 := eq_true p646; replace q646 := eq_true q646))
          go_ret2
          exact ⟨rfl, BU HB⟩
        · rw [if_neg c9] at H
          have c9b0 := decide_eq_false c9
          clear c9
          simp only [Option.some.injEq, Prod.mk.injEq] at H
          obtain ⟨rfl, rfl⟩ := H
          go_enter Tryd.func13, Tryd.ntmps13
          go_wp2_with (first | ((with_reducible refine gd 3 rfl ?_); refine box_event ?hg (N := 3) ?hd (cs := #[.int .i64 a0_0, .slice A0_1 l0_1.length c0_1]) (t := 26) ?hr ?_; (case hd => rfl); (case hg => rfl); (case hr => first | (go_simp; done) | (go_simp; rfl)); intro gb638 hg w19 hbox hb; have BK638 := Fa.mk hbox; have GW638 := Fa.mk (bsz hg (BU HB) : w.heap.size ≤ gb638); have GE638 := GW638; replace HB := Fa.mk (below_step (BU HB) hb); clear hb hbox hg; obtain ⟨hcz20_0, hcz20_1, hfz20_0, hfz20_1⟩ := cz2 BK638.out) | ((with_reducible refine gd 13 rfl ?_); refine Kd.R_lit (Kd.int .i64) _ 2 ?hg (N := 13) ?hd (xs := ([a1, a2] : List Int)) (inner := [.int .i64 a1, .int .i64 a2]) (ok := fun _ => True) (okp := fun _ => True) ?hr ?hp (fun _ hk => hk) trivial (Below.refl _ _) (Nat.le_refl _) (by simp) ?_; (case hd => rfl); (case hg => rfl); (case hr => first | (go_simp; done) | (go_simp; rfl)); (case hp => exact (Reps.one (show Kd.M (Kd.int .i64) _ _ _ a1 [.int .i64 a1] from rfl) (Reps.one (show Kd.M (Kd.int .i64) _ _ _ a2 [.int .i64 a2] from rfl) (Reps.none _ _)))); intro v640 w21 ho22 hb hg_ hnew_; clear hg_ hnew_; (first | rw [← Ny639.out] at ho22 | (simp only [Int.reduceToNat] at ho22; rw [← Ny639.out] at ho22)); have HO641 := Fa.mk (Kd.R_lower ho22 (below_size (BU HB))); replace BK638 := Fa.mk (blk_below (bU BK638) hb); replace HB := Fa.mk (below_step (BU HB) hb); clear hb ho22; obtain ⟨Ao23, co23, eo23⟩ := Kd.R_slice HO641.out; subst eo23) | ((with_reducible refine gc 36 rfl ?_); refine gL 14 Tryd.func36 #[.agg #[.int .i64 a0_0, .slice A0_1 l0_1.length c0_1], .slice Ao23 y639.length co23] rfl (by first | rfl | (simp only [mA, mC, mN]; rfl)) ?_; (with_reducible refine (impl_graphCode.calls k a0_0 _ _ l0_1 _ _ y639 t642 _ (Kd.C_below HR0_1.out (BU HB)) HC0_1.out (rC HO641) ((Kd.R_reads' HO641.out).2.1) A4.out).mono ?_); rintro e w24 ⟨rfl, hb⟩; refine ⟨_, rfl, ?_⟩; replace HO641 := Fa.mk (Kd.R_below (rU HO641) hb); replace BK638 := Fa.mk (blk_below (bU BK638) hb); replace HB := Fa.mk (below_step (BU HB) hb); obtain ⟨hcz25_0, hcz25_1, hfz25_0, hfz25_1⟩ := cz2 BK638.out) | ((with_reducible refine gc 37 rfl ?_); refine gL 20 Tryd.func37 #[.agg #[.int .i64 a0_0, .slice A0_1 l0_1.length c0_1], .int .i64 a1] rfl (by first | rfl | (simp only [mA, mC, mN]; rfl)) ?_; (with_reducible refine (impl_Graph_distances.calls k a0_0 _ _ l0_1 a1 t643 _ (Kd.C_below HR0_1.out (BU HB)) HC0_1.out (Tab.below HT.out (BU HB)) A6.out).mono ?_); rintro e w26 ⟨v644, rfl, ho0, hb⟩; refine ⟨_, rfl, ?_⟩; have HO645 := Fa.mk (Kd.R_lower (Kd.R_new' ho0 (Kd.R_lt (rU HO641))) (below_size (BU HB))); replace HO641 := Fa.mk (Kd.R_elder' (rU HO641) (Kd.R_base ho0) hb); replace BK638 := Fa.mk (blk_below (bU BK638) hb); replace HB := Fa.mk (below_step (BU HB) hb); obtain ⟨Ao27, co27, eo27⟩ := Kd.R_slice HO645.out; subst eo27; have p646 : 0 ≤ (a2 : Int) := of_decide_eq_true (by assumption); have q646 : a2 < (t643.length : Int) := of_decide_eq_true (by assumption); obtain ⟨ad646, e646, hx646_0⟩ := Kd.at_int (Kd.R_reads' HO645.out).2.2 a2 p646 q646; cases e646; replace p646 := eq_true p646; replace q646 := eq_true q646))
          go_ret2
          exact ⟨rfl, BU HB⟩
      · rw [if_neg c8] at H
        exact absurd H (by simp)
    · rw [if_neg c7] at H
      exact absurd H (by simp)
  · rw [if_neg c5] at H
    have c5b0 := beq_eq_false_iff_ne.mpr c5
    have c5b1 := bne_iff_ne.mpr c5
    simp only [Option.some.injEq, Prod.mk.injEq] at H
    obtain ⟨rfl, rfl⟩ := H
    go_enter Tryd.func13, Tryd.ntmps13
    go_wp2_with (first | ((with_reducible refine gd 3 rfl ?_); refine box_event ?hg (N := 3) ?hd (cs := #[.int .i64 a0_0, .slice A0_1 l0_1.length c0_1]) (t := 26) ?hr ?_; (case hd => rfl); (case hg => rfl); (case hr => first | (go_simp; done) | (go_simp; rfl)); intro gb638 hg w28 hbox hb; have BK638 := Fa.mk hbox; have GW638 := Fa.mk (bsz hg (BU HB) : w.heap.size ≤ gb638); have GE638 := GW638; replace HB := Fa.mk (below_step (BU HB) hb); clear hb hbox hg; obtain ⟨hcz29_0, hcz29_1, hfz29_0, hfz29_1⟩ := cz2 BK638.out) | ((with_reducible refine gd 13 rfl ?_); refine Kd.R_lit (Kd.int .i64) _ 2 ?hg (N := 13) ?hd (xs := ([a1, a2] : List Int)) (inner := [.int .i64 a1, .int .i64 a2]) (ok := fun _ => True) (okp := fun _ => True) ?hr ?hp (fun _ hk => hk) trivial (Below.refl _ _) (Nat.le_refl _) (by simp) ?_; (case hd => rfl); (case hg => rfl); (case hr => first | (go_simp; done) | (go_simp; rfl)); (case hp => exact (Reps.one (show Kd.M (Kd.int .i64) _ _ _ a1 [.int .i64 a1] from rfl) (Reps.one (show Kd.M (Kd.int .i64) _ _ _ a2 [.int .i64 a2] from rfl) (Reps.none _ _)))); intro v640 w30 ho31 hb hg_ hnew_; clear hg_ hnew_; (first | rw [← Ny639.out] at ho31 | (simp only [Int.reduceToNat] at ho31; rw [← Ny639.out] at ho31)); have HO641 := Fa.mk (Kd.R_lower ho31 (below_size (BU HB))); replace BK638 := Fa.mk (blk_below (bU BK638) hb); replace HB := Fa.mk (below_step (BU HB) hb); clear hb ho31; obtain ⟨Ao32, co32, eo32⟩ := Kd.R_slice HO641.out; subst eo32) | ((with_reducible refine gc 36 rfl ?_); refine gL 14 Tryd.func36 #[.agg #[.int .i64 a0_0, .slice A0_1 l0_1.length c0_1], .slice Ao32 y639.length co32] rfl (by first | rfl | (simp only [mA, mC, mN]; rfl)) ?_; (with_reducible refine (impl_graphCode.calls k a0_0 _ _ l0_1 _ _ y639 t642 _ (Kd.C_below HR0_1.out (BU HB)) HC0_1.out (rC HO641) ((Kd.R_reads' HO641.out).2.1) A4.out).mono ?_); rintro e w33 ⟨rfl, hb⟩; refine ⟨_, rfl, ?_⟩; replace HO641 := Fa.mk (Kd.R_below (rU HO641) hb); replace BK638 := Fa.mk (blk_below (bU BK638) hb); replace HB := Fa.mk (below_step (BU HB) hb)))
    go_ret2
    exact ⟨rfl, BU HB⟩

/-! ### spec_DistanceOf: function 14 -/
def spec_DistanceOf.f (k : Nat) (a0_0 : Int) (l0_1 : List Int) (a1 : Int) (a2 : Int) : Option (Int × Int) := (spec_l02Code.f k a0_0 l0_1 (([a1, a2] : List Int))).bind fun t651 => (if t651 = 0 then ((spec_l02From.f k a0_0 l0_1 a1 (-1) (-1)).bind fun t652 => (if 0 ≤ a2 then (if a2 < (t652.length : Int) then (if (rd t652 a2) < 0 then (some (0, 4)) else (some (rd t652 a2, 0))) else (none)) else (none))) else (some (0, t651)))
set_option maxHeartbeats 8000000 in
set_option maxRecDepth 100000 in
theorem spec_DistanceOf.calls (k : Nat) (a0_0 : Int) (A0_1 : Option Addr) (c0_1 : Nat) (l0_1 : List Int) (a1 : Int) (a2 : Int) (r1 : Int) (r2 : Int) (w : World) (hr0_1 : Kd.C (Kd.int .i64) w A0_1 l0_1.length l0_1) (hc0_1 : l0_1.length ≤ c0_1) (h : spec_DistanceOf.f k a0_0 l0_1 a1 a2 = some (r1, r2)) :
    Calls Tryd.prog 14 #[.agg #[.int .i64 a0_0, .slice A0_1 l0_1.length c0_1], .int .i64 a1, .int .i64 a2] w fun e w' => e = .returned (.tuple #[.int .i64 r1, .int .i64 r2]) ∧ Below w.heap.size w w' := by
  have hu26 := Tryd.underlying26
  have HR0_1 := Fa.mk hr0_1
  have HC0_1 := Fa.mk hc0_1
  clear hr0_1 hc0_1
  have HB := Fa.mk (Below.refl w.heap.size w)
  unfold spec_DistanceOf.f at h; have H := h
  clear h
  obtain ⟨y648, hy648⟩ : ∃ y_ : List Int, y_ = (([a1, a2] : List Int)) := ⟨_, rfl⟩
  first | replace H := bs_ hy648 H | rw [← hy648] at H
  have Ny648 := Fa.mk hy648
  clear hy648
  replace H := Option.bind_eq_some_iff.mp H
  obtain ⟨t651, A40, H⟩ := H
  replace H : (if t651 = 0 then ((spec_l02From.f k a0_0 l0_1 a1 (-1) (-1)).bind fun t652 => (if 0 ≤ a2 then (if a2 < (t652.length : Int) then (if (rd t652 a2) < 0 then (some (0, 4)) else (some (rd t652 a2, 0))) else (none)) else (none))) else (some (0, t651))) = some (r1, r2) := H
  have A4 := Fa.mk A40
  clear A40
  by_cases c5 : t651 = 0
  · rw [if_pos c5] at H
    have c5b0 := beq_iff_eq.mpr c5
    have c5b1 := bne_eq_false_iff_eq.mpr c5
    clear c5
    replace H := Option.bind_eq_some_iff.mp H
    obtain ⟨t652, A60, H⟩ := H
    replace H : (if 0 ≤ a2 then (if a2 < (t652.length : Int) then (if (rd t652 a2) < 0 then (some (0, 4)) else (some (rd t652 a2, 0))) else (none)) else (none)) = some (r1, r2) := H
    have A6 := Fa.mk A60
    clear A60
    by_cases c7 : 0 ≤ a2
    · rw [if_pos c7] at H
      have c7b0 := decide_eq_true c7
      clear c7
      by_cases c8 : a2 < (t652.length : Int)
      · rw [if_pos c8] at H
        have c8b0 := decide_eq_true c8
        clear c8
        by_cases c9 : (rd t652 a2) < 0
        · rw [if_pos c9] at H
          have c9b0 := decide_eq_true c9
          clear c9
          simp only [Option.some.injEq, Prod.mk.injEq] at H
          obtain ⟨rfl, rfl⟩ := H
          go_enter Tryd.func14, Tryd.ntmps14
          go_wp2_with (first | ((with_reducible refine gd 3 rfl ?_); refine box_event ?hg (N := 3) ?hd (cs := #[.int .i64 a0_0, .slice A0_1 l0_1.length c0_1]) (t := 26) ?hr ?_; (case hd => rfl); (case hg => rfl); (case hr => first | (go_simp; done) | (go_simp; rfl)); intro gb647 hg w10 hbox hb; have BK647 := Fa.mk hbox; have GW647 := Fa.mk (bsz hg (BU HB) : w.heap.size ≤ gb647); have GE647 := GW647; replace HB := Fa.mk (below_step (BU HB) hb); clear hb hbox hg; obtain ⟨hcz11_0, hcz11_1, hfz11_0, hfz11_1⟩ := cz2 BK647.out) | ((with_reducible refine gd 13 rfl ?_); refine Kd.R_lit (Kd.int .i64) _ 2 ?hg (N := 13) ?hd (xs := ([a1, a2] : List Int)) (inner := [.int .i64 a1, .int .i64 a2]) (ok := fun _ => True) (okp := fun _ => True) ?hr ?hp (fun _ hk => hk) trivial (Below.refl _ _) (Nat.le_refl _) (by simp) ?_; (case hd => rfl); (case hg => rfl); (case hr => first | (go_simp; done) | (go_simp; rfl)); (case hp => exact (Reps.one (show Kd.M (Kd.int .i64) _ _ _ a1 [.int .i64 a1] from rfl) (Reps.one (show Kd.M (Kd.int .i64) _ _ _ a2 [.int .i64 a2] from rfl) (Reps.none _ _)))); intro v649 w12 ho13 hb hg_ hnew_; clear hg_ hnew_; (first | rw [← Ny648.out] at ho13 | (simp only [Int.reduceToNat] at ho13; rw [← Ny648.out] at ho13)); have HO650 := Fa.mk (Kd.R_lower ho13 (below_size (BU HB))); replace BK647 := Fa.mk (blk_below (bU BK647) hb); replace HB := Fa.mk (below_step (BU HB) hb); clear hb ho13; obtain ⟨Ao14, co14, eo14⟩ := Kd.R_slice HO650.out; subst eo14) | ((with_reducible refine gc 38 rfl ?_); refine gL 14 Tryd.func38 #[.agg #[.int .i64 a0_0, .slice A0_1 l0_1.length c0_1], .slice Ao14 y648.length co14] rfl (by first | rfl | (simp only [mA, mC, mN]; rfl)) ?_; (with_reducible refine (spec_l02Code.calls k a0_0 _ _ l0_1 _ _ y648 t651 _ (Kd.C_below HR0_1.out (BU HB)) HC0_1.out (rC HO650) ((Kd.R_reads' HO650.out).2.1) A4.out).mono ?_); rintro e w15 ⟨rfl, hb⟩; refine ⟨_, rfl, ?_⟩; replace HO650 := Fa.mk (Kd.R_below (rU HO650) hb); replace BK647 := Fa.mk (blk_below (bU BK647) hb); replace HB := Fa.mk (below_step (BU HB) hb); obtain ⟨hcz16_0, hcz16_1, hfz16_0, hfz16_1⟩ := cz2 BK647.out) | ((with_reducible refine gc 39 rfl ?_); refine gL 20 Tryd.func39 #[.agg #[.int .i64 a0_0, .slice A0_1 l0_1.length c0_1], .int .i64 a1, .int .i64 (-1), .int .i64 (-1)] rfl (by first | rfl | (simp only [mA, mC, mN]; rfl)) ?_; (with_reducible refine (spec_l02From.calls k a0_0 _ _ l0_1 a1 (-1) (-1) t652 _ (Kd.C_below HR0_1.out (BU HB)) HC0_1.out A6.out).mono ?_); rintro e w17 ⟨v653, rfl, ho0, hb⟩; refine ⟨_, rfl, ?_⟩; have HO654 := Fa.mk (Kd.R_lower (Kd.R_new' ho0 (Kd.R_lt (rU HO650))) (below_size (BU HB))); replace HO650 := Fa.mk (Kd.R_elder' (rU HO650) (Kd.R_base ho0) hb); replace BK647 := Fa.mk (blk_below (bU BK647) hb); replace HB := Fa.mk (below_step (BU HB) hb); obtain ⟨Ao18, co18, eo18⟩ := Kd.R_slice HO654.out; subst eo18; have p655 : 0 ≤ (a2 : Int) := of_decide_eq_true (by assumption); have q655 : a2 < (t652.length : Int) := of_decide_eq_true (by assumption); obtain ⟨ad655, e655, hx655_0⟩ := Kd.at_int (Kd.R_reads' HO654.out).2.2 a2 p655 q655; cases e655; replace p655 := eq_true p655; replace q655 := eq_true q655))
          go_ret2
          exact ⟨rfl, BU HB⟩
        · rw [if_neg c9] at H
          have c9b0 := decide_eq_false c9
          clear c9
          simp only [Option.some.injEq, Prod.mk.injEq] at H
          obtain ⟨rfl, rfl⟩ := H
          go_enter Tryd.func14, Tryd.ntmps14
          go_wp2_with (first | ((with_reducible refine gd 3 rfl ?_); refine box_event ?hg (N := 3) ?hd (cs := #[.int .i64 a0_0, .slice A0_1 l0_1.length c0_1]) (t := 26) ?hr ?_; (case hd => rfl); (case hg => rfl); (case hr => first | (go_simp; done) | (go_simp; rfl)); intro gb647 hg w19 hbox hb; have BK647 := Fa.mk hbox; have GW647 := Fa.mk (bsz hg (BU HB) : w.heap.size ≤ gb647); have GE647 := GW647; replace HB := Fa.mk (below_step (BU HB) hb); clear hb hbox hg; obtain ⟨hcz20_0, hcz20_1, hfz20_0, hfz20_1⟩ := cz2 BK647.out) | ((with_reducible refine gd 13 rfl ?_); refine Kd.R_lit (Kd.int .i64) _ 2 ?hg (N := 13) ?hd (xs := ([a1, a2] : List Int)) (inner := [.int .i64 a1, .int .i64 a2]) (ok := fun _ => True) (okp := fun _ => True) ?hr ?hp (fun _ hk => hk) trivial (Below.refl _ _) (Nat.le_refl _) (by simp) ?_; (case hd => rfl); (case hg => rfl); (case hr => first | (go_simp; done) | (go_simp; rfl)); (case hp => exact (Reps.one (show Kd.M (Kd.int .i64) _ _ _ a1 [.int .i64 a1] from rfl) (Reps.one (show Kd.M (Kd.int .i64) _ _ _ a2 [.int .i64 a2] from rfl) (Reps.none _ _)))); intro v649 w21 ho22 hb hg_ hnew_; clear hg_ hnew_; (first | rw [← Ny648.out] at ho22 | (simp only [Int.reduceToNat] at ho22; rw [← Ny648.out] at ho22)); have HO650 := Fa.mk (Kd.R_lower ho22 (below_size (BU HB))); replace BK647 := Fa.mk (blk_below (bU BK647) hb); replace HB := Fa.mk (below_step (BU HB) hb); clear hb ho22; obtain ⟨Ao23, co23, eo23⟩ := Kd.R_slice HO650.out; subst eo23) | ((with_reducible refine gc 38 rfl ?_); refine gL 14 Tryd.func38 #[.agg #[.int .i64 a0_0, .slice A0_1 l0_1.length c0_1], .slice Ao23 y648.length co23] rfl (by first | rfl | (simp only [mA, mC, mN]; rfl)) ?_; (with_reducible refine (spec_l02Code.calls k a0_0 _ _ l0_1 _ _ y648 t651 _ (Kd.C_below HR0_1.out (BU HB)) HC0_1.out (rC HO650) ((Kd.R_reads' HO650.out).2.1) A4.out).mono ?_); rintro e w24 ⟨rfl, hb⟩; refine ⟨_, rfl, ?_⟩; replace HO650 := Fa.mk (Kd.R_below (rU HO650) hb); replace BK647 := Fa.mk (blk_below (bU BK647) hb); replace HB := Fa.mk (below_step (BU HB) hb); obtain ⟨hcz25_0, hcz25_1, hfz25_0, hfz25_1⟩ := cz2 BK647.out) | ((with_reducible refine gc 39 rfl ?_); refine gL 20 Tryd.func39 #[.agg #[.int .i64 a0_0, .slice A0_1 l0_1.length c0_1], .int .i64 a1, .int .i64 (-1), .int .i64 (-1)] rfl (by first | rfl | (simp only [mA, mC, mN]; rfl)) ?_; (with_reducible refine (spec_l02From.calls k a0_0 _ _ l0_1 a1 (-1) (-1) t652 _ (Kd.C_below HR0_1.out (BU HB)) HC0_1.out A6.out).mono ?_); rintro e w26 ⟨v653, rfl, ho0, hb⟩; refine ⟨_, rfl, ?_⟩; have HO654 := Fa.mk (Kd.R_lower (Kd.R_new' ho0 (Kd.R_lt (rU HO650))) (below_size (BU HB))); replace HO650 := Fa.mk (Kd.R_elder' (rU HO650) (Kd.R_base ho0) hb); replace BK647 := Fa.mk (blk_below (bU BK647) hb); replace HB := Fa.mk (below_step (BU HB) hb); obtain ⟨Ao27, co27, eo27⟩ := Kd.R_slice HO654.out; subst eo27; have p655 : 0 ≤ (a2 : Int) := of_decide_eq_true (by assumption); have q655 : a2 < (t652.length : Int) := of_decide_eq_true (by assumption); obtain ⟨ad655, e655, hx655_0⟩ := Kd.at_int (Kd.R_reads' HO654.out).2.2 a2 p655 q655; cases e655; replace p655 := eq_true p655; replace q655 := eq_true q655))
          go_ret2
          exact ⟨rfl, BU HB⟩
      · rw [if_neg c8] at H
        exact absurd H (by simp)
    · rw [if_neg c7] at H
      exact absurd H (by simp)
  · rw [if_neg c5] at H
    have c5b0 := beq_eq_false_iff_ne.mpr c5
    have c5b1 := bne_iff_ne.mpr c5
    simp only [Option.some.injEq, Prod.mk.injEq] at H
    obtain ⟨rfl, rfl⟩ := H
    go_enter Tryd.func14, Tryd.ntmps14
    go_wp2_with (first | ((with_reducible refine gd 3 rfl ?_); refine box_event ?hg (N := 3) ?hd (cs := #[.int .i64 a0_0, .slice A0_1 l0_1.length c0_1]) (t := 26) ?hr ?_; (case hd => rfl); (case hg => rfl); (case hr => first | (go_simp; done) | (go_simp; rfl)); intro gb647 hg w28 hbox hb; have BK647 := Fa.mk hbox; have GW647 := Fa.mk (bsz hg (BU HB) : w.heap.size ≤ gb647); have GE647 := GW647; replace HB := Fa.mk (below_step (BU HB) hb); clear hb hbox hg; obtain ⟨hcz29_0, hcz29_1, hfz29_0, hfz29_1⟩ := cz2 BK647.out) | ((with_reducible refine gd 13 rfl ?_); refine Kd.R_lit (Kd.int .i64) _ 2 ?hg (N := 13) ?hd (xs := ([a1, a2] : List Int)) (inner := [.int .i64 a1, .int .i64 a2]) (ok := fun _ => True) (okp := fun _ => True) ?hr ?hp (fun _ hk => hk) trivial (Below.refl _ _) (Nat.le_refl _) (by simp) ?_; (case hd => rfl); (case hg => rfl); (case hr => first | (go_simp; done) | (go_simp; rfl)); (case hp => exact (Reps.one (show Kd.M (Kd.int .i64) _ _ _ a1 [.int .i64 a1] from rfl) (Reps.one (show Kd.M (Kd.int .i64) _ _ _ a2 [.int .i64 a2] from rfl) (Reps.none _ _)))); intro v649 w30 ho31 hb hg_ hnew_; clear hg_ hnew_; (first | rw [← Ny648.out] at ho31 | (simp only [Int.reduceToNat] at ho31; rw [← Ny648.out] at ho31)); have HO650 := Fa.mk (Kd.R_lower ho31 (below_size (BU HB))); replace BK647 := Fa.mk (blk_below (bU BK647) hb); replace HB := Fa.mk (below_step (BU HB) hb); clear hb ho31; obtain ⟨Ao32, co32, eo32⟩ := Kd.R_slice HO650.out; subst eo32) | ((with_reducible refine gc 38 rfl ?_); refine gL 14 Tryd.func38 #[.agg #[.int .i64 a0_0, .slice A0_1 l0_1.length c0_1], .slice Ao32 y648.length co32] rfl (by first | rfl | (simp only [mA, mC, mN]; rfl)) ?_; (with_reducible refine (spec_l02Code.calls k a0_0 _ _ l0_1 _ _ y648 t651 _ (Kd.C_below HR0_1.out (BU HB)) HC0_1.out (rC HO650) ((Kd.R_reads' HO650.out).2.1) A4.out).mono ?_); rintro e w33 ⟨rfl, hb⟩; refine ⟨_, rfl, ?_⟩; replace HO650 := Fa.mk (Kd.R_below (rU HO650) hb); replace BK647 := Fa.mk (blk_below (bU BK647) hb); replace HB := Fa.mk (below_step (BU HB) hb)))
    go_ret2
    exact ⟨rfl, BU HB⟩

/-! ### slices_Max_int64_int64: function 41 -/
def slices_Max_int64_int64.l0 : Nat → List Int → Int → Int → Option (Int)
  | 0, _, _, _ => none
  | k + 1, x0, x3, x4 => if x4 < (x0.length : Int) then (if 0 ≤ x4 then (slices_Max_int64_int64.l0 k x0 (mx x3 (rd x0 x4)) (wrap64 (x4 + 1))) else (none)) else (some x3)
def slices_Max_int64_int64.f (k : Nat) (l0 : List Int) : Option (Int) := if (l0.length : Int) < 1 then (none) else (if 0 < (l0.length : Int) then (slices_Max_int64_int64.l0 k l0 (rd l0 0) 1) else (none))
set_option maxHeartbeats 8000000 in
set_option maxRecDepth 100000 in
theorem slices_Max_int64_int64.calls (k : Nat) (A0 : Option Addr) (c0 : Nat) (l0 : List Int) (r : Int) (w : World) (hr0 : Kd.C (Kd.int .i64) w A0 l0.length l0) (hc0 : l0.length ≤ c0) (h : slices_Max_int64_int64.f k l0 = some r) :
    Calls Tryd.prog 41 #[.slice A0 l0.length c0] w fun e w' => e = .returned (.int .i64 r) ∧ Below w.heap.size w w' := by
  have HR0 := Fa.mk hr0
  have HC0 := Fa.mk hc0
  clear hr0 hc0
  have HB := Fa.mk (Below.refl w.heap.size w)
  unfold slices_Max_int64_int64.f at h; have H := h
  clear h
  by_cases c2 : (l0.length : Int) < 1
  · rw [if_pos c2] at H
    exact absurd H (by simp)
  · rw [if_neg c2] at H
    have c2b0 := decide_eq_false c2
    have c2b1 : decide (l0.length < 1) = false := decide_eq_false (by omega)
    clear c2
    by_cases c3 : 0 < (l0.length : Int)
    · rw [if_pos c3] at H
      have c3b0 := decide_eq_true c3
      have c3b1 : decide (0 < l0.length) = true := decide_eq_true (by omega)
      clear c3
      have H' := Fa.mk H
      clear H
      have p656 : 0 ≤ (0 : Int) := (by omega)
      have q656 : 0 < (l0.length : Int) := of_decide_eq_true (by assumption)
      obtain ⟨ad656, e656, hx656_0⟩ := Kd.at_int HR0.out 0 p656 q656
      cases e656
      have qi656 : (0 < l0.length) = True := eq_true (by omega)
      (try rw [show ((0 : Int)).toNat = 0 from rfl] at hx656_0)
      (try rw [Addr.add_zero'] at hx656_0)
      replace p656 := eq_true p656
      replace q656 := eq_true q656
      go_enter Tryd.func41, Tryd.ntmps41
      go_wp2
      go_loopg [3, 4] k (fun kq v3 v4 w' => ∃ (x3_1 : Int) (x4_1 : Int), v3 = .int .i64 x3_1 ∧ v4 = .int .i64 x4_1 ∧ Fa (slices_Max_int64_int64.l0 kq l0 x3_1 x4_1 = some r) ∧ Fa (kq ≤ k) ∧ Fa (Below w.heap.size w w'))
      case atStart => exact ⟨(rd l0 0), (1), rfl, rfl, H', ⟨Nat.le_refl _⟩, ⟨BU HB⟩⟩
      case round =>
        clear H'
        obtain ⟨x3_1, x4_1, rfl, rfl, HA, HK1, HB⟩ := hrel
        cases gk with
        | zero => exact absurd HA.out (by simp [slices_Max_int64_int64.l0])
        | succ k1 =>
          have H := HA.out
          clear HA
          simp only [slices_Max_int64_int64.l0] at H
          by_cases c4 : x4_1 < (l0.length : Int)
          · rw [if_pos c4] at H
            have c4b0 := decide_eq_true c4
            clear c4
            by_cases c5 : 0 ≤ x4_1
            · rw [if_pos c5] at H
              have c5b0 := decide_eq_true c5
              clear c5
              obtain ⟨ji6, hji6⟩ : ∃ j_ : Int, (mx x3_1 (rd l0 x4_1)) = j_ := ⟨_, rfl⟩
              rw [hji6] at H
              have hji6_ : (if x3_1 < (rd l0 x4_1) then (rd l0 x4_1) else x3_1) = ji6 := hji6
              have H' := Fa.mk H
              clear H
              have p657 : 0 ≤ (x4_1 : Int) := of_decide_eq_true (by assumption)
              have q657 : x4_1 < (l0.length : Int) := of_decide_eq_true (by assumption)
              obtain ⟨ad657, e657, hx657_0⟩ := Kd.at_int HR0.out x4_1 p657 q657
              obtain rfl : ad656 = ad657 := (by injection e657)
              replace hx657_0 := (HB.out.cell (World.block_lt_of_cell? w _ hx657_0)).trans hx657_0
              replace p657 := eq_true p657
              replace q657 := eq_true q657
              go_wp2
              go_roundg k1
              case measure => have := HK1.out; omega
              case rel => exact ⟨(ji6), (wrap64 (x4_1 + 1)), (by first | rfl | (simp; done) | (simp only [← hji6] <;> (first | rfl | simp)) | (simp [*]; done)), rfl, H', ⟨by have := HK1.out; omega⟩, ⟨BU HB⟩⟩
            · rw [if_neg c5] at H
              exact absurd H (by simp)
          · rw [if_neg c4] at H
            have c4b0 := decide_eq_false c4
            clear c4
            obtain rfl := Option.some.inj H
            go_wp2
            go_ret
            exact ⟨rfl, BU HB⟩
    · rw [if_neg c3] at H
      exact absurd H (by simp)

end Go.Proofs.YtockngphfpedkaaDoor.XFnDistances
