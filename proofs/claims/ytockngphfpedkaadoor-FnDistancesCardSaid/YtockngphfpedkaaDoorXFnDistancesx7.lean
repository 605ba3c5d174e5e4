-- Written by this project's own program (mprint.py) by means of the kit's printer: with contracts of its own for the functions that the printer leaves out.
import Derived.Test.YtockngphfpedkaaDoorXFnDistancesx0
import Derived.Test.YtockngphfpedkaaDoorXFnDistancesx1
import Derived.Test.YtockngphfpedkaaDoorXFnDistancesx3
namespace Go.Proofs.YtockngphfpedkaaDoor.XFnDistances
open Go.RowKit Go.Proofs.YtockngphfpedkaaDoorW.PrintWords Go.Proofs.YtockngphfpedkaaDoorW.PrintLast Go.Proofs.YtockngphfpedkaaDoorW.PrintMore
attribute [local go_sem] max2_int min2_int max_two min_two max_three min_three max_four min_four   -- for this text's walks alone
set_option linter.unusedVariables false
set_option linter.unusedSimpArgs false

/-! ### spec_l01DrawOrder: function 105 -/
def spec_l01DrawOrder.l0 : Nat → Int → List Int → Int → List Int → Int → Int → Option (List Int × Int × Int)
  | 0, _, _, _, _, _, _ => none
  | k + 1, x1, x5, x6, x1000, x1001, x1002 => if x6 < x1 then ((spec_l01Next.f x1000 x1001 x1002 (wrap64 (x6 + 1))).bind fun bt293 => (if 0 ≤ bt293.1 then (if bt293.1 ≤ (x5.length : Int) then ((spec_l01Own.f (x5.take (bt293.1 : Int).toNat)).bind fun t300 => ((some (([x6] : List Int) : List Int)).bind fun y303 => (if t300.length + y303.length < 17592186044416 then ((some (t300 ++ y303 : List Int)).bind fun y306 => ((some (x5.drop (bt293.1 : Int).toNat : List Int)).bind fun y309 => (if y306.length + y309.length < 17592186044416 then (spec_l01DrawOrder.l0 k x1 (y306 ++ y309) (wrap64 (x6 + 1)) x1000 bt293.2.1 bt293.2.2) else (none)))) else (none)))) else (none)) else (none))) else (some (x5, x1001, x1002))
def spec_l01DrawOrder.f (k : Nat) (s0_0 : List Int) (s0_1 : Int) (s0_2 : Int) (a1 : Int) : Option (List Int × Int × Int) := spec_l01DrawOrder.l0 k a1 (([] : List Int)) 0 s0_0 s0_1 s0_2
def spec_l01DrawOrder.T6 : Bool × List (List Nat × List Nat) := (true, [([], []), ([], []), ([0, 1], [0, 1]), ([2], [2]), ([], []), ([4], [4]), ([3, 5, 3], [3, 5]), ([], []), ([], []), ([7, 8], [7, 8]), ([6, 9, 6], [6, 9]), ([10, 10, 0, 1, 2, 3, 4, 5, 6, 7, 8, 9, 10], [0, 7, 10])])
def spec_l01DrawOrder.B6 : List Nat := [0, 0, 3, 7, 0, 16, 63, 0, 0, 384, 1023, 2047]
theorem spec_l01DrawOrder.tab6 : rtab .any (opsOf Tryd.f105 6) = spec_l01DrawOrder.T6 := by kernel_rfl
theorem spec_l01DrawOrder.bits6 : waitsOk spec_l01DrawOrder.T6.2 spec_l01DrawOrder.B6 = true := by kernel_rfl
set_option maxHeartbeats 8000000 in
set_option maxRecDepth 100000 in
theorem spec_l01DrawOrder.calls (k : Nat) (g : Nat) (s0_0 : List Int) (s0_1 : Int) (s0_2 : Int) (a1 : Int) (r1 : List Int) (r2 : Int) (r3 : Int) (w0 w : World) (hI : IsS92 w0 w g s0_0 s0_1 s0_2) (hB : Below w0.heap.size w0 w) (h : spec_l01DrawOrder.f k s0_0 s0_1 s0_2 a1 = some (r1, r2, r3)) :
    Calls Tryd.prog 105 #[.pointer (some ⟨g, 0, none⟩), .int .i64 a1] w fun e w' => ∃ v0_ : Value, e = .returned (v0_) ∧ Kd.R (Kd.int .i64) 2 w' w.heap.size (fun _ => True) v0_ r1 ∧ IsS92 w0 w' g s0_0 r2 r3 ∧ Below w0.heap.size w0 w' ∧ KeepBut w w' g none := by
  have HI0 := Fa.mk hI
  have HK := Fa.mk (KeepBut.refl w g none)
  have HL := Fa.mk hB.size
  clear hI
  have HW0 := Fa.mk hB.size
  have HB := Fa.mk hB
  clear hB
  have H : (spec_l01DrawOrder.l0 k a1 (([] : List Int)) 0 s0_0 s0_1 s0_2) = some (r1, r2, r3) := h
  clear h
  obtain ⟨y290, hy290⟩ : ∃ y_ : List Int, y_ = (([] : List Int)) := ⟨_, rfl⟩
  first | replace H := bs_ hy290 H | rw [← hy290] at H
  have Ny290 := Fa.mk hy290
  clear hy290
  have H' := Fa.mk H
  clear H
  go_enter Tryd.func105, Tryd.ntmps105
  go_wp2_with (first | ((with_reducible refine gd 8 rfl ?_); refine Kd.R_lit (Kd.int .i64) _ 2 ?hg (N := 8) ?hd (xs := ([] : List Int)) (inner := []) (ok := fun _ => True) (okp := fun _ => True) ?hr ?hp (fun _ hk => hk) trivial (Below.refl _ _) (Nat.le_refl _) (by simp) ?_; (case hd => rfl); (case hg => rfl); (case hr => first | (go_simp; done) | (go_simp; rfl)); (case hp => exact (Reps.none _ _)); intro v291 w3 ho4 hb hg_ hnew_; clear hg_ hnew_; (first | rw [← Ny290.out] at ho4 | (simp only [Int.reduceToNat] at ho4; rw [← Ny290.out] at ho4)); have HO292 := Fa.mk (Kd.R_lower ho4 (keep_size (w := w) (g := g) (row := none) (kU HK))); replace HI0 := Fa.mk (IsS92.below (sU HI0) hb); replace HK := Fa.mk (KeepBut.trans (kU HK) (KeepBut.of_below hb g none) (.inl rfl)); replace HB := Fa.mk (below_step (BU HB) hb); clear hb ho4))
  go_loopg [5, 6] k (fun kq v5 v6 w' => ∃ (x5_1 : List Int) (x6_1 : Int) (x1001_1 : Int) (x1002_1 : Int), v6 = .int .i64 x6_1 ∧ Fa (spec_l01DrawOrder.l0 kq a1 x5_1 x6_1 s0_0 x1001_1 x1002_1 = some (r1, r2, r3)) ∧ Fa (kq ≤ k) ∧ Fa (Kd.R (Kd.int .i64) 2 w' w.heap.size (fun _ => True) v5 x5_1) ∧ Fa (IsS92 w0 w' g s0_0 x1001_1 x1002_1) ∧ Fa (KeepBut w w' g none) ∧ Fa (Below w0.heap.size w0 w'))
  case atStart => exact ⟨(y290), (0), (s0_1), (s0_2), rfl, H', ⟨Nat.le_refl _⟩, ⟨rU HO292⟩, ⟨oo⟩, ⟨kU HK⟩, ⟨BU HB⟩⟩
  case round =>
    clear H'
    obtain ⟨x5_1, x6_1, x1001_1, x1002_1, rfl, HA, HK1, HO_5, HI0, HK, HB⟩ := hrel
    cases gk with
    | zero => exact absurd HA.out (by simp [spec_l01DrawOrder.l0])
    | succ k1 =>
      have H := HA.out
      clear HA
      simp only [spec_l01DrawOrder.l0] at H
      by_cases c5 : x6_1 < a1
      · rw [if_pos c5] at H
        have c5b0 := decide_eq_true c5
        clear c5
        replace H := Option.bind_eq_some_iff.mp H
        obtain ⟨⟨t293, t294, t295⟩, A60, H⟩ := H
        dsimp only at H
        have A6 := Fa.mk A60
        clear A60
        by_cases c7 : 0 ≤ t293
        · rw [if_pos c7] at H
          have c7b0 := eq_true c7
          have c7b1 := decide_eq_true c7
          clear c7
          by_cases c8 : t293 ≤ (x5_1.length : Int)
          · rw [if_pos c8] at H
            have c8b0 := eq_true c8
            have c8b1 := decide_eq_true c8
            clear c8
            obtain ⟨y296, hy296⟩ : ∃ y_ : List Int, y_ = (x5_1.take (t293 : Int).toNat) := ⟨_, rfl⟩
            first | replace H := bs_ hy296 H | rw [← hy296] at H
            have Ny296 := Fa.mk hy296
            clear hy296
            replace H := Option.bind_eq_some_iff.mp H
            obtain ⟨t300, A90, H⟩ := H
            replace H : ((some (([x6_1] : List Int) : List Int)).bind fun y303 => (if t300.length + y303.length < 17592186044416 then ((some (t300 ++ y303 : List Int)).bind fun y306 => ((some (x5_1.drop (t293 : Int).toNat : List Int)).bind fun y309 => (if y306.length + y309.length < 17592186044416 then (spec_l01DrawOrder.l0 k1 a1 (y306 ++ y309) (wrap64 (x6_1 + 1)) s0_0 t294 t295) else (none)))) else (none))) = some (r1, r2, r3) := H
            have A9 := Fa.mk A90
            clear A90
            obtain ⟨y303, hy303⟩ : ∃ y_ : List Int, y_ = (([x6_1] : List Int)) := ⟨_, rfl⟩
            first | replace H := bs_ hy303 H | rw [← hy303] at H
            have Ny303 := Fa.mk hy303
            clear hy303
            by_cases c10 : t300.length + y303.length < 17592186044416
            · rw [if_pos c10] at H
              have LMc10 := Fa.mk c10
              clear c10
              obtain ⟨y306, hy306⟩ : ∃ y_ : List Int, y_ = (t300 ++ y303) := ⟨_, rfl⟩
              first | replace H := bs_ hy306 H | rw [← hy306] at H
              have Ny306 := Fa.mk hy306
              clear hy306
              have c11b0 := eq_true (of_decide_eq_true (by assumption) : 0 ≤ t293)
              have c12b0 := eq_true (of_decide_eq_true (by assumption) : t293 ≤ (x5_1.length : Int))
              obtain ⟨y309, hy309⟩ : ∃ y_ : List Int, y_ = (x5_1.drop (t293 : Int).toNat) := ⟨_, rfl⟩
              first | replace H := bs_ hy309 H | rw [← hy309] at H
              have Ny309 := Fa.mk hy309
              clear hy309
              by_cases c13 : y306.length + y309.length < 17592186044416
              · rw [if_pos c13] at H
                have LMc13 := Fa.mk c13
                clear c13
                obtain ⟨y313, hy313⟩ : ∃ y_ : List Int, y_ = (y306 ++ y309) := ⟨_, rfl⟩
                first | replace H := bs_ hy313 H | rw [← hy313] at H
                have Ny313 := Fa.mk hy313
                clear hy313
                have H' := Fa.mk H
                clear H
                try go_wp2_with (first | ((with_reducible refine gc 77 rfl ?_); refine gL 17 Tryd.func77 #[.pointer (some ⟨g, 0, none⟩), .int .i64 (wrap64 (x6_1 + 1))] rfl (by first | rfl | (simp only [mA, mC, mN]; rfl)) ?_; (with_reducible refine (spec_l01Next.calls g s0_0 x1001_1 x1002_1 (wrap64 (x6_1 + 1)) t293 t294 t295 w0 _ oo (BU HB) A6.out).mono ?_); rintro e w14 ⟨rfl, hi, hb, hk⟩; refine ⟨_, rfl, ?_⟩; replace HO_5 := Fa.mk (Kd.R_mono (Kd.R_keep (IsS92.apart (show IsS92 w0 _ g s0_0 x1001_1 x1002_1 from oo) (rU HO_5) (by decide)) hk (fun _ h => h.2)) (fun _ h => h.1)); replace HI0 := Fa.mk hi; replace HK := Fa.mk (KeepBut.trans (kU HK) hk (.inl rfl)); replace HB := Fa.mk hb))
                replace HO_5 := Fa.mk (Kd.R_drew HO_5.out); replace HI0 := Fa.mk (IsS92.drew HI0.out); replace HK := Fa.mk (keep_drew HK.out); replace HB := Fa.mk (below_drew1 HB.out)
                obtain ⟨Ao17, co17, eo17⟩ := Kd.R_slice HO_5.out
                (first | subst eo17 | (injection eo17 with f1_ f2_ f3_; have f4_ := f1_.symm; have f5_ := f3_.symm; clear f1_ f2_ f3_; subst f4_; subst f5_))
                have q16 : (t293 : Int) ≤ ((x5_1.length : Int) : Int) := of_decide_eq_true (by assumption)
                obtain ⟨i016, hi016, _, hsz16, _⟩ := info_parts info2
                have hroom16 : x5_1.length ≤ co17 := (Kd.R_reads' HO_5.out).2.1
                have hC16 : Kd.C (Kd.int .i64) _ Ao17 x5_1.length x5_1 := (Kd.R_reads' HO_5.out).2.2
                have hcut16 := cut_to (P := Tryd.prog) 24 2 .i64 Tryd.underlying24 hi016 Ao17 x5_1.length co17 t293 (of_decide_eq_true (by assumption)) q16 hroom16
                have hr16 := Kd.C_take (m := (t293 : Int).toNat) hC16 (by omega)
                have hy16 : y296.length = (t293 : Int).toNat := (by rw [Ny296.out, List.length_take]; omega)
                rw [← Ny296.out] at hr16
                rw [← hy16] at hcut16
                have HR299 := Fa.mk hr16
                have HC299 := Fa.mk (show y296.length ≤ co17 from by omega)
                clear hr16 hC16 hroom16 hi016 hsz16
                have KY16 := Fa.mk hy16
                clear hy16
                have KL16 := Fa.mk (show (t293 : Int).toNat ≤ x5_1.length from by omega)
                replace q16 := eq_true q16
                have q18 : (t293 : Int) ≤ ((x5_1.length : Int) : Int) := of_decide_eq_true (by assumption)
                obtain ⟨i018, hi018, _, hsz18, _⟩ := info_parts info2
                have hroom18 : x5_1.length ≤ co17 := (Kd.R_reads' HO_5.out).2.1
                have hC18 : Kd.C (Kd.int .i64) _ Ao17 x5_1.length x5_1 := (Kd.R_reads' HO_5.out).2.2
                have q018 : (0 : Int) ≤ (t293 : Int) := of_decide_eq_true (by assumption)
                have hcut18 := cut_from (P := Tryd.prog) 24 2 .i64 Tryd.underlying24 hi018 1 hsz18 Ao17 x5_1.length co17 t293 q018 q18
                have hr18 := Kd.C_drop (m := (t293 : Int).toNat) (c := co17) hC18 (by omega) hroom18
                obtain ⟨A18, hA18⟩ : ∃ A1, A1 = (if co17 = (t293 : Int).toNat then Ao17 else (Ao17 : Option Addr).map (·.add ((t293 : Int).toNat * 1))) := ⟨_, rfl⟩
                obtain ⟨c18, hc18⟩ : ∃ c1, c1 = co17 - (t293 : Int).toNat := ⟨_, rfl⟩
                have hy18 : y309.length = x5_1.length - (t293 : Int).toNat := (by rw [Ny309.out, List.length_drop] <;> omega)
                rw [show (x5_1).drop (t293 : Int).toNat = y309 from Ny309.out.symm] at hr18
                replace hr18 : Kd.C (Kd.int .i64) _ A18 y309.length y309 := (by rw [hA18]; exact hr18)
                rw [← hy18, ← hA18, ← hc18] at hcut18
                have HR312 := Fa.mk hr18
                have HC312 := Fa.mk (show y309.length ≤ c18 from by rw [hy18, hc18]; exact Nat.sub_le_sub_right hroom18 _)
                clear hr18 hC18 hroom18 hi018 hsz18 hc18
                have KY18 := Fa.mk hy18
                have KA18 := Fa.mk hA18
                clear hy18 hA18
                have KL18 := Fa.mk (show (t293 : Int).toNat ≤ x5_1.length from by omega)
                replace q18 := eq_true q18
                refine start_ (n := 12) (S := fun w' => True) (ds := []) #[ff, ff, ff, ff, ff, ff, ff, ff, ff, ff, ff, ff] (by kernel_rfl) rfl rfl trivial (fun hHeld => ?_); refine with_tabW spec_l01DrawOrder.tab6 spec_l01DrawOrder.bits6 (fun HT_ HW_ => ?_)
                generalize w14.drew = w15 at HO_5 HI0 HK HB HR299 HR312 hHeld ⊢
                refine pu 0 18 ?_ #[tt, ff, ff, ff, ff, ff, ff, ff, ff, ff, ff, ff] rfl rfl (any_of HT_.out (by kernel_rfl)) (Or.inl ⟨by rfl, ?_⟩) ?_ ?_ ?_; rotate_left; intro w'; go_simp; with_reducible rfl; rotate_left; simp only [Act.put, sA, sZ, sC, i64_w, i32_w]; rfl
                refine pu 1 19 ?_ #[tt, tt, ff, ff, ff, ff, ff, ff, ff, ff, ff, ff] rfl rfl (any_of HT_.out (by kernel_rfl)) (Or.inl ⟨by rfl, ?_⟩) ?_ ?_ ?_; rotate_left; intro w'; go_simp; with_reducible rfl; rotate_left; simp only [Act.put, sA, sZ, sC, i64_w, i32_w]; rfl
                refine pu 2 20 ?_ #[tt, tt, tt, ff, ff, ff, ff, ff, ff, ff, ff, ff] rfl rfl (any_of HT_.out (by kernel_rfl)) (Or.inl ⟨by rfl, ?_⟩) ?_ ?_ ?_; rotate_left; intro w'; go_simp; with_reducible rfl; rotate_left; simp only [Act.put, sA, sZ, sC, i64_w, i32_w]; rfl
                refine pu 4 22 ?_ #[tt, tt, tt, ff, tt, ff, ff, ff, ff, ff, ff, ff] rfl rfl (any_of HT_.out (by kernel_rfl)) (Or.inl ⟨by rfl, ?_⟩) ?_ ?_ ?_; rotate_left; intro w'; go_simp; with_reducible rfl; rotate_left; simp only [Act.put, sA, sZ, sC, i64_w, i32_w]; rfl
                refine pu 7 25 ?_ #[tt, tt, tt, ff, tt, ff, ff, tt, ff, ff, ff, ff] rfl rfl (any_of HT_.out (by kernel_rfl)) (Or.inl ⟨by rfl, ?_⟩) ?_ ?_ ?_; rotate_left; intro w'; go_simp; with_reducible rfl; rotate_left; simp only [Act.put, sA, sZ, sC, i64_w, i32_w]; rfl
                refine pu 8 26 ?_ #[tt, tt, tt, ff, tt, ff, ff, tt, tt, ff, ff, ff] rfl rfl (any_of HT_.out (by kernel_rfl)) (Or.inl ⟨by rfl, ?_⟩) ?_ ?_ ?_; rotate_left; intro w'; go_simp; with_reducible rfl; rotate_left; simp only [Act.put, sA, sZ, sC, i64_w, i32_w]; rfl
                refine pu 9 27 ?_ #[tt, tt, tt, ff, tt, ff, ff, tt, tt, tt, ff, ff] rfl rfl (any_of HT_.out (by kernel_rfl)) (Or.inl ⟨by rfl, ?_⟩) ?_ ?_ ?_; rotate_left; intro w'; go_simp; with_reducible rfl; rotate_left; simp only [Act.put, sA, sZ, sC, i64_w, i32_w]; rfl
                refine join_ (σ := Value × Value) 3 #[tt, tt, tt, tt, tt, tt, ff, tt, tt, tt, ff, ff] (fun s_ => [(21, s_.1), (23, s_.2)]) (fun s_ w' => (Kd.R (Kd.int .i64) 2 w' w.heap.size (fun k_ => some k_ ≠ (s_.2 : Value).ownBlock ∧ some k_ ≠ (.slice Ao17 x5_1.length co17 : Value).ownBlock) s_.1 t300) ∧ (Kd.R (Kd.int .i64) 2 w' w.heap.size (fun k_ => some k_ ≠ (s_.1 : Value).ownBlock ∧ some k_ ≠ (.slice Ao17 x5_1.length co17 : Value).ownBlock) s_.2 y303) ∧ (Kd.R (Kd.int .i64) 2 w' w.heap.size (fun k_ => some k_ ≠ (s_.1 : Value).ownBlock ∧ some k_ ≠ (s_.2 : Value).ownBlock) (.slice Ao17 x5_1.length co17) x5_1) ∧ (IsS92 w0 w' g s0_0 t294 t295) ∧ (KeepBut w w' g none) ∧ (Below w0.heap.size w0 w')) ?_ ?_
                rotate_left
                · intro hCont
                  refine two_ (i := 3) (j := 5) (Ni := some 21) (Nj := some 23) #[tt, tt, tt, tt, tt, ff, ff, tt, tt, tt, ff, ff] #[tt, tt, tt, ff, tt, tt, ff, tt, tt, tt, ff, ff] rfl rfl rfl rfl (two_of HT_.out (by kernel_rfl)) (by decide) (by decide) (fun K hK => ?_) (fun K hK => ?_)
                  · skip
                    refine goes_ Tryd.func131 (by kernel_rfl) rfl #[.slice Ao17 y296.length co17] (by rfl) rfl rfl (by first | rfl | (simp only [mA, mC, mN]; rfl)) ?_
                    with_reducible refine (spec_l01Own.calls _ _ y296 t300 _ ?side1 ?side2 A9.out).mono ?_
                    (case side1 => repeat (first | exact (cU HR299) | (with_reducible refine Kd.C_alloc ?_ _) | (with_reducible refine Kd.C_drewN ?_ _) | (with_reducible refine Kd.C_drew ?_)))
                    (case side2 => exact HC299.out)
                    rintro e w19 ⟨v301, rfl, ho0, hb⟩
                    refine ⟨_, rfl, ?_⟩
                    have HO302 := Fa.mk (Kd.R_lower (Kd.R_new' ho0 (Kd.R_lt (rU HO_5))) (keep_size (w := w) (g := g) (row := none) (kU HK))); replace HO_5 := Fa.mk (Kd.R_elder' (rU HO_5) (Kd.R_base ho0) hb); replace HI0 := Fa.mk (IsS92.below (sU HI0) hb); replace HR299 := Fa.mk (Kd.C_below (cU HR299) hb); replace HR312 := Fa.mk (Kd.C_below (cU HR312) hb); replace HK := Fa.mk (KeepBut.trans (kU HK) (KeepBut.of_below hb g none) (.inl rfl)); replace HB := Fa.mk (below_step (BU HB) hb)
                    refine hK.out _ _ trivial (fun hHeld => ?_)
                    clear hK K
                    refine norm_ (a' := ?_) ?_ ?_
                    rotate_left
                    · show Act.put _ (some 21) _ = _
                      simp only [Act.put, sA, sZ, sC, i64_w, i32_w]
                      rfl
                    refine one_ (i := 5) (N := some 23) #[tt, tt, tt, tt, tt, tt, ff, tt, tt, tt, ff, ff] rfl rfl (one_of HT_.out (by kernel_rfl)) (by decide) (fun K hK => ?_)
                    refine Kd.R_lit_step (Kd.int .i64) _ 2 ?hg (N := 23) ?hd (xs := ([x6_1] : List Int)) (inner := [.int .i64 x6_1]) (ok := fun _ => True) (okp := fun _ => True) ?hr ?hp (fun _ hk => hk) trivial (Below.refl _ _) (Nat.le_refl _) (by simp) ?_; (case hd => rfl); (case hg => rfl); (case hr => first | (go_simp; done) | (go_simp; rfl)); (case hp => exact (Reps.one (show Kd.M (Kd.int .i64) _ _ _ x6_1 [.int .i64 x6_1] from rfl) (Reps.none _ _)))
                    intro v304 w20 ho21 hb hg_ hnew_
                    clear hg_ hnew_
                    (first | rw [← Ny303.out] at ho21 | (simp only [Int.reduceToNat] at ho21; rw [← Ny303.out] at ho21))
                    have HO305 := Fa.mk (Kd.R_lower (Kd.R_new' (Kd.R_new' ho21 (Kd.R_lt (rU HO_5))) (Kd.R_lt (rU HO302))) (keep_size (w := w) (g := g) (row := none) (kU HK))); replace HO_5 := Fa.mk (Kd.R_elder' (rU HO_5) (Kd.R_base ho21) hb); replace HO302 := Fa.mk (Kd.R_elder' (rU HO302) (Kd.R_base ho21) hb); replace HI0 := Fa.mk (IsS92.below (sU HI0) hb); replace HR299 := Fa.mk (Kd.C_below (cU HR299) hb); replace HR312 := Fa.mk (Kd.C_below (cU HR312) hb); replace HK := Fa.mk (KeepBut.trans (kU HK) (KeepBut.of_below hb g none) (.inl rfl)); replace HB := Fa.mk (below_step (BU HB) hb)
                    clear hb ho21
                    refine hK.out _ _ trivial (fun hHeld => ?_)
                    clear hK K
                    refine norm_ (a' := ?_) ?_ ?_
                    rotate_left
                    · show Act.put _ (some 23) _ = _
                      simp only [Act.put, sA, sZ, sC, i64_w, i32_w]
                      rfl
                    exact norm_ (by simp only [putAll, Act.put, sA, sZ, sC]) (hCont (v301, v304) _ ⟨(by (with_reducible repeat (first | apply Kd.R_alloc | apply Kd.R_drewN | apply Kd.R_drew)); exact Kd.R_mono HO302.out (fun _ hk => ⟨hk.2, hk.1.2⟩)), (by (with_reducible repeat (first | apply Kd.R_alloc | apply Kd.R_drewN | apply Kd.R_drew)); exact Kd.R_mono HO305.out (fun _ hk => ⟨hk.2, hk.1.2⟩)), (by (with_reducible repeat (first | apply Kd.R_alloc | apply Kd.R_drewN | apply Kd.R_drew)); exact Kd.R_mono HO_5.out (fun _ hk => ⟨hk.1.2, hk.2⟩)), oo, (kU HK), (BU HB)⟩)
                  · skip
                    refine Kd.R_lit_step (Kd.int .i64) _ 2 ?hg (N := 23) ?hd (xs := ([x6_1] : List Int)) (inner := [.int .i64 x6_1]) (ok := fun _ => True) (okp := fun _ => True) ?hr ?hp (fun _ hk => hk) trivial (Below.refl _ _) (Nat.le_refl _) (by simp) ?_; (case hd => rfl); (case hg => rfl); (case hr => first | (go_simp; done) | (go_simp; rfl)); (case hp => exact (Reps.one (show Kd.M (Kd.int .i64) _ _ _ x6_1 [.int .i64 x6_1] from rfl) (Reps.none _ _)))
                    intro v304 w19 ho20 hb hg_ hnew_
                    clear hg_ hnew_
                    (first | rw [← Ny303.out] at ho20 | (simp only [Int.reduceToNat] at ho20; rw [← Ny303.out] at ho20))
                    have HO305 := Fa.mk (Kd.R_lower (Kd.R_new' ho20 (Kd.R_lt (rU HO_5))) (keep_size (w := w) (g := g) (row := none) (kU HK))); replace HO_5 := Fa.mk (Kd.R_elder' (rU HO_5) (Kd.R_base ho20) hb); replace HI0 := Fa.mk (IsS92.below (sU HI0) hb); replace HR299 := Fa.mk (Kd.C_below (cU HR299) hb); replace HR312 := Fa.mk (Kd.C_below (cU HR312) hb); replace HK := Fa.mk (KeepBut.trans (kU HK) (KeepBut.of_below hb g none) (.inl rfl)); replace HB := Fa.mk (below_step (BU HB) hb)
                    clear hb ho20
                    refine hK.out _ _ trivial (fun hHeld => ?_)
                    clear hK K
                    refine norm_ (a' := ?_) ?_ ?_
                    rotate_left
                    · show Act.put _ (some 23) _ = _
                      simp only [Act.put, sA, sZ, sC, i64_w, i32_w]
                      rfl
                    refine one_ (i := 3) (N := some 21) #[tt, tt, tt, tt, tt, tt, ff, tt, tt, tt, ff, ff] rfl rfl (one_of HT_.out (by kernel_rfl)) (by decide) (fun K hK => ?_)
                    refine goes_ Tryd.func131 (by kernel_rfl) rfl #[.slice Ao17 y296.length co17] (by rfl) rfl rfl (by first | rfl | (simp only [mA, mC, mN]; rfl)) ?_
                    with_reducible refine (spec_l01Own.calls _ _ y296 t300 _ ?side1 ?side2 A9.out).mono ?_
                    (case side1 => repeat (first | exact (cU HR299) | (with_reducible refine Kd.C_alloc ?_ _) | (with_reducible refine Kd.C_drewN ?_ _) | (with_reducible refine Kd.C_drew ?_)))
                    (case side2 => exact HC299.out)
                    rintro e w21 ⟨v301, rfl, ho0, hb⟩
                    refine ⟨_, rfl, ?_⟩
                    have HO302 := Fa.mk (Kd.R_lower (Kd.R_new' (Kd.R_new' ho0 (Kd.R_lt (rU HO_5))) (Kd.R_lt (rU HO305))) (keep_size (w := w) (g := g) (row := none) (kU HK))); replace HO_5 := Fa.mk (Kd.R_elder' (rU HO_5) (Kd.R_base ho0) hb); replace HO305 := Fa.mk (Kd.R_elder' (rU HO305) (Kd.R_base ho0) hb); replace HI0 := Fa.mk (IsS92.below (sU HI0) hb); replace HR299 := Fa.mk (Kd.C_below (cU HR299) hb); replace HR312 := Fa.mk (Kd.C_below (cU HR312) hb); replace HK := Fa.mk (KeepBut.trans (kU HK) (KeepBut.of_below hb g none) (.inl rfl)); replace HB := Fa.mk (below_step (BU HB) hb)
                    refine hK.out _ _ trivial (fun hHeld => ?_)
                    clear hK K
                    refine norm_ (a' := ?_) ?_ ?_
                    rotate_left
                    · show Act.put _ (some 21) _ = _
                      simp only [Act.put, sA, sZ, sC, i64_w, i32_w]
                      rfl
                    exact norm_ (by simp only [putAll, Act.put, sA, sZ, sC]) (hCont (v301, v304) _ ⟨(by (with_reducible repeat (first | apply Kd.R_alloc | apply Kd.R_drewN | apply Kd.R_drew)); exact Kd.R_mono HO302.out (fun _ hk => ⟨hk.2, hk.1.2⟩)), (by (with_reducible repeat (first | apply Kd.R_alloc | apply Kd.R_drewN | apply Kd.R_drew)); exact Kd.R_mono HO305.out (fun _ hk => ⟨hk.2, hk.1.2⟩)), (by (with_reducible repeat (first | apply Kd.R_alloc | apply Kd.R_drewN | apply Kd.R_drew)); exact Kd.R_mono HO_5.out (fun _ hk => ⟨hk.2, hk.1.2⟩)), oo, (kU HK), (BU HB)⟩)
                rintro ⟨v301, v304⟩ w22 ⟨h0_, h1_, h2_, h3_, h4_, h5_⟩
                have n0_ : Fa (Kd.R (Kd.int .i64) 2 w22 w.heap.size (fun k_ => some k_ ≠ (v304 : Value).ownBlock ∧ some k_ ≠ (.slice Ao17 x5_1.length co17 : Value).ownBlock) v301 t300) := ⟨h0_⟩
                have n1_ : Fa (Kd.R (Kd.int .i64) 2 w22 w.heap.size (fun k_ => some k_ ≠ (v301 : Value).ownBlock ∧ some k_ ≠ (.slice Ao17 x5_1.length co17 : Value).ownBlock) v304 y303) := ⟨h1_⟩
                have n2_ : Fa (Kd.R (Kd.int .i64) 2 w22 w.heap.size (fun k_ => some k_ ≠ (v301 : Value).ownBlock ∧ some k_ ≠ (v304 : Value).ownBlock) (.slice Ao17 x5_1.length co17) x5_1) := ⟨h2_⟩
                have n3_ : Fa (IsS92 w0 w22 g s0_0 t294 t295) := ⟨h3_⟩
                have n4_ : Fa (KeepBut w w22 g none) := ⟨h4_⟩
                have n5_ : Fa (Below w0.heap.size w0 w22) := ⟨h5_⟩
                clear HO_5
                clear HI0
                clear HK
                clear HB
                clear h0_ h1_ h2_ h3_ h4_ h5_
                have HO302 := n0_
                have HO305 := n1_
                have HO_5 := n2_
                have HI0 := n3_
                have HK := n4_
                have HB := n5_
                clear n0_ n1_ n2_ n3_ n4_ n5_
                have hHeld := trivial
                obtain ⟨Ao24, co24, eo24⟩ := Kd.R_slice HO305.out
                (first | subst eo24 | (injection eo24 with f1_ f2_ f3_; have f4_ := f1_.symm; have f5_ := f3_.symm; clear f1_ f2_ f3_; subst f4_; subst f5_))
                refine norm_ (a' := ?_) ?_ ?_
                rotate_left
                · simp only [putAll, Act.put, sA, sZ, sC]
                  rfl
                refine one_ (i := 6) (N := some 24) #[tt, tt, tt, tt, tt, tt, tt, tt, tt, tt, ff, ff] rfl rfl (one_of HT_.out (by kernel_rfl)) (by decide) (fun K hK => ?_)
                refine Kd.R_append_rows_step (Kd.int .i64) w.heap.size (by rfl) (.tmp 21) (.tmp 23) 24 2 (.int .i64 0) 8 rfl Tryd.underlying24 info2 rfl (by decide) (by omega) v301 t300 y303 _ _ _ (fun k_ => some k_ ≠ (.slice Ao17 x5_1.length co17 : Value).ownBlock ∧ some k_ ≠ (.slice Ao24 y303.length co24 : Value).ownBlock) (fun _ => False) rfl rfl ?aO ?aR (fun _ _ h => h) (fun _ h => h.elim) ?aF (Below.refl _ _) ?aS ?aL ?_
                (case aR => exact rC HO305)
                (case aF => exact (fun k_ hk => ⟨Kd.fresh' (Kd.R_lt (rU HO_5)) k_ hk, Kd.fresh' (Kd.R_lt (rU HO305)) k_ hk⟩))
                (case aO => exact (by (with_reducible repeat (first | apply Kd.R_alloc | apply Kd.R_drewN | apply Kd.R_drew)); exact Kd.R_mono HO302.out (fun _ hk => ⟨hk.2, hk.1⟩)))
                (case aS => exact (keep_size (w := w) (g := g) (row := none) (kU HK)))
                (case aL => have := LMc10.out; omega)
                intro v307 w23 ho hb hg hat
                rw [← Ny306.out] at ho
                have n0_ := Fa.mk (Kd.R_after (ok := (fun k_ => some k_ ≠ (.slice Ao24 y303.length co24 : Value).ownBlock)) (by (with_reducible repeat (first | apply Kd.R_alloc | apply Kd.R_drewN | apply Kd.R_drew)); exact Kd.R_mono HO_5.out (fun _ hk => ⟨hk.2, hk.1⟩)) hg hat); have n1_ := Fa.mk (IsS92.grown (by repeat (first | (with_reducible first | exact HI0.out | apply IsS92.alloc | apply IsS92.drewN | apply IsS92.drew | apply IsS92.set_1 | apply IsS92.set_2) | exact HI0.out)) hg (IsS92.own_ne HI0.out HO302.out (by decide))); have n2_ := Fa.mk (Kd.R_after (ok := (fun k_ => some k_ ≠ (.slice Ao17 x5_1.length co17 : Value).ownBlock)) (by (with_reducible repeat (first | apply Kd.R_alloc | apply Kd.R_drewN | apply Kd.R_drew)); exact Kd.R_mono HO305.out (fun _ hk => ⟨hk.2, hk.1⟩)) hg hat); have n3_ := Fa.mk (below_weaken (by repeat (first | (with_reducible first | exact HB.out | apply below_alloc | apply pw_below_drewN | apply below_drew1 | refine below_set ?_ (IsS92.ge HI0.out)) | exact HB.out)) HL.out hb); have n4_ := Fa.mk (KeepBut.trans (by repeat (first | (with_reducible first | exact HK.out | apply KeepBut.set_ | apply keep_drewN | apply keep_drew | apply keep_alloc) | exact HK.out)) (KeepBut.of_grown hg g) (Kd.R_base2 HO302.out)); have n5_ := Fa.mk (ho); clear HO_5; clear HI0; clear HO305; clear HB; clear HK; clear HO302; have HO_5 := n0_; have HI0 := n1_; have HO305 := n2_; have HB := n3_; have HK := n4_; have HO308 := n5_; clear n0_ n1_ n2_ n3_ n4_ n5_
                clear ho hb hg hat
                refine hK.out _ _ trivial (fun hHeld => ?_)
                clear hK K
                refine norm_ (a' := ?_) ?_ ?_
                rotate_left
                · show Act.put _ (some 24) _ = _
                  simp only [Act.put, sA, sZ, sC, i64_w, i32_w]
                  rfl
                refine one_ (i := 10) (N := some 28) #[tt, tt, tt, tt, tt, tt, tt, tt, tt, tt, tt, ff] rfl rfl (one_of HT_.out (by kernel_rfl)) (by decide) (fun K hK => ?_)
                refine Kd.R_append_rows_step (Kd.int .i64) w.heap.size (by rfl) (.tmp 24) (.tmp 27) 24 2 (.int .i64 0) 8 rfl Tryd.underlying24 info2 rfl (by decide) (by omega) v307 y306 y309 A18 y309.length c18 (fun k_ => some k_ ≠ (.slice Ao17 x5_1.length co17 : Value).ownBlock ∧ some k_ ≠ (.slice Ao24 y303.length co24 : Value).ownBlock) (fun _ => False) rfl rfl ?aO ?aR (fun _ _ h => h) (fun _ h => h.elim) ?aF (Below.refl _ _) ?aS ?aL ?_
                (case aR => repeat (first | exact (by rw [Ny309.out, KA18.out]; exact Kd.C_drop (m := (t293 : Int).toNat) (c := co17) ((Kd.R_reads' (HO_5.out)).2.2) KL18.out ((Kd.R_reads' (HO_5.out)).2.1)) | (with_reducible refine Kd.C_alloc ?_ _) | (with_reducible refine Kd.C_drewN ?_ _) | (with_reducible refine Kd.C_drew ?_)))
                (case aF => exact (fun k_ hk => ⟨Kd.fresh' (Kd.R_lt (rU HO_5)) k_ hk, Kd.fresh' (Kd.R_lt (rU HO305)) k_ hk⟩))
                (case aO => exact (rU HO308))
                (case aS => exact (keep_size (w := w) (g := g) (row := none) (kU HK)))
                (case aL => have := LMc13.out; omega)
                intro v314 w25 ho hb hg hat
                rw [← Ny313.out] at ho
                have n0_ := Fa.mk (Kd.R_after (ok := (fun k_ => some k_ ≠ (.slice Ao24 y303.length co24 : Value).ownBlock)) (by (with_reducible repeat (first | apply Kd.R_alloc | apply Kd.R_drewN | apply Kd.R_drew)); exact HO_5.out) hg hat); have n1_ := Fa.mk (IsS92.grown (by repeat (first | (with_reducible first | exact HI0.out | apply IsS92.alloc | apply IsS92.drewN | apply IsS92.drew | apply IsS92.set_1 | apply IsS92.set_2) | exact HI0.out)) hg (IsS92.own_ne HI0.out HO308.out (by decide))); have n2_ := Fa.mk (Kd.R_after (ok := (fun k_ => some k_ ≠ (.slice Ao17 x5_1.length co17 : Value).ownBlock)) (by (with_reducible repeat (first | apply Kd.R_alloc | apply Kd.R_drewN | apply Kd.R_drew)); exact HO305.out) hg hat); have n3_ := Fa.mk (below_weaken (by repeat (first | (with_reducible first | exact HB.out | apply below_alloc | apply pw_below_drewN | apply below_drew1 | refine below_set ?_ (IsS92.ge HI0.out)) | exact HB.out)) HL.out hb); have n4_ := Fa.mk (KeepBut.trans (by repeat (first | (with_reducible first | exact HK.out | apply KeepBut.set_ | apply keep_drewN | apply keep_drew | apply keep_alloc) | exact HK.out)) (KeepBut.of_grown hg g) (Kd.R_base2 HO308.out)); have n5_ := Fa.mk (ho); clear HO_5; clear HI0; clear HO305; clear HB; clear HK; clear HO308; have HO_5 := n0_; have HI0 := n1_; have HO305 := n2_; have HB := n3_; have HK := n4_; have HO315 := n5_; clear n0_ n1_ n2_ n3_ n4_ n5_
                clear ho hb hg hat
                refine hK.out _ _ trivial (fun hHeld => ?_)
                clear hK K
                refine norm_ (a' := ?_) ?_ ?_
                rotate_left
                · show Act.put _ (some 28) _ = _
                  simp only [Act.put, sA, sZ, sC, i64_w, i32_w]
                  rfl
                refine pu 11 5 ?_ #[tt, tt, tt, tt, tt, tt, tt, tt, tt, tt, tt, tt] rfl rfl (any_of HT_.out (by kernel_rfl)) (Or.inl ⟨by rfl, ?_⟩) ?_ ?_ ?_; rotate_left; intro w'; go_simp; with_reducible rfl; rotate_left; simp only [Act.put, sA, sZ, sC, i64_w, i32_w]; rfl
                refine done_ (done_of HT_.out (by kernel_rfl)) ?_
                try go_wp2
                go_roundg k1
                case measure => have := HK1.out; omega
                case rel => exact ⟨(y313), (wrap64 (x6_1 + 1)), (t294), (t295), rfl, H', ⟨by have := HK1.out; omega⟩, ⟨by (with_reducible repeat (first | apply Kd.R_alloc | apply Kd.R_drewN | apply Kd.R_drew)); exact Kd.R_mono HO315.out (fun _ hk => trivial)⟩, ⟨oo⟩, ⟨kU HK⟩, ⟨BU HB⟩⟩
              · rw [if_neg c13] at H
                exact absurd H (by simp)
            · rw [if_neg c10] at H
              exact absurd H (by simp)
          · rw [if_neg c8] at H
            exact absurd H (by simp)
        · rw [if_neg c7] at H
          exact absurd H (by simp)
      · rw [if_neg c5] at H
        have c5b0 := decide_eq_false c5
        clear c5
        simp only [Option.some.injEq, Prod.mk.injEq] at H
        obtain ⟨rfl, rfl, rfl⟩ := H
        go_wp2
        go_ret
        exact ⟨_, rfl, HO_5.out, oo, BU HB, kU HK⟩

end Go.Proofs.YtockngphfpedkaaDoor.XFnDistances
