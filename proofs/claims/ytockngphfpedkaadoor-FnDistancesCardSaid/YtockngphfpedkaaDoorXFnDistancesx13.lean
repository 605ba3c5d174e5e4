-- Written by this project's own program (mprint.py) by means of the kit's printer: with contracts of its own for the functions that the printer leaves out.
import Derived.Test.YtockngphfpedkaaDoorXFnDistancesx0
import Derived.Test.YtockngphfpedkaaDoorXFnDistancesx6
import Derived.Test.YtockngphfpedkaaDoorXFnDistancesx12
namespace Go.Proofs.YtockngphfpedkaaDoor.XFnDistances
open Go.RowKit Go.Proofs.YtockngphfpedkaaDoorW.PrintWords Go.Proofs.YtockngphfpedkaaDoorW.PrintLast Go.Proofs.YtockngphfpedkaaDoorW.PrintMore
attribute [local go_sem] max2_int min2_int max_two min_two max_three min_three max_four min_four   -- for this text's walks alone
set_option linter.unusedVariables false
set_option linter.unusedSimpArgs false

/-! ### spec_l01Is: function 48 -/
mutual
def spec_l01Is.j0 : Nat → Bool → Int → List Int → Option (Bool)
  | 0, _, _, _ => none
  | k + 1, x17, x537000, x537001 => if x17 = true then (some false) else (spec_l01Is.l0 k 0 x537000 x537001)
def spec_l01Is.l0 : Nat → Int → Int → List Int → Option (Bool)
  | 0, _, _, _ => none
  | k + 1, x3, x537000, x537001 => if x3 < x537000 then (if 0 ≤ x3 then (if x3 < (x537001.length : Int) then (if 0 ≤ (IntKind.u64.wrap (x537000)) then ((spec_l01In.f (rd x537001 x3) 0 (wrap64 ((shl .i64 1 (IntKind.u64.wrap (x537000))) - 1))).bind fun t539 => (if t539 = true then ((spec_l01Has.f x537000 x537001 x3 x3).bind fun t540 => (if t540 = true then (some false) else (spec_l01Is.l0 k (wrap64 (x3 + 1)) x537000 x537001))) else (some false))) else (none)) else (none)) else (none)) else (spec_l01Is.l1 k 0 x537000 x537001)
def spec_l01Is.l1 : Nat → Int → Int → List Int → Option (Bool)
  | 0, _, _, _ => none
  | k + 1, x4, x537000, x537001 => if x4 < x537000 then (spec_l01Is.l2 k x4 0 x537000 x537001) else (some true)
def spec_l01Is.l2 : Nat → Int → Int → Int → List Int → Option (Bool)
  | 0, _, _, _, _ => none
  | k + 1, x4, x5, x537000, x537001 => if x5 < x4 then ((spec_l01Has.f x537000 x537001 x4 x5).bind fun t541 => ((spec_l01Has.f x537000 x537001 x5 x4).bind fun t542 => (if (t541 != t542) = true then (some false) else (spec_l01Is.l2 k x4 (wrap64 (x5 + 1)) x537000 x537001)))) else (spec_l01Is.l1 k (wrap64 (x4 + 1)) x537000 x537001)
end
def spec_l01Is.f (k : Nat) (a0_0 : Int) (l0_1 : List Int) : Option (Bool) := (spec_l01In.f a0_0 1 62).bind fun t537 => (if t537 = true then (spec_l01Is.j0 k ((l0_1.length : Int) != a0_0) a0_0 l0_1) else (spec_l01Is.j0 k true a0_0 l0_1))
def spec_l01Is.T6 : Bool × List (List Nat × List Nat) := (true, [([], []), ([0], [0]), ([], []), ([1, 2], [1, 2]), ([3], [3]), ([], []), ([5], [5]), ([6], [6]), ([7], [7]), ([8], [8]), ([4, 9], [4, 9]), ([10], [10]), ([11, 10], [11]), ([12], [12]), ([12], [12]), ([12], [12]), ([13, 14, 15, 12, 12], [12, 13, 14, 15]), ([12, 16], [12, 16])])
def spec_l01Is.B6 : List Nat := [0, 1, 0, 7, 15, 0, 32, 96, 224, 480, 1023, 2047, 4095, 8191, 8191, 8191, 65535, 131071]
theorem spec_l01Is.tab6 : rtab .any (opsOf Tryd.f48 6) = spec_l01Is.T6 := by kernel_rfl
theorem spec_l01Is.bits6 : waitsOk spec_l01Is.T6.2 spec_l01Is.B6 = true := by kernel_rfl
def spec_l01Is.T14 : Bool × List (List Nat × List Nat) := (true, [([], []), ([], []), ([], []), ([0, 1, 2], [0, 1, 2]), ([], []), ([], []), ([], []), ([4, 5, 6, 3], [4, 5, 6]), ([3, 7], [3, 7])])
def spec_l01Is.B14 : List Nat := [0, 0, 0, 7, 0, 0, 0, 127, 255]
theorem spec_l01Is.tab14 : rtab .any (opsOf Tryd.f48 14) = spec_l01Is.T14 := by kernel_rfl
theorem spec_l01Is.bits14 : waitsOk spec_l01Is.T14.2 spec_l01Is.B14 = true := by kernel_rfl
set_option maxHeartbeats 8000000 in
set_option maxRecDepth 100000 in
theorem spec_l01Is.calls (k : Nat) (a0_0 : Int) (A0_1 : Option Addr) (c0_1 : Nat) (l0_1 : List Int) (r : Bool) (w : World) (hr0_1 : Kd.C (Kd.int .i64) w A0_1 l0_1.length l0_1) (hc0_1 : l0_1.length ≤ c0_1) (h : spec_l01Is.f k a0_0 l0_1 = some r) :
    Calls Tryd.prog 48 #[.agg #[.int .i64 a0_0, .slice A0_1 l0_1.length c0_1]] w fun e w' => e = .returned (.bool r) ∧ Below w.heap.size w w' := by
  have hu26 := Tryd.underlying26
  have HR0_1 := Fa.mk hr0_1
  have HC0_1 := Fa.mk hc0_1
  clear hr0_1 hc0_1
  have HB := Fa.mk (Below.refl w.heap.size w)
  unfold spec_l01Is.f at h; have H := h
  clear h
  have HC2 := Fa.mk H
  clear H
  go_enter Tryd.func48, Tryd.ntmps48
  go_upto_region 1 with (first | ((with_reducible refine gd 1 rfl ?_); (try (refine gate_guard (by rfl) ?_; dsimp only)); refine box_event ?hg (N := 1) ?hd (cs := #[.int .i64 a0_0, .slice A0_1 l0_1.length c0_1]) (t := 26) ?hr ?_; (case hd => rfl); (case hg => rfl); (case hr => first | (go_simp; done) | (go_simp; rfl)); intro gb536 hg w3 hbox hb; have BK536 := Fa.mk hbox; have GW536 := Fa.mk (bsz hg (BU HB) : w.heap.size ≤ gb536); have GE536 := GW536; replace HB := Fa.mk (below_step (BU HB) hb); clear hb hbox hg))
  (try simp only [Act.put, sA, sZ, sC])
  go_cut [17] (fun v17 wc => ∃ (kq : Nat) (x17_1 : Bool), v17 = .bool x17_1 ∧ Fa (spec_l01Is.j0 kq x17_1 a0_0 l0_1 = some r) ∧ Fa (kq ≤ k) ∧ Fa (wc.heap[gb536]? = some (.cells #[.int .i64 a0_0, (.slice A0_1 l0_1.length c0_1)] 26 (0, 0))) ∧ Fa (Below w.heap.size w wc))
  case first =>
    have H := HC2.out
    clear HC2
    replace H := Option.bind_eq_some_iff.mp H
    obtain ⟨t537, A40, H⟩ := H
    replace H : (if t537 = true then (spec_l01Is.j0 k ((l0_1.length : Int) != a0_0) a0_0 l0_1) else (spec_l01Is.j0 k true a0_0 l0_1)) = some r := H
    have A4 := Fa.mk A40
    clear A40
    by_cases c5 : t537 = true
    · subst c5
      have H1 : (spec_l01Is.j0 k ((l0_1.length : Int) != a0_0) a0_0 l0_1) = some r := by rw [if_pos rfl] at H; exact H
      clear H
      have H := H1
      clear H1
      have H' := Fa.mk H
      clear H
      obtain ⟨hcz6_0, hcz6_1, hfz6_0, hfz6_1⟩ := cz2 BK536.out
      go_wp2_with (first | ((with_reducible refine gc 66 rfl ?_); refine gL 8 Tryd.func66 #[.int .i64 a0_0, .int .i64 1, .int .i64 62] rfl (by first | rfl | (simp only [mA, mC, mN]; rfl)) ?_; (with_reducible refine (spec_l01In.calls a0_0 1 62 true _ A4.out).mono ?_); rintro e w' ⟨rfl, ⟨nd, rfl⟩⟩; refine ⟨_, rfl, ?_⟩))
      go_meet
      case rel => exact ⟨_, (((l0_1.length : Int) != a0_0)), rfl, H', ⟨by first | omega | exact Nat.le_refl _⟩, ⟨bU BK536⟩, ⟨BU HB⟩⟩
    · replace c5 := Bool.eq_false_iff.mpr c5
      subst c5
      have H1 : (spec_l01Is.j0 k true a0_0 l0_1) = some r := by rw [if_neg (show ¬ (false = true) by decide)] at H; exact H
      clear H
      have H := H1
      clear H1
      have H' := Fa.mk H
      clear H
      obtain ⟨hcz7_0, hcz7_1, hfz7_0, hfz7_1⟩ := cz2 BK536.out
      go_wp2_with (first | ((with_reducible refine gc 66 rfl ?_); refine gL 8 Tryd.func66 #[.int .i64 a0_0, .int .i64 1, .int .i64 62] rfl (by first | rfl | (simp only [mA, mC, mN]; rfl)) ?_; (with_reducible refine (spec_l01In.calls a0_0 1 62 false _ A4.out).mono ?_); rintro e w' ⟨rfl, ⟨nd, rfl⟩⟩; refine ⟨_, rfl, ?_⟩))
      go_meet
      case rel => exact ⟨_, (true), rfl, H', ⟨by first | omega | exact Nat.le_refl _⟩, ⟨bU BK536⟩, ⟨BU HB⟩⟩
  case rest =>
    clear HC2
    obtain ⟨kq, x17_1, rfl, HA, HJ1, BK536, HB⟩ := hcut
    cases kq with
    | zero => exact absurd HA.out (by simp [spec_l01Is.j0])
    | succ kj1 =>
      have H := HA.out
      clear HA
      simp only [spec_l01Is.j0] at H
      by_cases c8 : x17_1 = true
      · subst c8
        have H1 : (some false) = some r := by rw [if_pos rfl] at H; exact H
        clear H
        have H := H1
        clear H1
        obtain rfl := Option.some.inj H
        go_wp2
        go_ret
        exact ⟨rfl, BU HB⟩
      · replace c8 := Bool.eq_false_iff.mpr c8
        subst c8
        have H1 : (spec_l01Is.l0 kj1 0 a0_0 l0_1) = some r := by rw [if_neg (show ¬ (false = true) by decide)] at H; exact H
        clear H
        have H := H1
        clear H1
        have H' := Fa.mk H
        clear H
        go_wp2
        go_loopg [3] kj1 (fun kq v3 w' => ∃ (x3_2 : Int), v3 = .int .i64 x3_2 ∧ Fa (spec_l01Is.l0 kq x3_2 a0_0 l0_1 = some r) ∧ Fa (kq ≤ kj1) ∧ Fa (w'.heap[gb536]? = some (.cells #[.int .i64 a0_0, (.slice A0_1 l0_1.length c0_1)] 26 (0, 0))) ∧ Fa (Below w.heap.size w w'))
        case atStart => exact ⟨(0), rfl, H', ⟨Nat.le_refl _⟩, ⟨bU BK536⟩, ⟨BU HB⟩⟩
        case round =>
          clear H'
          obtain ⟨x3_2, rfl, HA, HK2, BK536, HB⟩ := hrel
          cases gk with
          | zero => exact absurd HA.out (by simp [spec_l01Is.l0])
          | succ k2 =>
            have H := HA.out
            clear HA
            simp only [spec_l01Is.l0] at H
            by_cases c9 : x3_2 < a0_0
            · rw [if_pos c9] at H
              have c9b0 := decide_eq_true c9
              clear c9
              by_cases c10 : 0 ≤ x3_2
              · rw [if_pos c10] at H
                have c10b0 := decide_eq_true c10
                clear c10
                by_cases c11 : x3_2 < (l0_1.length : Int)
                · rw [if_pos c11] at H
                  have c11b0 := decide_eq_true c11
                  clear c11
                  obtain ⟨ji12, hji12⟩ : ∃ j_ : Int, (IntKind.u64.wrap (a0_0)) = j_ := ⟨_, rfl⟩
                  rw [hji12] at H
                  by_cases c13 : 0 ≤ (ji12)
                  · rw [if_pos c13] at H
                    have c13b0 := eq_true c13
                    have c13b1 := decide_eq_true c13
                    clear c13
                    obtain ⟨ji14, hji14⟩ : ∃ j_ : Int, (shl .i64 1 (ji12)) = j_ := ⟨_, rfl⟩
                    rw [hji14] at H
                    have hji14_ : (IntKind.i64.wrap (1 * 2 ^ min (ji12).toNat 64)) = ji14 := hji14
                    have hji14z : (ji12) ≤ 64 → (IntKind.i64.wrap (1 * 2 ^ (ji12).toNat)) = ji14 := shl_small hji14
                    have hji14u : (IntKind.i64.wrap (2 ^ min (ji12).toNat 64)) = ji14 := by have h_ := hji14_; rw [Int.one_mul] at h_; exact h_
                    have hji14v : (ji12) ≤ 64 → (IntKind.i64.wrap (2 ^ (ji12).toNat)) = ji14 := fun hle_ => by have h_ := hji14z hle_; rw [Int.one_mul] at h_; exact h_
                    have hji14y : (wrap64 (1 * 2 ^ min (ji12).toNat 64)) = ji14 := (i64_w _).symm.trans hji14_
                    have hji14x : (ji12) ≤ 64 → (wrap64 (1 * 2 ^ (ji12).toNat)) = ji14 := fun h_ => (i64_w _).symm.trans (hji14z h_)
                    replace H := Option.bind_eq_some_iff.mp H
                    obtain ⟨t539, A150, H⟩ := H
                    replace H : (if t539 = true then ((spec_l01Has.f a0_0 l0_1 x3_2 x3_2).bind fun t540 => (if t540 = true then (some false) else (spec_l01Is.l0 k2 (wrap64 (x3_2 + 1)) a0_0 l0_1))) else (some false)) = some r := H
                    have A15 := Fa.mk A150
                    clear A150
                    by_cases c16 : t539 = true
                    · subst c16
                      have H1 : ((spec_l01Has.f a0_0 l0_1 x3_2 x3_2).bind fun t540 => (if t540 = true then (some false) else (spec_l01Is.l0 k2 (wrap64 (x3_2 + 1)) a0_0 l0_1))) = some r := by rw [if_pos rfl] at H; exact H
                      clear H
                      have H := H1
                      clear H1
                      replace H := Option.bind_eq_some_iff.mp H
                      obtain ⟨t540, A170, H⟩ := H
                      replace H : (if t540 = true then (some false) else (spec_l01Is.l0 k2 (wrap64 (x3_2 + 1)) a0_0 l0_1)) = some r := H
                      have A17 := Fa.mk A170
                      clear A170
                      by_cases c18 : t540 = true
                      · subst c18
                        have H1 : (some false) = some r := by rw [if_pos rfl] at H; exact H
                        clear H
                        have H := H1
                        clear H1
                        obtain rfl := Option.some.inj H
                        obtain ⟨hcz19_0, hcz19_1, hfz19_0, hfz19_1⟩ := cz2 BK536.out
                        try go_wp2
                        replace BK536 := Fa.mk (blk_drew BK536.out); replace HB := Fa.mk (below_drew1 HB.out)
                        have p538 : 0 ≤ (x3_2 : Int) := of_decide_eq_true (by assumption)
                        have q538 : x3_2 < (l0_1.length : Int) := of_decide_eq_true (by assumption)
                        obtain ⟨ad538, e538, hx538_0⟩ := Kd.at_int HR0_1.out x3_2 p538 q538
                        have hw538_0 := hx538_0
                        cases e538
                        replace hx538_0 := (HB.out.cell (World.block_lt_of_cell? w _ hx538_0)).trans hx538_0
                        replace p538 := eq_true p538
                        replace q538 := eq_true q538
                        refine start_ (n := 18) (S := fun w' => w'.cell? ⟨gb536, 0, none⟩ = some (.int .i64 a0_0) ∧ w'.cell? ⟨gb536, 1, none⟩ = some (.slice (some ad538) l0_1.length c0_1) ∧ w'.cell? (ad538.add (x3_2).toNat) = some (.int .i64 (rd l0_1 x3_2))) (ds := []) #[ff, ff, ff, ff, ff, ff, ff, ff, ff, ff, ff, ff, ff, ff, ff, ff, ff, ff] (by kernel_rfl) rfl rfl ⟨(blk_cell BK536.out 0).trans rfl, (blk_cell BK536.out 1).trans rfl, ((HB.out.cell (World.block_lt_of_cell? _ _ hw538_0)).trans hw538_0)⟩ (fun hHeld => ?_); refine with_tabW spec_l01Is.tab6 spec_l01Is.bits6 (fun HT_ HW_ => ?_)
                        generalize wr.drew = w20 at BK536 HB hx538_0 hHeld ⊢
                        refine pu 0 24 ?_ #[tt, ff, ff, ff, ff, ff, ff, ff, ff, ff, ff, ff, ff, ff, ff, ff, ff, ff] rfl rfl (any_of HT_.out (by kernel_rfl)) (Or.inl ⟨by rfl, ?_⟩) ?_ ?_ ?_; rotate_left; intro w'; go_simp; with_reducible rfl; rotate_left; simp only [Act.put, sA, sZ, sC, i64_w, i32_w]; rfl
                        refine pu 2 26 ?_ #[tt, ff, tt, ff, ff, ff, ff, ff, ff, ff, ff, ff, ff, ff, ff, ff, ff, ff] rfl rfl (any_of HT_.out (by kernel_rfl)) (Or.inl ⟨by rfl, ?_⟩) ?_ ?_ ?_; rotate_left; intro w'; go_simp; with_reducible rfl; rotate_left; simp only [Act.put, sA, sZ, sC, i64_w, i32_w]; rfl
                        refine pu 5 29 ?_ #[tt, ff, tt, ff, ff, tt, ff, ff, ff, ff, ff, ff, ff, ff, ff, ff, ff, ff] rfl rfl (any_of HT_.out (by kernel_rfl)) (Or.inl ⟨by rfl, ?_⟩) ?_ ?_ ?_; rotate_left; intro w'; go_simp; with_reducible rfl; rotate_left; simp only [Act.put, sA, sZ, sC, i64_w, i32_w]; rfl
                        refine tk 1 25 ?_ #[tt, tt, tt, ff, ff, tt, ff, ff, ff, ff, ff, ff, ff, ff, ff, ff, ff, ff] rfl rfl (take_ofW HT_.out HW_.out (by kernel_rfl)) (Or.inl ⟨by rfl, ?_⟩) hHeld ?_ ?_ ?_; rotate_left; rintro w' ⟨s0, s1, s2⟩; go_simp; with_reducible rfl; rotate_left; simp only [Act.put, sA, sZ, sC, i64_w, i32_w]; rfl
                        refine pu 3 27 ?_ #[tt, tt, tt, tt, ff, tt, ff, ff, ff, ff, ff, ff, ff, ff, ff, ff, ff, ff] rfl rfl (any_of HT_.out (by kernel_rfl)) (Or.inl ⟨by rfl, ?_⟩) ?_ ?_ ?_; rotate_left; intro w'; go_simp; with_reducible rfl; rotate_left; simp only [Act.put, sA, sZ, sC, i64_w, i32_w]; rfl
                        refine tk 4 28 ?_ #[tt, tt, tt, tt, tt, tt, ff, ff, ff, ff, ff, ff, ff, ff, ff, ff, ff, ff] rfl rfl (take_ofW HT_.out HW_.out (by kernel_rfl)) (Or.inl ⟨by rfl, ?_⟩) hHeld ?_ ?_ ?_; rotate_left; rintro w' ⟨s0, s1, s2⟩; go_simp; with_reducible rfl; rotate_left; simp only [Act.put, sA, sZ, sC, i64_w, i32_w]; rfl
                        refine tk 6 30 ?_ #[tt, tt, tt, tt, tt, tt, tt, ff, ff, ff, ff, ff, ff, ff, ff, ff, ff, ff] rfl rfl (take_ofW HT_.out HW_.out (by kernel_rfl)) (Or.inl ⟨by rfl, ?_⟩) hHeld ?_ ?_ ?_; rotate_left; rintro w' ⟨s0, s1, s2⟩; go_simp; with_reducible rfl; rotate_left; simp only [Act.put, sA, sZ, sC, i64_w, i32_w]; rfl
                        refine pu 7 31 ?_ #[tt, tt, tt, tt, tt, tt, tt, tt, ff, ff, ff, ff, ff, ff, ff, ff, ff, ff] rfl rfl (any_of HT_.out (by kernel_rfl)) (Or.inl ⟨by rfl, ?_⟩) ?_ ?_ ?_; rotate_left; intro w'; go_simp; with_reducible rfl; rotate_left; simp only [Act.put, sA, sZ, sC, i64_w, i32_w]; rfl
                        refine pu 8 32 ?_ #[tt, tt, tt, tt, tt, tt, tt, tt, tt, ff, ff, ff, ff, ff, ff, ff, ff, ff] rfl rfl (any_of HT_.out (by kernel_rfl)) (Or.inl ⟨by rfl, ?_⟩) ?_ ?_ ?_; rotate_left; intro w'; go_simp; with_reducible rfl; rotate_left; simp only [Act.put, sA, sZ, sC, i64_w, i32_w]; rfl
                        refine pu 9 33 ?_ #[tt, tt, tt, tt, tt, tt, tt, tt, tt, tt, ff, ff, ff, ff, ff, ff, ff, ff] rfl rfl (any_of HT_.out (by kernel_rfl)) (Or.inl ⟨by rfl, ?_⟩) ?_ ?_ ?_; rotate_left; intro w'; go_simp; with_reducible rfl; rotate_left; simp only [Act.put, sA, sZ, sC, i64_w, i32_w]; rfl
                        refine one_ (i := 10) (N := some 34) #[tt, tt, tt, tt, tt, tt, tt, tt, tt, tt, tt, ff, ff, ff, ff, ff, ff, ff] rfl rfl (one_of HT_.out (by kernel_rfl)) (by decide) (fun K hK => ?_)
                        refine goes_ Tryd.func66 (by kernel_rfl) rfl #[.int .i64 (rd l0_1 x3_2), .int .i64 0, .int .i64 (wrap64 ((ji14) - 1))] (by rfl) rfl rfl (by (try simp only [List.map_toArray, List.map_cons, List.map_nil]); first | done | (simp only [hji14]; rfl) | rfl | (simp only [List.length_drop, List.length_take]; rfl)) ?_
                        with_reducible refine (spec_l01In.calls (rd l0_1 x3_2) 0 (wrap64 ((ji14) - 1)) true _ A15.out).mono ?_
                        rintro e w' ⟨rfl, ⟨nd, rfl⟩⟩
                        refine ⟨_, rfl, ?_⟩
                        refine hK.out _ _ ⟨(blk_cell BK536.out 0).trans rfl, (blk_cell BK536.out 1).trans rfl, ((HB.out.cell (World.block_lt_of_cell? _ _ hw538_0)).trans hw538_0)⟩ (fun hHeld => ?_)
                        clear hK K
                        refine norm_ (a' := ?_) ?_ ?_
                        rotate_left
                        · show Act.put _ (some 34) _ = _
                          simp only [Act.put, sA, sZ, sC, i64_w, i32_w]
                          rfl
                        refine pu 11 35 ?_ #[tt, tt, tt, tt, tt, tt, tt, tt, tt, tt, tt, tt, ff, ff, ff, ff, ff, ff] rfl rfl (any_of HT_.out (by kernel_rfl)) (Or.inl ⟨by rfl, ?_⟩) ?_ ?_ ?_; rotate_left; intro w'; go_simp; with_reducible rfl; rotate_left; simp only [Act.put, sA, sZ, sC, i64_w, i32_w]; rfl
                        refine pu 12 36 ?_ #[tt, tt, tt, tt, tt, tt, tt, tt, tt, tt, tt, tt, tt, ff, ff, ff, ff, ff] rfl rfl (any_of HT_.out (by kernel_rfl)) (Or.inl ⟨by rfl, ?_⟩) ?_ ?_ ?_; rotate_left; intro w'; go_simp; with_reducible rfl; rotate_left; simp only [Act.put, sA, sZ, sC, i64_w, i32_w]; rfl
                        refine pu 14 38 ?_ #[tt, tt, tt, tt, tt, tt, tt, tt, tt, tt, tt, tt, tt, ff, tt, ff, ff, ff] rfl rfl (any_of HT_.out (by kernel_rfl)) (Or.inl ⟨by rfl, ?_⟩) ?_ ?_ ?_; rotate_left; intro w'; go_simp; with_reducible rfl; rotate_left; simp only [Act.put, sA, sZ, sC, i64_w, i32_w]; rfl
                        refine pu 15 39 ?_ #[tt, tt, tt, tt, tt, tt, tt, tt, tt, tt, tt, tt, tt, ff, tt, tt, ff, ff] rfl rfl (any_of HT_.out (by kernel_rfl)) (Or.inl ⟨by rfl, ?_⟩) ?_ ?_ ?_; rotate_left; intro w'; go_simp; with_reducible rfl; rotate_left; simp only [Act.put, sA, sZ, sC, i64_w, i32_w]; rfl
                        refine tk 13 37 ?_ #[tt, tt, tt, tt, tt, tt, tt, tt, tt, tt, tt, tt, tt, tt, tt, tt, ff, ff] rfl rfl (take_ofW HT_.out HW_.out (by kernel_rfl)) (Or.inl ⟨by rfl, ?_⟩) hHeld ?_ ?_ ?_; rotate_left; rintro w' ⟨s0, s1, s2⟩; go_simp; with_reducible rfl; rotate_left; simp only [Act.put, sA, sZ, sC, i64_w, i32_w]; rfl
                        refine one_ (i := 16) (N := some 40) #[tt, tt, tt, tt, tt, tt, tt, tt, tt, tt, tt, tt, tt, tt, tt, tt, tt, ff] rfl rfl (one_of HT_.out (by kernel_rfl)) (by decide) (fun K hK => ?_)
                        refine goes_ Tryd.func83 (by kernel_rfl) rfl #[.agg #[.int .i64 a0_0, .slice (some ad538) l0_1.length c0_1], .int .i64 x3_2, .int .i64 x3_2] (by rfl) rfl rfl (by first | rfl | (simp only [mA, mC, mN]; rfl)) ?_
                        with_reducible refine (spec_l01Has.calls a0_0 _ _ l0_1 x3_2 x3_2 true _ ?side1 ?side2 A17.out).mono ?_
                        (case side1 => repeat (first | exact (Kd.C_below HR0_1.out (BU HB)) | (with_reducible refine Kd.C_alloc ?_ _) | (with_reducible refine Kd.C_drewN ?_ _) | (with_reducible refine Kd.C_drew ?_)))
                        (case side2 => exact HC0_1.out)
                        rintro e w21 ⟨rfl, hb⟩
                        refine ⟨_, rfl, ?_⟩
                        replace BK536 := Fa.mk (blk_below (bU BK536) hb); replace HB := Fa.mk (below_step (BU HB) hb)
                        refine hK.out _ _ ⟨(blk_cell BK536.out 0).trans rfl, (blk_cell BK536.out 1).trans rfl, ((HB.out.cell (World.block_lt_of_cell? _ _ hw538_0)).trans hw538_0)⟩ (fun hHeld => ?_)
                        clear hK K
                        refine norm_ (a' := ?_) ?_ ?_
                        rotate_left
                        · show Act.put _ (some 40) _ = _
                          simp only [Act.put, sA, sZ, sC, i64_w, i32_w]
                          rfl
                        refine pu 17 41 ?_ #[tt, tt, tt, tt, tt, tt, tt, tt, tt, tt, tt, tt, tt, tt, tt, tt, tt, tt] rfl rfl (any_of HT_.out (by kernel_rfl)) (Or.inl ⟨by rfl, ?_⟩) ?_ ?_ ?_; rotate_left; intro w'; go_simp; with_reducible rfl; rotate_left; simp only [Act.put, sA, sZ, sC, i64_w, i32_w]; rfl
                        refine done_ (done_of HT_.out (by kernel_rfl)) ?_
                        try go_wp2
                        go_ret
                        exact ⟨rfl, BU HB⟩
                      · replace c18 := Bool.eq_false_iff.mpr c18
                        subst c18
                        have H1 : (spec_l01Is.l0 k2 (wrap64 (x3_2 + 1)) a0_0 l0_1) = some r := by rw [if_neg (show ¬ (false = true) by decide)] at H; exact H
                        clear H
                        have H := H1
                        clear H1
                        have H' := Fa.mk H
                        clear H
                        obtain ⟨hcz22_0, hcz22_1, hfz22_0, hfz22_1⟩ := cz2 BK536.out
                        try go_wp2
                        replace BK536 := Fa.mk (blk_drew BK536.out); replace HB := Fa.mk (below_drew1 HB.out)
                        have p538 : 0 ≤ (x3_2 : Int) := of_decide_eq_true (by assumption)
                        have q538 : x3_2 < (l0_1.length : Int) := of_decide_eq_true (by assumption)
                        obtain ⟨ad538, e538, hx538_0⟩ := Kd.at_int HR0_1.out x3_2 p538 q538
                        have hw538_0 := hx538_0
                        cases e538
                        replace hx538_0 := (HB.out.cell (World.block_lt_of_cell? w _ hx538_0)).trans hx538_0
                        replace p538 := eq_true p538
                        replace q538 := eq_true q538
                        refine start_ (n := 18) (S := fun w' => w'.cell? ⟨gb536, 0, none⟩ = some (.int .i64 a0_0) ∧ w'.cell? ⟨gb536, 1, none⟩ = some (.slice (some ad538) l0_1.length c0_1) ∧ w'.cell? (ad538.add (x3_2).toNat) = some (.int .i64 (rd l0_1 x3_2))) (ds := []) #[ff, ff, ff, ff, ff, ff, ff, ff, ff, ff, ff, ff, ff, ff, ff, ff, ff, ff] (by kernel_rfl) rfl rfl ⟨(blk_cell BK536.out 0).trans rfl, (blk_cell BK536.out 1).trans rfl, ((HB.out.cell (World.block_lt_of_cell? _ _ hw538_0)).trans hw538_0)⟩ (fun hHeld => ?_); refine with_tabW spec_l01Is.tab6 spec_l01Is.bits6 (fun HT_ HW_ => ?_)
                        generalize wr.drew = w23 at BK536 HB hx538_0 hHeld ⊢
                        refine pu 0 24 ?_ #[tt, ff, ff, ff, ff, ff, ff, ff, ff, ff, ff, ff, ff, ff, ff, ff, ff, ff] rfl rfl (any_of HT_.out (by kernel_rfl)) (Or.inl ⟨by rfl, ?_⟩) ?_ ?_ ?_; rotate_left; intro w'; go_simp; with_reducible rfl; rotate_left; simp only [Act.put, sA, sZ, sC, i64_w, i32_w]; rfl
                        refine pu 2 26 ?_ #[tt, ff, tt, ff, ff, ff, ff, ff, ff, ff, ff, ff, ff, ff, ff, ff, ff, ff] rfl rfl (any_of HT_.out (by kernel_rfl)) (Or.inl ⟨by rfl, ?_⟩) ?_ ?_ ?_; rotate_left; intro w'; go_simp; with_reducible rfl; rotate_left; simp only [Act.put, sA, sZ, sC, i64_w, i32_w]; rfl
                        refine pu 5 29 ?_ #[tt, ff, tt, ff, ff, tt, ff, ff, ff, ff, ff, ff, ff, ff, ff, ff, ff, ff] rfl rfl (any_of HT_.out (by kernel_rfl)) (Or.inl ⟨by rfl, ?_⟩) ?_ ?_ ?_; rotate_left; intro w'; go_simp; with_reducible rfl; rotate_left; simp only [Act.put, sA, sZ, sC, i64_w, i32_w]; rfl
                        refine tk 1 25 ?_ #[tt, tt, tt, ff, ff, tt, ff, ff, ff, ff, ff, ff, ff, ff, ff, ff, ff, ff] rfl rfl (take_ofW HT_.out HW_.out (by kernel_rfl)) (Or.inl ⟨by rfl, ?_⟩) hHeld ?_ ?_ ?_; rotate_left; rintro w' ⟨s0, s1, s2⟩; go_simp; with_reducible rfl; rotate_left; simp only [Act.put, sA, sZ, sC, i64_w, i32_w]; rfl
                        refine pu 3 27 ?_ #[tt, tt, tt, tt, ff, tt, ff, ff, ff, ff, ff, ff, ff, ff, ff, ff, ff, ff] rfl rfl (any_of HT_.out (by kernel_rfl)) (Or.inl ⟨by rfl, ?_⟩) ?_ ?_ ?_; rotate_left; intro w'; go_simp; with_reducible rfl; rotate_left; simp only [Act.put, sA, sZ, sC, i64_w, i32_w]; rfl
                        refine tk 4 28 ?_ #[tt, tt, tt, tt, tt, tt, ff, ff, ff, ff, ff, ff, ff, ff, ff, ff, ff, ff] rfl rfl (take_ofW HT_.out HW_.out (by kernel_rfl)) (Or.inl ⟨by rfl, ?_⟩) hHeld ?_ ?_ ?_; rotate_left; rintro w' ⟨s0, s1, s2⟩; go_simp; with_reducible rfl; rotate_left; simp only [Act.put, sA, sZ, sC, i64_w, i32_w]; rfl
                        refine tk 6 30 ?_ #[tt, tt, tt, tt, tt, tt, tt, ff, ff, ff, ff, ff, ff, ff, ff, ff, ff, ff] rfl rfl (take_ofW HT_.out HW_.out (by kernel_rfl)) (Or.inl ⟨by rfl, ?_⟩) hHeld ?_ ?_ ?_; rotate_left; rintro w' ⟨s0, s1, s2⟩; go_simp; with_reducible rfl; rotate_left; simp only [Act.put, sA, sZ, sC, i64_w, i32_w]; rfl
                        refine pu 7 31 ?_ #[tt, tt, tt, tt, tt, tt, tt, tt, ff, ff, ff, ff, ff, ff, ff, ff, ff, ff] rfl rfl (any_of HT_.out (by kernel_rfl)) (Or.inl ⟨by rfl, ?_⟩) ?_ ?_ ?_; rotate_left; intro w'; go_simp; with_reducible rfl; rotate_left; simp only [Act.put, sA, sZ, sC, i64_w, i32_w]; rfl
                        refine pu 8 32 ?_ #[tt, tt, tt, tt, tt, tt, tt, tt, tt, ff, ff, ff, ff, ff, ff, ff, ff, ff] rfl rfl (any_of HT_.out (by kernel_rfl)) (Or.inl ⟨by rfl, ?_⟩) ?_ ?_ ?_; rotate_left; intro w'; go_simp; with_reducible rfl; rotate_left; simp only [Act.put, sA, sZ, sC, i64_w, i32_w]; rfl
                        refine pu 9 33 ?_ #[tt, tt, tt, tt, tt, tt, tt, tt, tt, tt, ff, ff, ff, ff, ff, ff, ff, ff] rfl rfl (any_of HT_.out (by kernel_rfl)) (Or.inl ⟨by rfl, ?_⟩) ?_ ?_ ?_; rotate_left; intro w'; go_simp; with_reducible rfl; rotate_left; simp only [Act.put, sA, sZ, sC, i64_w, i32_w]; rfl
                        refine one_ (i := 10) (N := some 34) #[tt, tt, tt, tt, tt, tt, tt, tt, tt, tt, tt, ff, ff, ff, ff, ff, ff, ff] rfl rfl (one_of HT_.out (by kernel_rfl)) (by decide) (fun K hK => ?_)
                        refine goes_ Tryd.func66 (by kernel_rfl) rfl #[.int .i64 (rd l0_1 x3_2), .int .i64 0, .int .i64 (wrap64 ((ji14) - 1))] (by rfl) rfl rfl (by (try simp only [List.map_toArray, List.map_cons, List.map_nil]); first | done | (simp only [hji14]; rfl) | rfl | (simp only [List.length_drop, List.length_take]; rfl)) ?_
                        with_reducible refine (spec_l01In.calls (rd l0_1 x3_2) 0 (wrap64 ((ji14) - 1)) true _ A15.out).mono ?_
                        rintro e w' ⟨rfl, ⟨nd, rfl⟩⟩
                        refine ⟨_, rfl, ?_⟩
                        refine hK.out _ _ ⟨(blk_cell BK536.out 0).trans rfl, (blk_cell BK536.out 1).trans rfl, ((HB.out.cell (World.block_lt_of_cell? _ _ hw538_0)).trans hw538_0)⟩ (fun hHeld => ?_)
                        clear hK K
                        refine norm_ (a' := ?_) ?_ ?_
                        rotate_left
                        · show Act.put _ (some 34) _ = _
                          simp only [Act.put, sA, sZ, sC, i64_w, i32_w]
                          rfl
                        refine pu 11 35 ?_ #[tt, tt, tt, tt, tt, tt, tt, tt, tt, tt, tt, tt, ff, ff, ff, ff, ff, ff] rfl rfl (any_of HT_.out (by kernel_rfl)) (Or.inl ⟨by rfl, ?_⟩) ?_ ?_ ?_; rotate_left; intro w'; go_simp; with_reducible rfl; rotate_left; simp only [Act.put, sA, sZ, sC, i64_w, i32_w]; rfl
                        refine pu 12 36 ?_ #[tt, tt, tt, tt, tt, tt, tt, tt, tt, tt, tt, tt, tt, ff, ff, ff, ff, ff] rfl rfl (any_of HT_.out (by kernel_rfl)) (Or.inl ⟨by rfl, ?_⟩) ?_ ?_ ?_; rotate_left; intro w'; go_simp; with_reducible rfl; rotate_left; simp only [Act.put, sA, sZ, sC, i64_w, i32_w]; rfl
                        refine pu 14 38 ?_ #[tt, tt, tt, tt, tt, tt, tt, tt, tt, tt, tt, tt, tt, ff, tt, ff, ff, ff] rfl rfl (any_of HT_.out (by kernel_rfl)) (Or.inl ⟨by rfl, ?_⟩) ?_ ?_ ?_; rotate_left; intro w'; go_simp; with_reducible rfl; rotate_left; simp only [Act.put, sA, sZ, sC, i64_w, i32_w]; rfl
                        refine pu 15 39 ?_ #[tt, tt, tt, tt, tt, tt, tt, tt, tt, tt, tt, tt, tt, ff, tt, tt, ff, ff] rfl rfl (any_of HT_.out (by kernel_rfl)) (Or.inl ⟨by rfl, ?_⟩) ?_ ?_ ?_; rotate_left; intro w'; go_simp; with_reducible rfl; rotate_left; simp only [Act.put, sA, sZ, sC, i64_w, i32_w]; rfl
                        refine tk 13 37 ?_ #[tt, tt, tt, tt, tt, tt, tt, tt, tt, tt, tt, tt, tt, tt, tt, tt, ff, ff] rfl rfl (take_ofW HT_.out HW_.out (by kernel_rfl)) (Or.inl ⟨by rfl, ?_⟩) hHeld ?_ ?_ ?_; rotate_left; rintro w' ⟨s0, s1, s2⟩; go_simp; with_reducible rfl; rotate_left; simp only [Act.put, sA, sZ, sC, i64_w, i32_w]; rfl
                        refine one_ (i := 16) (N := some 40) #[tt, tt, tt, tt, tt, tt, tt, tt, tt, tt, tt, tt, tt, tt, tt, tt, tt, ff] rfl rfl (one_of HT_.out (by kernel_rfl)) (by decide) (fun K hK => ?_)
                        refine goes_ Tryd.func83 (by kernel_rfl) rfl #[.agg #[.int .i64 a0_0, .slice (some ad538) l0_1.length c0_1], .int .i64 x3_2, .int .i64 x3_2] (by rfl) rfl rfl (by first | rfl | (simp only [mA, mC, mN]; rfl)) ?_
                        with_reducible refine (spec_l01Has.calls a0_0 _ _ l0_1 x3_2 x3_2 false _ ?side1 ?side2 A17.out).mono ?_
                        (case side1 => repeat (first | exact (Kd.C_below HR0_1.out (BU HB)) | (with_reducible refine Kd.C_alloc ?_ _) | (with_reducible refine Kd.C_drewN ?_ _) | (with_reducible refine Kd.C_drew ?_)))
                        (case side2 => exact HC0_1.out)
                        rintro e w24 ⟨rfl, hb⟩
                        refine ⟨_, rfl, ?_⟩
                        replace BK536 := Fa.mk (blk_below (bU BK536) hb); replace HB := Fa.mk (below_step (BU HB) hb)
                        refine hK.out _ _ ⟨(blk_cell BK536.out 0).trans rfl, (blk_cell BK536.out 1).trans rfl, ((HB.out.cell (World.block_lt_of_cell? _ _ hw538_0)).trans hw538_0)⟩ (fun hHeld => ?_)
                        clear hK K
                        refine norm_ (a' := ?_) ?_ ?_
                        rotate_left
                        · show Act.put _ (some 40) _ = _
                          simp only [Act.put, sA, sZ, sC, i64_w, i32_w]
                          rfl
                        refine pu 17 41 ?_ #[tt, tt, tt, tt, tt, tt, tt, tt, tt, tt, tt, tt, tt, tt, tt, tt, tt, tt] rfl rfl (any_of HT_.out (by kernel_rfl)) (Or.inl ⟨by rfl, ?_⟩) ?_ ?_ ?_; rotate_left; intro w'; go_simp; with_reducible rfl; rotate_left; simp only [Act.put, sA, sZ, sC, i64_w, i32_w]; rfl
                        refine done_ (done_of HT_.out (by kernel_rfl)) ?_
                        try go_wp2
                        go_roundg k2
                        case measure => have := HJ1.out; have := HK2.out; omega
                        case rel => exact ⟨(wrap64 (x3_2 + 1)), rfl, H', ⟨by have := HJ1.out; have := HK2.out; omega⟩, ⟨bU BK536⟩, ⟨BU HB⟩⟩
                    · replace c16 := Bool.eq_false_iff.mpr c16
                      subst c16
                      have H1 : (some false) = some r := by rw [if_neg (show ¬ (false = true) by decide)] at H; exact H
                      clear H
                      have H := H1
                      clear H1
                      obtain rfl := Option.some.inj H
                      obtain ⟨hcz25_0, hcz25_1, hfz25_0, hfz25_1⟩ := cz2 BK536.out
                      try go_wp2
                      replace BK536 := Fa.mk (blk_drew BK536.out); replace HB := Fa.mk (below_drew1 HB.out)
                      have p538 : 0 ≤ (x3_2 : Int) := of_decide_eq_true (by assumption)
                      have q538 : x3_2 < (l0_1.length : Int) := of_decide_eq_true (by assumption)
                      obtain ⟨ad538, e538, hx538_0⟩ := Kd.at_int HR0_1.out x3_2 p538 q538
                      have hw538_0 := hx538_0
                      cases e538
                      replace hx538_0 := (HB.out.cell (World.block_lt_of_cell? w _ hx538_0)).trans hx538_0
                      replace p538 := eq_true p538
                      replace q538 := eq_true q538
                      refine start_ (n := 18) (S := fun w' => w'.cell? ⟨gb536, 0, none⟩ = some (.int .i64 a0_0) ∧ w'.cell? ⟨gb536, 1, none⟩ = some (.slice (some ad538) l0_1.length c0_1) ∧ w'.cell? (ad538.add (x3_2).toNat) = some (.int .i64 (rd l0_1 x3_2))) (ds := []) #[ff, ff, ff, ff, ff, ff, ff, ff, ff, ff, ff, ff, ff, ff, ff, ff, ff, ff] (by kernel_rfl) rfl rfl ⟨(blk_cell BK536.out 0).trans rfl, (blk_cell BK536.out 1).trans rfl, ((HB.out.cell (World.block_lt_of_cell? _ _ hw538_0)).trans hw538_0)⟩ (fun hHeld => ?_); refine with_tabW spec_l01Is.tab6 spec_l01Is.bits6 (fun HT_ HW_ => ?_)
                      generalize wr.drew = w26 at BK536 HB hx538_0 hHeld ⊢
                      refine pu 0 24 ?_ #[tt, ff, ff, ff, ff, ff, ff, ff, ff, ff, ff, ff, ff, ff, ff, ff, ff, ff] rfl rfl (any_of HT_.out (by kernel_rfl)) (Or.inl ⟨by rfl, ?_⟩) ?_ ?_ ?_; rotate_left; intro w'; go_simp; with_reducible rfl; rotate_left; simp only [Act.put, sA, sZ, sC, i64_w, i32_w]; rfl
                      refine pu 2 26 ?_ #[tt, ff, tt, ff, ff, ff, ff, ff, ff, ff, ff, ff, ff, ff, ff, ff, ff, ff] rfl rfl (any_of HT_.out (by kernel_rfl)) (Or.inl ⟨by rfl, ?_⟩) ?_ ?_ ?_; rotate_left; intro w'; go_simp; with_reducible rfl; rotate_left; simp only [Act.put, sA, sZ, sC, i64_w, i32_w]; rfl
                      refine pu 5 29 ?_ #[tt, ff, tt, ff, ff, tt, ff, ff, ff, ff, ff, ff, ff, ff, ff, ff, ff, ff] rfl rfl (any_of HT_.out (by kernel_rfl)) (Or.inl ⟨by rfl, ?_⟩) ?_ ?_ ?_; rotate_left; intro w'; go_simp; with_reducible rfl; rotate_left; simp only [Act.put, sA, sZ, sC, i64_w, i32_w]; rfl
                      refine tk 1 25 ?_ #[tt, tt, tt, ff, ff, tt, ff, ff, ff, ff, ff, ff, ff, ff, ff, ff, ff, ff] rfl rfl (take_ofW HT_.out HW_.out (by kernel_rfl)) (Or.inl ⟨by rfl, ?_⟩) hHeld ?_ ?_ ?_; rotate_left; rintro w' ⟨s0, s1, s2⟩; go_simp; with_reducible rfl; rotate_left; simp only [Act.put, sA, sZ, sC, i64_w, i32_w]; rfl
                      refine pu 3 27 ?_ #[tt, tt, tt, tt, ff, tt, ff, ff, ff, ff, ff, ff, ff, ff, ff, ff, ff, ff] rfl rfl (any_of HT_.out (by kernel_rfl)) (Or.inl ⟨by rfl, ?_⟩) ?_ ?_ ?_; rotate_left; intro w'; go_simp; with_reducible rfl; rotate_left; simp only [Act.put, sA, sZ, sC, i64_w, i32_w]; rfl
                      refine tk 4 28 ?_ #[tt, tt, tt, tt, tt, tt, ff, ff, ff, ff, ff, ff, ff, ff, ff, ff, ff, ff] rfl rfl (take_ofW HT_.out HW_.out (by kernel_rfl)) (Or.inl ⟨by rfl, ?_⟩) hHeld ?_ ?_ ?_; rotate_left; rintro w' ⟨s0, s1, s2⟩; go_simp; with_reducible rfl; rotate_left; simp only [Act.put, sA, sZ, sC, i64_w, i32_w]; rfl
                      refine tk 6 30 ?_ #[tt, tt, tt, tt, tt, tt, tt, ff, ff, ff, ff, ff, ff, ff, ff, ff, ff, ff] rfl rfl (take_ofW HT_.out HW_.out (by kernel_rfl)) (Or.inl ⟨by rfl, ?_⟩) hHeld ?_ ?_ ?_; rotate_left; rintro w' ⟨s0, s1, s2⟩; go_simp; with_reducible rfl; rotate_left; simp only [Act.put, sA, sZ, sC, i64_w, i32_w]; rfl
                      refine pu 7 31 ?_ #[tt, tt, tt, tt, tt, tt, tt, tt, ff, ff, ff, ff, ff, ff, ff, ff, ff, ff] rfl rfl (any_of HT_.out (by kernel_rfl)) (Or.inl ⟨by rfl, ?_⟩) ?_ ?_ ?_; rotate_left; intro w'; go_simp; with_reducible rfl; rotate_left; simp only [Act.put, sA, sZ, sC, i64_w, i32_w]; rfl
                      refine pu 8 32 ?_ #[tt, tt, tt, tt, tt, tt, tt, tt, tt, ff, ff, ff, ff, ff, ff, ff, ff, ff] rfl rfl (any_of HT_.out (by kernel_rfl)) (Or.inl ⟨by rfl, ?_⟩) ?_ ?_ ?_; rotate_left; intro w'; go_simp; with_reducible rfl; rotate_left; simp only [Act.put, sA, sZ, sC, i64_w, i32_w]; rfl
                      refine pu 9 33 ?_ #[tt, tt, tt, tt, tt, tt, tt, tt, tt, tt, ff, ff, ff, ff, ff, ff, ff, ff] rfl rfl (any_of HT_.out (by kernel_rfl)) (Or.inl ⟨by rfl, ?_⟩) ?_ ?_ ?_; rotate_left; intro w'; go_simp; with_reducible rfl; rotate_left; simp only [Act.put, sA, sZ, sC, i64_w, i32_w]; rfl
                      refine one_ (i := 10) (N := some 34) #[tt, tt, tt, tt, tt, tt, tt, tt, tt, tt, tt, ff, ff, ff, ff, ff, ff, ff] rfl rfl (one_of HT_.out (by kernel_rfl)) (by decide) (fun K hK => ?_)
                      refine goes_ Tryd.func66 (by kernel_rfl) rfl #[.int .i64 (rd l0_1 x3_2), .int .i64 0, .int .i64 (wrap64 ((ji14) - 1))] (by rfl) rfl rfl (by (try simp only [List.map_toArray, List.map_cons, List.map_nil]); first | done | (simp only [hji14]; rfl) | rfl | (simp only [List.length_drop, List.length_take]; rfl)) ?_
                      with_reducible refine (spec_l01In.calls (rd l0_1 x3_2) 0 (wrap64 ((ji14) - 1)) false _ A15.out).mono ?_
                      rintro e w' ⟨rfl, ⟨nd, rfl⟩⟩
                      refine ⟨_, rfl, ?_⟩
                      refine hK.out _ _ ⟨(blk_cell BK536.out 0).trans rfl, (blk_cell BK536.out 1).trans rfl, ((HB.out.cell (World.block_lt_of_cell? _ _ hw538_0)).trans hw538_0)⟩ (fun hHeld => ?_)
                      clear hK K
                      refine norm_ (a' := ?_) ?_ ?_
                      rotate_left
                      · show Act.put _ (some 34) _ = _
                        simp only [Act.put, sA, sZ, sC, i64_w, i32_w]
                        rfl
                      refine pu 11 35 ?_ #[tt, tt, tt, tt, tt, tt, tt, tt, tt, tt, tt, tt, ff, ff, ff, ff, ff, ff] rfl rfl (any_of HT_.out (by kernel_rfl)) (Or.inl ⟨by rfl, ?_⟩) ?_ ?_ ?_; rotate_left; intro w'; go_simp; with_reducible rfl; rotate_left; simp only [Act.put, sA, sZ, sC, i64_w, i32_w]; rfl
                      refine pu 12 36 ?_ #[tt, tt, tt, tt, tt, tt, tt, tt, tt, tt, tt, tt, tt, ff, ff, ff, ff, ff] rfl rfl (any_of HT_.out (by kernel_rfl)) (Or.inl ⟨by rfl, ?_⟩) ?_ ?_ ?_; rotate_left; intro w'; go_simp; with_reducible rfl; rotate_left; simp only [Act.put, sA, sZ, sC, i64_w, i32_w]; rfl
                      refine pu 13 37 undef #[tt, tt, tt, tt, tt, tt, tt, tt, tt, tt, tt, tt, tt, tt, ff, ff, ff, ff] rfl rfl (any_of HT_.out (by kernel_rfl)) (Or.inr ⟨by rfl, rfl⟩) ?_ ?_ ?_
                      rotate_left
                      · simp only [Act.put, sA, sZ, sC, i64_w, i32_w]
                        rfl
                      refine pu 14 38 undef #[tt, tt, tt, tt, tt, tt, tt, tt, tt, tt, tt, tt, tt, tt, tt, ff, ff, ff] rfl rfl (any_of HT_.out (by kernel_rfl)) (Or.inr ⟨by rfl, rfl⟩) ?_ ?_ ?_
                      rotate_left
                      · simp only [Act.put, sA, sZ, sC, i64_w, i32_w]
                        rfl
                      refine pu 15 39 undef #[tt, tt, tt, tt, tt, tt, tt, tt, tt, tt, tt, tt, tt, tt, tt, tt, ff, ff] rfl rfl (any_of HT_.out (by kernel_rfl)) (Or.inr ⟨by rfl, rfl⟩) ?_ ?_ ?_
                      rotate_left
                      · simp only [Act.put, sA, sZ, sC, i64_w, i32_w]
                        rfl
                      refine pu 16 40 undef #[tt, tt, tt, tt, tt, tt, tt, tt, tt, tt, tt, tt, tt, tt, tt, tt, tt, ff] rfl rfl (any_of HT_.out (by kernel_rfl)) (Or.inr ⟨by rfl, rfl⟩) ?_ ?_ ?_
                      rotate_left
                      · simp only [Act.put, sA, sZ, sC, i64_w, i32_w]
                        rfl
                      refine pu 17 41 ?_ #[tt, tt, tt, tt, tt, tt, tt, tt, tt, tt, tt, tt, tt, tt, tt, tt, tt, tt] rfl rfl (any_of HT_.out (by kernel_rfl)) (Or.inl ⟨by rfl, ?_⟩) ?_ ?_ ?_; rotate_left; intro w'; go_simp; with_reducible rfl; rotate_left; simp only [Act.put, sA, sZ, sC, i64_w, i32_w]; rfl
                      refine done_ (done_of HT_.out (by kernel_rfl)) ?_
                      try go_wp2
                      go_ret
                      exact ⟨rfl, BU HB⟩
                  · rw [if_neg c13] at H
                    exact absurd H (by simp)
                · rw [if_neg c11] at H
                  exact absurd H (by simp)
              · rw [if_neg c10] at H
                exact absurd H (by simp)
            · rw [if_neg c9] at H
              have c9b0 := decide_eq_false c9
              clear c9
              have H' := Fa.mk H
              clear H
              obtain ⟨hcz27_0, hcz27_1, hfz27_0, hfz27_1⟩ := cz2 BK536.out
              go_wp2
              go_loopg [4] k2 (fun kq v4 w' => ∃ (x4_3 : Int), v4 = .int .i64 x4_3 ∧ Fa (spec_l01Is.l1 kq x4_3 a0_0 l0_1 = some r) ∧ Fa (kq ≤ k2) ∧ Fa (w'.heap[gb536]? = some (.cells #[.int .i64 a0_0, (.slice A0_1 l0_1.length c0_1)] 26 (0, 0))) ∧ Fa (Below w.heap.size w w'))
              case atStart => exact ⟨(0), rfl, H', ⟨Nat.le_refl _⟩, ⟨bU BK536⟩, ⟨BU HB⟩⟩
              case round =>
                clear H'
                obtain ⟨x4_3, rfl, HA, HK3, BK536, HB⟩ := hrel
                cases gk with
                | zero => exact absurd HA.out (by simp [spec_l01Is.l1])
                | succ k3 =>
                  have H := HA.out
                  clear HA
                  simp only [spec_l01Is.l1] at H
                  by_cases c28 : x4_3 < a0_0
                  · rw [if_pos c28] at H
                    have c28b0 := decide_eq_true c28
                    clear c28
                    have H' := Fa.mk H
                    clear H
                    obtain ⟨hcz29_0, hcz29_1, hfz29_0, hfz29_1⟩ := cz2 BK536.out
                    go_wp2
                    go_loopg [5] k3 (fun kq v5 w' => ∃ (x5_4 : Int), v5 = .int .i64 x5_4 ∧ Fa (spec_l01Is.l2 kq x4_3 x5_4 a0_0 l0_1 = some r) ∧ Fa (kq ≤ k3) ∧ Fa (w'.heap[gb536]? = some (.cells #[.int .i64 a0_0, (.slice A0_1 l0_1.length c0_1)] 26 (0, 0))) ∧ Fa (Below w.heap.size w w'))
                    case atStart => exact ⟨(0), rfl, H', ⟨Nat.le_refl _⟩, ⟨bU BK536⟩, ⟨BU HB⟩⟩
                    case round =>
                      clear H'
                      obtain ⟨x5_4, rfl, HA, HK4, BK536, HB⟩ := hrel
                      cases gk with
                      | zero => exact absurd HA.out (by simp [spec_l01Is.l2])
                      | succ k4 =>
                        have H := HA.out
                        clear HA
                        simp only [spec_l01Is.l2] at H
                        by_cases c30 : x5_4 < x4_3
                        · rw [if_pos c30] at H
                          have c30b0 := decide_eq_true c30
                          clear c30
                          replace H := Option.bind_eq_some_iff.mp H
                          obtain ⟨t541, A310, H⟩ := H
                          replace H : ((spec_l01Has.f a0_0 l0_1 x5_4 x4_3).bind fun t542 => (if (t541 != t542) = true then (some false) else (spec_l01Is.l2 k4 x4_3 (wrap64 (x5_4 + 1)) a0_0 l0_1))) = some r := H
                          have A31 := Fa.mk A310
                          clear A310
                          replace H := Option.bind_eq_some_iff.mp H
                          obtain ⟨t542, A320, H⟩ := H
                          replace H : (if (t541 != t542) = true then (some false) else (spec_l01Is.l2 k4 x4_3 (wrap64 (x5_4 + 1)) a0_0 l0_1)) = some r := H
                          have A32 := Fa.mk A320
                          clear A320
                          by_cases c33 : (t541 != t542) = true
                          · rw [if_pos c33] at H
                            have c33b0 : (t541 != t542) = true := c33
                            (try (have c33b1 : decide (t541 = t542) = false := by simpa using c33))
                            (try (have c33b2 : (t541 == t542) = false := by simpa using c33))
                            (try (have c33b3 : ¬ (t541 = t542) := by simpa using c33))
                            clear c33
                            obtain rfl := Option.some.inj H
                            try go_wp2
                            replace BK536 := Fa.mk (blk_drew BK536.out); replace HB := Fa.mk (below_drew1 HB.out)
                            refine start_ (n := 9) (S := fun w' => w'.cell? ⟨gb536, 0, none⟩ = some (.int .i64 a0_0) ∧ w'.cell? ⟨gb536, 1, none⟩ = some (.slice A0_1 l0_1.length c0_1)) (ds := []) #[ff, ff, ff, ff, ff, ff, ff, ff, ff] (by kernel_rfl) rfl rfl ⟨(blk_cell BK536.out 0).trans rfl, (blk_cell BK536.out 1).trans rfl⟩ (fun hHeld => ?_); refine with_tabW spec_l01Is.tab14 spec_l01Is.bits14 (fun HT_ HW_ => ?_)
                            generalize wr.drew = w34 at BK536 HB hHeld ⊢
                            refine pu 1 54 ?_ #[ff, tt, ff, ff, ff, ff, ff, ff, ff] rfl rfl (any_of HT_.out (by kernel_rfl)) (Or.inl ⟨by rfl, ?_⟩) ?_ ?_ ?_; rotate_left; intro w'; go_simp; with_reducible rfl; rotate_left; simp only [Act.put, sA, sZ, sC, i64_w, i32_w]; rfl
                            refine pu 2 55 ?_ #[ff, tt, tt, ff, ff, ff, ff, ff, ff] rfl rfl (any_of HT_.out (by kernel_rfl)) (Or.inl ⟨by rfl, ?_⟩) ?_ ?_ ?_; rotate_left; intro w'; go_simp; with_reducible rfl; rotate_left; simp only [Act.put, sA, sZ, sC, i64_w, i32_w]; rfl
                            refine pu 5 58 ?_ #[ff, tt, tt, ff, ff, tt, ff, ff, ff] rfl rfl (any_of HT_.out (by kernel_rfl)) (Or.inl ⟨by rfl, ?_⟩) ?_ ?_ ?_; rotate_left; intro w'; go_simp; with_reducible rfl; rotate_left; simp only [Act.put, sA, sZ, sC, i64_w, i32_w]; rfl
                            refine pu 6 59 ?_ #[ff, tt, tt, ff, ff, tt, tt, ff, ff] rfl rfl (any_of HT_.out (by kernel_rfl)) (Or.inl ⟨by rfl, ?_⟩) ?_ ?_ ?_; rotate_left; intro w'; go_simp; with_reducible rfl; rotate_left; simp only [Act.put, sA, sZ, sC, i64_w, i32_w]; rfl
                            refine tk 0 53 ?_ #[tt, tt, tt, ff, ff, tt, tt, ff, ff] rfl rfl (take_ofW HT_.out HW_.out (by kernel_rfl)) (Or.inl ⟨by rfl, ?_⟩) hHeld ?_ ?_ ?_; rotate_left; rintro w' ⟨s0, s1⟩; go_simp; with_reducible rfl; rotate_left; simp only [Act.put, sA, sZ, sC, i64_w, i32_w]; rfl
                            refine tk 4 57 ?_ #[tt, tt, tt, ff, tt, tt, tt, ff, ff] rfl rfl (take_ofW HT_.out HW_.out (by kernel_rfl)) (Or.inl ⟨by rfl, ?_⟩) hHeld ?_ ?_ ?_; rotate_left; rintro w' ⟨s0, s1⟩; go_simp; with_reducible rfl; rotate_left; simp only [Act.put, sA, sZ, sC, i64_w, i32_w]; rfl
                            refine one_ (i := 3) (N := some 56) #[tt, tt, tt, tt, tt, tt, tt, ff, ff] rfl rfl (one_of HT_.out (by kernel_rfl)) (by decide) (fun K hK => ?_)
                            refine goes_ Tryd.func83 (by kernel_rfl) rfl #[.agg #[.int .i64 a0_0, .slice A0_1 l0_1.length c0_1], .int .i64 x4_3, .int .i64 x5_4] (by rfl) rfl rfl (by first | rfl | (simp only [mA, mC, mN]; rfl)) ?_
                            with_reducible refine (spec_l01Has.calls a0_0 _ _ l0_1 x4_3 x5_4 t541 _ ?side1 ?side2 A31.out).mono ?_
                            (case side1 => exact Kd.C_below HR0_1.out (BU HB))
                            (case side2 => exact HC0_1.out)
                            rintro e w35 ⟨rfl, hb⟩
                            refine ⟨_, rfl, ?_⟩
                            replace BK536 := Fa.mk (blk_below (bU BK536) hb); replace HB := Fa.mk (below_step (BU HB) hb)
                            refine hK.out _ _ ⟨(blk_cell BK536.out 0).trans rfl, (blk_cell BK536.out 1).trans rfl⟩ (fun hHeld => ?_)
                            clear hK K
                            refine norm_ (a' := ?_) ?_ ?_
                            rotate_left
                            · show Act.put _ (some 56) _ = _
                              simp only [Act.put, sA, sZ, sC, i64_w, i32_w]
                              rfl
                            refine one_ (i := 7) (N := some 60) #[tt, tt, tt, tt, tt, tt, tt, tt, ff] rfl rfl (one_of HT_.out (by kernel_rfl)) (by decide) (fun K hK => ?_)
                            refine goes_ Tryd.func83 (by kernel_rfl) rfl #[.agg #[.int .i64 a0_0, .slice A0_1 l0_1.length c0_1], .int .i64 x5_4, .int .i64 x4_3] (by rfl) rfl rfl (by first | rfl | (simp only [mA, mC, mN]; rfl)) ?_
                            with_reducible refine (spec_l01Has.calls a0_0 _ _ l0_1 x5_4 x4_3 t542 _ ?side1 ?side2 A32.out).mono ?_
                            (case side1 => exact Kd.C_below HR0_1.out (BU HB))
                            (case side2 => exact HC0_1.out)
                            rintro e w36 ⟨rfl, hb⟩
                            refine ⟨_, rfl, ?_⟩
                            replace BK536 := Fa.mk (blk_below (bU BK536) hb); replace HB := Fa.mk (below_step (BU HB) hb)
                            refine hK.out _ _ ⟨(blk_cell BK536.out 0).trans rfl, (blk_cell BK536.out 1).trans rfl⟩ (fun hHeld => ?_)
                            clear hK K
                            refine norm_ (a' := ?_) ?_ ?_
                            rotate_left
                            · show Act.put _ (some 60) _ = _
                              simp only [Act.put, sA, sZ, sC, i64_w, i32_w]
                              rfl
                            refine pu 8 61 ?_ #[tt, tt, tt, tt, tt, tt, tt, tt, tt] rfl rfl (any_of HT_.out (by kernel_rfl)) (Or.inl ⟨by rfl, ?_⟩) ?_ ?_ ?_; rotate_left; intro w'; go_simp; with_reducible rfl; rotate_left; simp only [Act.put, sA, sZ, sC, i64_w, i32_w]; rfl
                            refine done_ (done_of HT_.out (by kernel_rfl)) ?_
                            try go_wp2
                            go_ret
                            exact ⟨rfl, BU HB⟩
                          · rw [if_neg c33] at H
                            have c33b0 : (t541 != t542) = false := by simpa using c33
                            (try (have c33b1 : decide (t541 = t542) = true := by simpa using c33))
                            (try (have c33b2 : (t541 == t542) = true := by simpa using c33))
                            clear c33
                            have H' := Fa.mk H
                            clear H
                            try go_wp2
                            replace BK536 := Fa.mk (blk_drew BK536.out); replace HB := Fa.mk (below_drew1 HB.out)
                            refine start_ (n := 9) (S := fun w' => w'.cell? ⟨gb536, 0, none⟩ = some (.int .i64 a0_0) ∧ w'.cell? ⟨gb536, 1, none⟩ = some (.slice A0_1 l0_1.length c0_1)) (ds := []) #[ff, ff, ff, ff, ff, ff, ff, ff, ff] (by kernel_rfl) rfl rfl ⟨(blk_cell BK536.out 0).trans rfl, (blk_cell BK536.out 1).trans rfl⟩ (fun hHeld => ?_); refine with_tabW spec_l01Is.tab14 spec_l01Is.bits14 (fun HT_ HW_ => ?_)
                            generalize wr.drew = w37 at BK536 HB hHeld ⊢
                            refine pu 1 54 ?_ #[ff, tt, ff, ff, ff, ff, ff, ff, ff] rfl rfl (any_of HT_.out (by kernel_rfl)) (Or.inl ⟨by rfl, ?_⟩) ?_ ?_ ?_; rotate_left; intro w'; go_simp; with_reducible rfl; rotate_left; simp only [Act.put, sA, sZ, sC, i64_w, i32_w]; rfl
                            refine pu 2 55 ?_ #[ff, tt, tt, ff, ff, ff, ff, ff, ff] rfl rfl (any_of HT_.out (by kernel_rfl)) (Or.inl ⟨by rfl, ?_⟩) ?_ ?_ ?_; rotate_left; intro w'; go_simp; with_reducible rfl; rotate_left; simp only [Act.put, sA, sZ, sC, i64_w, i32_w]; rfl
                            refine pu 5 58 ?_ #[ff, tt, tt, ff, ff, tt, ff, ff, ff] rfl rfl (any_of HT_.out (by kernel_rfl)) (Or.inl ⟨by rfl, ?_⟩) ?_ ?_ ?_; rotate_left; intro w'; go_simp; with_reducible rfl; rotate_left; simp only [Act.put, sA, sZ, sC, i64_w, i32_w]; rfl
                            refine pu 6 59 ?_ #[ff, tt, tt, ff, ff, tt, tt, ff, ff] rfl rfl (any_of HT_.out (by kernel_rfl)) (Or.inl ⟨by rfl, ?_⟩) ?_ ?_ ?_; rotate_left; intro w'; go_simp; with_reducible rfl; rotate_left; simp only [Act.put, sA, sZ, sC, i64_w, i32_w]; rfl
                            refine tk 0 53 ?_ #[tt, tt, tt, ff, ff, tt, tt, ff, ff] rfl rfl (take_ofW HT_.out HW_.out (by kernel_rfl)) (Or.inl ⟨by rfl, ?_⟩) hHeld ?_ ?_ ?_; rotate_left; rintro w' ⟨s0, s1⟩; go_simp; with_reducible rfl; rotate_left; simp only [Act.put, sA, sZ, sC, i64_w, i32_w]; rfl
                            refine tk 4 57 ?_ #[tt, tt, tt, ff, tt, tt, tt, ff, ff] rfl rfl (take_ofW HT_.out HW_.out (by kernel_rfl)) (Or.inl ⟨by rfl, ?_⟩) hHeld ?_ ?_ ?_; rotate_left; rintro w' ⟨s0, s1⟩; go_simp; with_reducible rfl; rotate_left; simp only [Act.put, sA, sZ, sC, i64_w, i32_w]; rfl
                            refine one_ (i := 3) (N := some 56) #[tt, tt, tt, tt, tt, tt, tt, ff, ff] rfl rfl (one_of HT_.out (by kernel_rfl)) (by decide) (fun K hK => ?_)
                            refine goes_ Tryd.func83 (by kernel_rfl) rfl #[.agg #[.int .i64 a0_0, .slice A0_1 l0_1.length c0_1], .int .i64 x4_3, .int .i64 x5_4] (by rfl) rfl rfl (by first | rfl | (simp only [mA, mC, mN]; rfl)) ?_
                            with_reducible refine (spec_l01Has.calls a0_0 _ _ l0_1 x4_3 x5_4 t541 _ ?side1 ?side2 A31.out).mono ?_
                            (case side1 => exact Kd.C_below HR0_1.out (BU HB))
                            (case side2 => exact HC0_1.out)
                            rintro e w38 ⟨rfl, hb⟩
                            refine ⟨_, rfl, ?_⟩
                            replace BK536 := Fa.mk (blk_below (bU BK536) hb); replace HB := Fa.mk (below_step (BU HB) hb)
                            refine hK.out _ _ ⟨(blk_cell BK536.out 0).trans rfl, (blk_cell BK536.out 1).trans rfl⟩ (fun hHeld => ?_)
                            clear hK K
                            refine norm_ (a' := ?_) ?_ ?_
                            rotate_left
                            · show Act.put _ (some 56) _ = _
                              simp only [Act.put, sA, sZ, sC, i64_w, i32_w]
                              rfl
                            refine one_ (i := 7) (N := some 60) #[tt, tt, tt, tt, tt, tt, tt, tt, ff] rfl rfl (one_of HT_.out (by kernel_rfl)) (by decide) (fun K hK => ?_)
                            refine goes_ Tryd.func83 (by kernel_rfl) rfl #[.agg #[.int .i64 a0_0, .slice A0_1 l0_1.length c0_1], .int .i64 x5_4, .int .i64 x4_3] (by rfl) rfl rfl (by first | rfl | (simp only [mA, mC, mN]; rfl)) ?_
                            with_reducible refine (spec_l01Has.calls a0_0 _ _ l0_1 x5_4 x4_3 t542 _ ?side1 ?side2 A32.out).mono ?_
                            (case side1 => exact Kd.C_below HR0_1.out (BU HB))
                            (case side2 => exact HC0_1.out)
                            rintro e w39 ⟨rfl, hb⟩
                            refine ⟨_, rfl, ?_⟩
                            replace BK536 := Fa.mk (blk_below (bU BK536) hb); replace HB := Fa.mk (below_step (BU HB) hb)
                            refine hK.out _ _ ⟨(blk_cell BK536.out 0).trans rfl, (blk_cell BK536.out 1).trans rfl⟩ (fun hHeld => ?_)
                            clear hK K
                            refine norm_ (a' := ?_) ?_ ?_
                            rotate_left
                            · show Act.put _ (some 60) _ = _
                              simp only [Act.put, sA, sZ, sC, i64_w, i32_w]
                              rfl
                            refine pu 8 61 ?_ #[tt, tt, tt, tt, tt, tt, tt, tt, tt] rfl rfl (any_of HT_.out (by kernel_rfl)) (Or.inl ⟨by rfl, ?_⟩) ?_ ?_ ?_; rotate_left; intro w'; go_simp; with_reducible rfl; rotate_left; simp only [Act.put, sA, sZ, sC, i64_w, i32_w]; rfl
                            refine done_ (done_of HT_.out (by kernel_rfl)) ?_
                            try go_wp2
                            go_roundg k4
                            case measure => have := HJ1.out; have := HK2.out; have := HK3.out; have := HK4.out; omega
                            case rel => exact ⟨(wrap64 (x5_4 + 1)), rfl, H', ⟨by have := HJ1.out; have := HK2.out; have := HK3.out; have := HK4.out; omega⟩, ⟨bU BK536⟩, ⟨BU HB⟩⟩
                        · rw [if_neg c30] at H
                          have c30b0 := decide_eq_false c30
                          clear c30
                          have H' := Fa.mk H
                          clear H
                          go_wp2
                          go_roundg k4
                          case measure => have := HJ1.out; have := HK2.out; have := HK3.out; have := HK4.out; omega
                          case rel => exact ⟨(wrap64 (x4_3 + 1)), rfl, H', ⟨by have := HJ1.out; have := HK2.out; have := HK3.out; have := HK4.out; omega⟩, ⟨bU BK536⟩, ⟨BU HB⟩⟩
                  · rw [if_neg c28] at H
                    have c28b0 := decide_eq_false c28
                    clear c28
                    obtain rfl := Option.some.inj H
                    obtain ⟨hcz40_0, hcz40_1, hfz40_0, hfz40_1⟩ := cz2 BK536.out
                    go_wp2
                    go_ret
                    exact ⟨rfl, BU HB⟩

end Go.Proofs.YtockngphfpedkaaDoor.XFnDistances
