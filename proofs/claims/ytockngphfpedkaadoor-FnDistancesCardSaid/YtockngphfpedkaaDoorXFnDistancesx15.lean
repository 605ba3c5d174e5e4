-- Written by this project's own program (mprint.py) by means of the kit's printer: with contracts of its own for the functions that the printer leaves out.
import Derived.Test.YtockngphfpedkaaDoorXFnDistancesx0
import Derived.Test.YtockngphfpedkaaDoorXFnDistancesx14
namespace Go.Proofs.YtockngphfpedkaaDoor.XFnDistances
open Go.RowKit Go.Proofs.YtockngphfpedkaaDoorW.PrintWords Go.Proofs.YtockngphfpedkaaDoorW.PrintLast Go.Proofs.YtockngphfpedkaaDoorW.PrintMore
attribute [local go_sem] max2_int min2_int max_two min_two max_three min_three max_four min_four   -- for this text's walks alone
set_option linter.unusedVariables false
set_option linter.unusedSimpArgs false

/-! ### spec_l02From: function 39 -/
mutual
def spec_l02From.l0 : Nat → Int → Int → Int → List Int → Int → Int → List Int → Option (List Int)
  | 0, _, _, _, _, _, _, _ => none
  | k + 1, x1, x2, x3, x9, x10, x548000, x548001 => if x10 < x548000 then (if x9.length < 17592186044416 then (spec_l02From.l0 k x1 x2 x3 (x9 ++ [(-1)]) (wrap64 (x10 + 1)) x548000 x548001) else (none)) else (if 0 ≤ x1 then (if x1 < (x9.length : Int) then (spec_l02From.l1 k x2 x3 (x9.set (x1 : Int).toNat 0) (([x1] : List Int)) 0 x548000 x548001) else (none)) else (none))
def spec_l02From.l1 : Nat → Int → Int → List Int → List Int → Int → Int → List Int → Option (List Int)
  | 0, _, _, _, _, _, _, _ => none
  | k + 1, x2, x3, x9, x11, x12, x548000, x548001 => if x12 < (x11.length : Int) then (if 0 ≤ x12 then (spec_l02From.l2 k x2 x3 x9 x11 x12 (rd x11 x12) 0 x548000 x548001) else (none)) else (some x9)
def spec_l02From.l2 : Nat → Int → Int → List Int → List Int → Int → Int → Int → Int → List Int → Option (List Int)
  | 0, _, _, _, _, _, _, _, _, _ => none
  | k + 1, x2, x3, x9, x11, x12, x13, x14, x548000, x548001 => if x14 < x548000 then (if 0 ≤ x13 then (if x13 < (x548001.length : Int) then (if 0 ≤ (IntKind.u64.wrap (x14)) then (if (Go.bits .and .i64 (shr .i64 (rd x548001 x13) (IntKind.u64.wrap (x14))) 1) = 0 then (spec_l02From.l2 k x2 x3 x9 x11 x12 x13 (wrap64 (x14 + 1)) x548000 x548001) else (if 0 ≤ x14 then (if x14 < (x9.length : Int) then (if (rd x9 x14) ≥ 0 then (spec_l02From.l2 k x2 x3 x9 x11 x12 x13 (wrap64 (x14 + 1)) x548000 x548001) else (if x13 = x2 then (if x14 = x3 then (spec_l02From.l2 k x2 x3 x9 x11 x12 x13 (wrap64 (x14 + 1)) x548000 x548001) else (if x13 = x3 then (if x14 = x2 then (spec_l02From.l2 k x2 x3 x9 x11 x12 x13 (wrap64 (x14 + 1)) x548000 x548001) else (if x13 < (x9.length : Int) then (if x11.length < 17592186044416 then (spec_l02From.l2 k x2 x3 (x9.set (x14 : Int).toNat (wrap64 ((rd x9 x13) + 1))) (x11 ++ [x14]) x12 x13 (wrap64 (x14 + 1)) x548000 x548001) else (none)) else (none))) else (if x13 < (x9.length : Int) then (if x11.length < 17592186044416 then (spec_l02From.l2 k x2 x3 (x9.set (x14 : Int).toNat (wrap64 ((rd x9 x13) + 1))) (x11 ++ [x14]) x12 x13 (wrap64 (x14 + 1)) x548000 x548001) else (none)) else (none)))) else (if x13 = x3 then (if x14 = x2 then (spec_l02From.l2 k x2 x3 x9 x11 x12 x13 (wrap64 (x14 + 1)) x548000 x548001) else (if x13 < (x9.length : Int) then (if x11.length < 17592186044416 then (spec_l02From.l2 k x2 x3 (x9.set (x14 : Int).toNat (wrap64 ((rd x9 x13) + 1))) (x11 ++ [x14]) x12 x13 (wrap64 (x14 + 1)) x548000 x548001) else (none)) else (none))) else (if x13 < (x9.length : Int) then (if x11.length < 17592186044416 then (spec_l02From.l2 k x2 x3 (x9.set (x14 : Int).toNat (wrap64 ((rd x9 x13) + 1))) (x11 ++ [x14]) x12 x13 (wrap64 (x14 + 1)) x548000 x548001) else (none)) else (none))))) else (none)) else (none))) else (none)) else (none)) else (none)) else (spec_l02From.l1 k x2 x3 x9 x11 (wrap64 (x12 + 1)) x548000 x548001)
end
def spec_l02From.f (k : Nat) (a0_0 : Int) (l0_1 : List Int) (a1 : Int) (a2 : Int) (a3 : Int) : Option (List Int) := spec_l02From.l0 k a1 a2 a3 (([] : List Int)) 0 a0_0 l0_1
set_option maxHeartbeats 8000000 in
set_option maxRecDepth 100000 in
theorem spec_l02From.calls (k : Nat) (a0_0 : Int) (A0_1 : Option Addr) (c0_1 : Nat) (l0_1 : List Int) (a1 : Int) (a2 : Int) (a3 : Int) (r : List Int) (w : World) (hr0_1 : Kd.C (Kd.int .i64) w A0_1 l0_1.length l0_1) (hc0_1 : l0_1.length ≤ c0_1) (h : spec_l02From.f k a0_0 l0_1 a1 a2 a3 = some r) :
    Calls Tryd.prog 39 #[.agg #[.int .i64 a0_0, .slice A0_1 l0_1.length c0_1], .int .i64 a1, .int .i64 a2, .int .i64 a3] w fun e w' => ∃ v0_ : Value, e = .returned (v0_) ∧ Kd.R (Kd.int .i64) 2 w' w.heap.size (fun _ => True) v0_ r ∧ Below w.heap.size w w' := by
  have hu26 := Tryd.underlying26
  have HR0_1 := Fa.mk hr0_1
  have HC0_1 := Fa.mk hc0_1
  clear hr0_1 hc0_1
  have HB := Fa.mk (Below.refl w.heap.size w)
  have H : (spec_l02From.l0 k a1 a2 a3 (([] : List Int)) 0 a0_0 l0_1) = some r := h
  clear h
  obtain ⟨y548, hy548⟩ : ∃ y_ : List Int, y_ = (([] : List Int)) := ⟨_, rfl⟩
  first | replace H := bs_ hy548 H | rw [← hy548] at H
  have Ny548 := Fa.mk hy548
  clear hy548
  have H' := Fa.mk H
  clear H
  go_enter Tryd.func39, Tryd.ntmps39
  go_wp2_with (first | ((with_reducible refine gd 4 rfl ?_); refine box_event ?hg (N := 4) ?hd (cs := #[.int .i64 a0_0, .slice A0_1 l0_1.length c0_1]) (t := 26) ?hr ?_; (case hd => rfl); (case hg => rfl); (case hr => first | (go_simp; done) | (go_simp; rfl)); intro gb547 hg w5 hbox hb; have BK547 := Fa.mk hbox; have GW547 := Fa.mk (bsz hg (BU HB) : w.heap.size ≤ gb547); have GE547 := GW547; replace HB := Fa.mk (below_step (BU HB) hb); clear hb hbox hg) | ((with_reducible refine gd 15 rfl ?_); refine Kd.R_lit (Kd.int .i64) _ 2 ?hg (N := 15) ?hd (xs := ([] : List Int)) (inner := []) (ok := fun _ => True) (okp := fun _ => True) ?hr ?hp (fun _ hk => hk) trivial (Below.refl _ _) (Nat.le_refl _) (by simp) ?_; (case hd => rfl); (case hg => rfl); (case hr => first | (go_simp; done) | (go_simp; rfl)); (case hp => exact (Reps.none _ _)); intro v549 w6 ho7 hb hg_ hnew_; clear hg_ hnew_; (first | rw [← Ny548.out] at ho7 | (simp only [Int.reduceToNat] at ho7; rw [← Ny548.out] at ho7)); have HO550 := Fa.mk (Kd.R_lower ho7 (below_size (BU HB))); replace BK547 := Fa.mk (blk_below (bU BK547) hb); replace HB := Fa.mk (below_step (BU HB) hb); clear hb ho7))
  go_loopg [9, 10] k (fun kq v9 v10 w' => ∃ (x9_1 : List Int) (x10_1 : Int), v10 = .int .i64 x10_1 ∧ Fa (spec_l02From.l0 kq a1 a2 a3 x9_1 x10_1 a0_0 l0_1 = some r) ∧ Fa (kq ≤ k) ∧ Fa (Kd.R (Kd.int .i64) 2 w' w.heap.size (fun _ => True) v9 x9_1) ∧ Fa (w'.heap[gb547]? = some (.cells #[.int .i64 a0_0, (.slice A0_1 l0_1.length c0_1)] 26 (0, 0))) ∧ Fa (Below w.heap.size w w'))
  case atStart => exact ⟨(y548), (0), rfl, H', ⟨Nat.le_refl _⟩, ⟨rU HO550⟩, ⟨bU BK547⟩, ⟨BU HB⟩⟩
  case round =>
    clear H'
    obtain ⟨x9_1, x10_1, rfl, HA, HK1, HO_9, BK547, HB⟩ := hrel
    cases gk with
    | zero => exact absurd HA.out (by simp [spec_l02From.l0])
    | succ k1 =>
      have H := HA.out
      clear HA
      simp only [spec_l02From.l0] at H
      by_cases c8 : x10_1 < a0_0
      · rw [if_pos c8] at H
        have c8b0 := decide_eq_true c8
        clear c8
        by_cases c9 : x9_1.length < 17592186044416
        · rw [if_pos c9] at H
          have LMc9 := Fa.mk c9
          clear c9
          obtain ⟨y551, hy551⟩ : ∃ y_ : List Int, y_ = (x9_1 ++ [(-1)]) := ⟨_, rfl⟩
          first | replace H := bs_ hy551 H | rw [← hy551] at H
          have Ny551 := Fa.mk hy551
          clear hy551
          have H' := Fa.mk H
          clear H
          obtain ⟨hcz10_0, hcz10_1, hfz10_0, hfz10_1⟩ := cz2 BK547.out
          go_wp2_with (first | ((with_reducible refine gate_builtin (b := .append) (xs := #[.tmp 22, .tmp 23]) rfl ?_); at_builtin; refine Kd.R_append (Kd.int .i64) (w0 := w) w.heap.size rfl (.tmp 22) (.tmp 23) 24 2 (.int .i64 0) 8 rfl Tryd.underlying24 info2 rfl (by decide) (by omega) u9 x9_1 (-1) [.int .i64 (-1)] (fun _ => True) (fun _ => False) rfl rfl ?aP (fun _ hk => hk.elim) ?aF ?aO ?aB ?aS ?aL ?_; (case aP => exact rfl); (case aB => exact (BU HB)); (case aF => exact (fun _ _ => trivial)); (case aO => exact (rU HO_9)); (case aS => exact (below_size (BU HB))); (case aL => have := LMc9.out; omega); intro v552 w11 ho hb hg hat; rw [← Ny551.out] at ho; replace BK547 := Fa.mk (blk_grown (bU BK547) hg (Kd.R_ne HO_9.out BK547.out (by decide))); have HO553 := Fa.mk ho; replace HB := Fa.mk hb; clear HO_9; clear ho hb hg hat))
          go_roundg k1
          case measure => have := HK1.out; omega
          case rel => exact ⟨(y551), (wrap64 (x10_1 + 1)), rfl, H', ⟨by have := HK1.out; omega⟩, ⟨rU HO553⟩, ⟨bU BK547⟩, ⟨BU HB⟩⟩
          all_goals (go_roundg k1; (case measure => have := HK1.out; omega); (case rel => exact ⟨(y551), (wrap64 (x10_1 + 1)), rfl, H', ⟨by have := HK1.out; omega⟩, ⟨rU HO553⟩, ⟨bU BK547⟩, ⟨BU HB⟩⟩))
        · rw [if_neg c9] at H
          exact absurd H (by simp)
      · rw [if_neg c8] at H
        have c8b0 := decide_eq_false c8
        clear c8
        by_cases c12 : 0 ≤ a1
        · rw [if_pos c12] at H
          have c12b0 := decide_eq_true c12
          clear c12
          by_cases c13 : a1 < (x9_1.length : Int)
          · rw [if_pos c13] at H
            have c13b0 := decide_eq_true c13
            clear c13
            obtain ⟨y554, hy554⟩ : ∃ y_ : List Int, y_ = (x9_1.set (a1 : Int).toNat 0) := ⟨_, rfl⟩
            first | replace H := bs_ hy554 H | rw [← hy554] at H
            have Ny554 := Fa.mk hy554
            clear hy554
            obtain ⟨y555, hy555⟩ : ∃ y_ : List Int, y_ = (([a1] : List Int)) := ⟨_, rfl⟩
            first | replace H := bs_ hy555 H | rw [← hy555] at H
            have Ny555 := Fa.mk hy555
            clear hy555
            have H' := Fa.mk H
            clear H
            obtain ⟨hcz15_0, hcz15_1, hfz15_0, hfz15_1⟩ := cz2 BK547.out
            have p14 : 0 ≤ (a1 : Int) := of_decide_eq_true (by assumption)
            have q14 : (a1 : Int) < ((x9_1.length : Int) : Int) := of_decide_eq_true (by assumption)
            obtain ⟨go14, co14, eo14, gb14, gl14, cl14, HG14⟩ := Kd.R_form HO_9.out (by omega)
            (first | cases eo14 | (injection eo14 with ea_ en_ ec_; (first | subst ea_ | (injection ea_ with ea_; subst ea_)); subst ec_; clear en_))
            have GB14 := Fa.mk gb14
            have GG14 := Fa.mk HG14
            clear gb14 gl14 HG14
            obtain ⟨hx14_0, hf14_0⟩ := Kd.R_celln 0 HO_9.out (a1 : Int) p14 q14
            replace p14 := eq_true p14
            replace q14 := eq_true q14
            have HP16 := Kd.R_putg HO_9.out (a1 : Int) 0
            go_wp2_with (first | ((with_reducible refine gate_store (t := 2) (p := 27) rfl ?_); refine store_event (t := 2) (p := 27) (v := ?vo_w17) (w1 := (wr.setCell ⟨go14, (a1 : Int).toNat, none⟩ (.int .i64 0))) ?hg ?ho ?hn ?hr ?_; (case ho => rfl); (case hg => rfl); (case hn => rfl); (case hr => first | (go_simp; done) | (go_simp; rfl)); intro w17 hw; have hg : wr.grownBy w17 (some go14) := (by rw [hw]; exact HP16.2); have hp_ : Kd.R (Kd.int .i64) 2 w17 w.heap.size (fun _ => True) (.slice (some ⟨go14, 0, none⟩) x9_1.length co14) y554 := (by rw [hw, Ny554.out]; exact HP16.1); clear HP16; replace BK547 := Fa.mk (blk_grown (bU BK547) hg (Kd.R_ne HO_9.out BK547.out (by decide))); replace HO_9 := Fa.mk hp_; replace HB := Fa.mk ((by rw [hw]; exact below_set (HB.out) GB14.out : Below w.heap.size w w17)); clear hg hw hp_) | ((with_reducible refine gd 29 rfl ?_); refine Kd.R_lit (Kd.int .i64) _ 2 ?hg (N := 29) ?hd (xs := ([a1] : List Int)) (inner := [.int .i64 a1]) (ok := fun _ => True) (okp := fun _ => True) ?hr ?hp (fun _ hk => hk) trivial (Below.refl _ _) (Nat.le_refl _) (by simp) ?_; (case hd => rfl); (case hg => rfl); (case hr => first | (go_simp; done) | (go_simp; rfl)); (case hp => exact (Reps.one (show Kd.M (Kd.int .i64) _ _ _ a1 [.int .i64 a1] from rfl) (Reps.none _ _))); intro v556 w18 ho19 hb hg_ hnew_; clear hg_ hnew_; (first | rw [← Ny555.out] at ho19 | (simp only [Int.reduceToNat] at ho19; rw [← Ny555.out] at ho19)); have HO557 := Fa.mk (Kd.R_lower (Kd.R_new' ho19 (Kd.R_lt (rU HO_9))) (below_size (BU HB))); replace HO_9 := Fa.mk (Kd.R_elder' (rU HO_9) (Kd.R_base ho19) hb); replace BK547 := Fa.mk (blk_below (bU BK547) hb); replace HB := Fa.mk (below_step (BU HB) hb); clear hb ho19))
            go_loopg [11, 12] k1 (fun kq v11 v12 w' => ∃ (x9_2 : List Int) (x11_2 : List Int) (x12_2 : Int), v12 = .int .i64 x12_2 ∧ Fa (spec_l02From.l1 kq a2 a3 x9_2 x11_2 x12_2 a0_0 l0_1 = some r) ∧ Fa (kq ≤ k1) ∧ Fa (Kd.R (Kd.int .i64) 2 w' w.heap.size (fun k_ => some k_ ≠ (v11 : Value).ownBlock) (.slice (some ⟨go14, 0, none⟩) x9_1.length co14) x9_2) ∧ Fa (Kd.R (Kd.int .i64) 2 w' w.heap.size (fun k_ => some k_ ≠ ((.slice (some ⟨go14, 0, none⟩) x9_1.length co14) : Value).ownBlock) v11 x11_2) ∧ Fa (w'.heap[gb547]? = some (.cells #[.int .i64 a0_0, (.slice A0_1 l0_1.length c0_1)] 26 (0, 0))) ∧ Fa (Below w.heap.size w w'))
            case atStart => exact ⟨(y554), (y555), (0), rfl, H', ⟨Nat.le_refl _⟩, ⟨by (with_reducible repeat (first | apply Kd.R_alloc | apply Kd.R_drewN | apply Kd.R_drew)); exact Kd.R_mono HO_9.out (fun _ hk => hk.2)⟩, ⟨by (with_reducible repeat (first | apply Kd.R_alloc | apply Kd.R_drewN | apply Kd.R_drew)); exact Kd.R_mono HO557.out (fun _ hk => hk.2)⟩, ⟨bU BK547⟩, ⟨BU HB⟩⟩
            case round =>
              clear H'
              obtain ⟨x9_2, x11_2, x12_2, rfl, HA, HK2, HO_9, HO_11, BK547, HB⟩ := hrel
              have hl9_2 := (Kd.R_reads' HO_9.out).1
              rw [hl9_2] at HO_9
              (try simp only [hl9_2])
              (try simp only [hl9_2] at BK547)
              (try simp only [hl9_2] at HO_11)
              cases gk with
              | zero => exact absurd HA.out (by simp [spec_l02From.l1])
              | succ k2 =>
                have H := HA.out
                clear HA
                simp only [spec_l02From.l1] at H
                by_cases c20 : x12_2 < (x11_2.length : Int)
                · rw [if_pos c20] at H
                  have c20b0 := decide_eq_true c20
                  clear c20
                  by_cases c21 : 0 ≤ x12_2
                  · rw [if_pos c21] at H
                    have c21b0 := decide_eq_true c21
                    clear c21
                    have H' := Fa.mk H
                    clear H
                    obtain ⟨Ao22, co22, eo22⟩ := Kd.R_slice HO_11.out
                    subst eo22
                    have p558 : 0 ≤ (x12_2 : Int) := of_decide_eq_true (by assumption)
                    have q558 : x12_2 < (x11_2.length : Int) := of_decide_eq_true (by assumption)
                    obtain ⟨ad558, e558, hx558_0⟩ := Kd.at_int (Kd.R_reads' HO_11.out).2.2 x12_2 p558 q558
                    cases e558
                    replace p558 := eq_true p558
                    replace q558 := eq_true q558
                    go_wp2
                    go_loopg [11, 14] k2 (fun kq v11 v14 w' => ∃ (x9_3 : List Int) (x11_3 : List Int) (x14_3 : Int), v14 = .int .i64 x14_3 ∧ Fa (spec_l02From.l2 kq a2 a3 x9_3 x11_3 x12_2 (rd x11_2 x12_2) x14_3 a0_0 l0_1 = some r) ∧ Fa (kq ≤ k2) ∧ Fa (Kd.R (Kd.int .i64) 2 w' w.heap.size (fun k_ => some k_ ≠ (v11 : Value).ownBlock) (.slice (some ⟨go14, 0, none⟩) x9_2.length co14) x9_3) ∧ Fa (Kd.R (Kd.int .i64) 2 w' w.heap.size (fun k_ => some k_ ≠ ((.slice (some ⟨go14, 0, none⟩) x9_2.length co14) : Value).ownBlock) v11 x11_3) ∧ Fa (w'.heap[gb547]? = some (.cells #[.int .i64 a0_0, (.slice A0_1 l0_1.length c0_1)] 26 (0, 0))) ∧ Fa (Below w.heap.size w w'))
                    case atStart => exact ⟨(x9_2), (x11_2), (0), rfl, H', ⟨Nat.le_refl _⟩, ⟨by (try simp only [hl9_2]); (with_reducible repeat (first | apply Kd.R_alloc | apply Kd.R_drewN | apply Kd.R_drew)); exact HO_9.out⟩, ⟨by (try simp only [hl9_2]); (with_reducible repeat (first | apply Kd.R_alloc | apply Kd.R_drewN | apply Kd.R_drew)); exact HO_11.out⟩, ⟨by (try simp only [hl9_2]); (with_reducible repeat (first | refine blk_drewN ?_ _ | refine blk_drew ?_ | refine blk_alloc ?_ _)); exact BK547.out⟩, ⟨BU HB⟩⟩
                    case round =>
                      clear H'
                      obtain ⟨x9_3, x11_3, x14_3, rfl, HA, HK3, HO_9, HO_11, BK547, HB⟩ := hrel
                      have hl9_3 := (Kd.R_reads' HO_9.out).1
                      rw [hl9_3] at HO_9
                      (try simp only [hl9_3])
                      (try simp only [hl9_3] at BK547)
                      (try simp only [hl9_3] at HO_11)
                      cases gk with
                      | zero => exact absurd HA.out (by simp [spec_l02From.l2])
                      | succ k3 =>
                        have H := HA.out
                        clear HA
                        simp only [spec_l02From.l2] at H
                        by_cases c23 : x14_3 < a0_0
                        · rw [if_pos c23] at H
                          have c23b0 := decide_eq_true c23
                          clear c23
                          by_cases c24 : 0 ≤ (rd x11_2 x12_2)
                          · rw [if_pos c24] at H
                            have c24b0 := decide_eq_true c24
                            clear c24
                            by_cases c25 : (rd x11_2 x12_2) < (l0_1.length : Int)
                            · rw [if_pos c25] at H
                              have c25b0 := decide_eq_true c25
                              clear c25
                              obtain ⟨ji26, hji26⟩ : ∃ j_ : Int, (IntKind.u64.wrap (x14_3)) = j_ := ⟨_, rfl⟩
                              rw [hji26] at H
                              by_cases c27 : 0 ≤ (ji26)
                              · rw [if_pos c27] at H
                                have c27b0 := eq_true c27
                                have c27b1 := decide_eq_true c27
                                clear c27
                                obtain ⟨ji28, hji28⟩ : ∃ j_ : Int, (shr .i64 (rd l0_1 (rd x11_2 x12_2)) (ji26)) = j_ := ⟨_, rfl⟩
                                rw [hji28] at H
                                have hji28_ : ((rd l0_1 (rd x11_2 x12_2)) / 2 ^ min (ji26).toNat 64) = ji28 := hji28
                                have hji28z : (ji26) ≤ 64 → ((rd l0_1 (rd x11_2 x12_2)) / 2 ^ (ji26).toNat) = ji28 := shr_small hji28
                                by_cases c29 : (Go.bits .and .i64 (ji28) 1) = 0
                                · rw [if_pos c29] at H
                                  have c29b0 := beq_iff_eq.mpr c29
                                  have c29b1 := bne_eq_false_iff_eq.mpr c29
                                  clear c29
                                  have H' := Fa.mk H
                                  clear H
                                  obtain ⟨hcz30_0, hcz30_1, hfz30_0, hfz30_1⟩ := cz2 BK547.out
                                  have p559 : 0 ≤ ((rd x11_2 x12_2) : Int) := of_decide_eq_true (by assumption)
                                  have q559 : (rd x11_2 x12_2) < (l0_1.length : Int) := of_decide_eq_true (by assumption)
                                  obtain ⟨ad559, e559, hx559_0⟩ := Kd.at_int HR0_1.out (rd x11_2 x12_2) p559 q559
                                  cases e559
                                  replace hx559_0 := (HB.out.cell (World.block_lt_of_cell? w _ hx559_0)).trans hx559_0
                                  replace p559 := eq_true p559
                                  replace q559 := eq_true q559
                                  go_wp2
                                  (try simp only [← hl9_3])
                                  go_roundg k3
                                  case measure => have := HK1.out; have := HK2.out; have := HK3.out; omega
                                  case rel => exact ⟨(x9_3), (x11_3), (wrap64 (x14_3 + 1)), rfl, H', ⟨by have := HK1.out; have := HK2.out; have := HK3.out; omega⟩, ⟨by (try simp only [hl9_2]); (try simp only [hl9_3]); (with_reducible repeat (first | apply Kd.R_alloc | apply Kd.R_drewN | apply Kd.R_drew)); exact HO_9.out⟩, ⟨by (try simp only [hl9_2]); (try simp only [hl9_3]); (with_reducible repeat (first | apply Kd.R_alloc | apply Kd.R_drewN | apply Kd.R_drew)); exact HO_11.out⟩, ⟨by (try simp only [hl9_2]); (try simp only [hl9_3]); (with_reducible repeat (first | refine blk_drewN ?_ _ | refine blk_drew ?_ | refine blk_alloc ?_ _)); exact BK547.out⟩, ⟨BU HB⟩⟩
                                  all_goals ((try simp only [← hl9_3]); go_roundg k3; (case measure => have := HK1.out; have := HK2.out; have := HK3.out; omega); (case rel => exact ⟨(x9_3), (x11_3), (wrap64 (x14_3 + 1)), rfl, H', ⟨by have := HK1.out; have := HK2.out; have := HK3.out; omega⟩, ⟨by (try simp only [hl9_2]); (try simp only [hl9_3]); (with_reducible repeat (first | apply Kd.R_alloc | apply Kd.R_drewN | apply Kd.R_drew)); exact HO_9.out⟩, ⟨by (try simp only [hl9_2]); (try simp only [hl9_3]); (with_reducible repeat (first | apply Kd.R_alloc | apply Kd.R_drewN | apply Kd.R_drew)); exact HO_11.out⟩, ⟨by (try simp only [hl9_2]); (try simp only [hl9_3]); (with_reducible repeat (first | refine blk_drewN ?_ _ | refine blk_drew ?_ | refine blk_alloc ?_ _)); exact BK547.out⟩, ⟨BU HB⟩⟩))
                                · rw [if_neg c29] at H
                                  have c29b0 := beq_eq_false_iff_ne.mpr c29
                                  have c29b1 := bne_iff_ne.mpr c29
                                  by_cases c31 : 0 ≤ x14_3
                                  · rw [if_pos c31] at H
                                    have c31b0 := decide_eq_true c31
                                    clear c31
                                    by_cases c32 : x14_3 < (x9_3.length : Int)
                                    · rw [if_pos c32] at H
                                      have c32b0 := decide_eq_true c32
                                      clear c32
                                      by_cases c33 : (rd x9_3 x14_3) ≥ 0
                                      · rw [if_pos c33] at H
                                        have c33b0 := decide_eq_true c33
                                        clear c33
                                        have H' := Fa.mk H
                                        clear H
                                        obtain ⟨hcz34_0, hcz34_1, hfz34_0, hfz34_1⟩ := cz2 BK547.out
                                        have p559 : 0 ≤ ((rd x11_2 x12_2) : Int) := of_decide_eq_true (by assumption)
                                        have q559 : (rd x11_2 x12_2) < (l0_1.length : Int) := of_decide_eq_true (by assumption)
                                        obtain ⟨ad559, e559, hx559_0⟩ := Kd.at_int HR0_1.out (rd x11_2 x12_2) p559 q559
                                        cases e559
                                        replace hx559_0 := (HB.out.cell (World.block_lt_of_cell? w _ hx559_0)).trans hx559_0
                                        replace p559 := eq_true p559
                                        replace q559 := eq_true q559
                                        have p560 : 0 ≤ (x14_3 : Int) := of_decide_eq_true (by assumption)
                                        have q560 : x14_3 < (x9_3.length : Int) := of_decide_eq_true (by assumption)
                                        obtain ⟨ad560, e560, hx560_0⟩ := Kd.at_int (Kd.R_reads' HO_9.out).2.2 x14_3 p560 q560
                                        obtain rfl : (⟨go14, 0, none⟩ : Addr) = ad560 := (by injection e560)
                                        (first | simp only [add_plain] at hx560_0 | simp only [add_at] at hx560_0 | simp only [Addr.add, Nat.zero_add] at hx560_0 | skip)
                                        replace p560 := eq_true p560
                                        replace q560 := eq_true q560
                                        go_wp2
                                        (try simp only [← hl9_3])
                                        go_roundg k3
                                        case measure => have := HK1.out; have := HK2.out; have := HK3.out; omega
                                        case rel => exact ⟨(x9_3), (x11_3), (wrap64 (x14_3 + 1)), rfl, H', ⟨by have := HK1.out; have := HK2.out; have := HK3.out; omega⟩, ⟨by (try simp only [hl9_2]); (try simp only [hl9_3]); (with_reducible repeat (first | apply Kd.R_alloc | apply Kd.R_drewN | apply Kd.R_drew)); exact HO_9.out⟩, ⟨by (try simp only [hl9_2]); (try simp only [hl9_3]); (with_reducible repeat (first | apply Kd.R_alloc | apply Kd.R_drewN | apply Kd.R_drew)); exact HO_11.out⟩, ⟨by (try simp only [hl9_2]); (try simp only [hl9_3]); (with_reducible repeat (first | refine blk_drewN ?_ _ | refine blk_drew ?_ | refine blk_alloc ?_ _)); exact BK547.out⟩, ⟨BU HB⟩⟩
                                        all_goals ((try simp only [← hl9_3]); go_roundg k3; (case measure => have := HK1.out; have := HK2.out; have := HK3.out; omega); (case rel => exact ⟨(x9_3), (x11_3), (wrap64 (x14_3 + 1)), rfl, H', ⟨by have := HK1.out; have := HK2.out; have := HK3.out; omega⟩, ⟨by (try simp only [hl9_2]); (try simp only [hl9_3]); (with_reducible repeat (first | apply Kd.R_alloc | apply Kd.R_drewN | apply Kd.R_drew)); exact HO_9.out⟩, ⟨by (try simp only [hl9_2]); (try simp only [hl9_3]); (with_reducible repeat (first | apply Kd.R_alloc | apply Kd.R_drewN | apply Kd.R_drew)); exact HO_11.out⟩, ⟨by (try simp only [hl9_2]); (try simp only [hl9_3]); (with_reducible repeat (first | refine blk_drewN ?_ _ | refine blk_drew ?_ | refine blk_alloc ?_ _)); exact BK547.out⟩, ⟨BU HB⟩⟩))
                                      · rw [if_neg c33] at H
                                        have c33b0 := decide_eq_false c33
                                        clear c33
                                        by_cases c35 : (rd x11_2 x12_2) = a2
                                        · rw [if_pos c35] at H
                                          have c35b0 := beq_iff_eq.mpr c35
                                          have c35b1 := bne_eq_false_iff_eq.mpr c35
                                          clear c35
                                          by_cases c36 : x14_3 = a3
                                          · rw [if_pos c36] at H
                                            have c36b0 := beq_iff_eq.mpr c36
                                            have c36b1 := bne_eq_false_iff_eq.mpr c36
                                            clear c36
                                            have H' := Fa.mk H
                                            clear H
                                            obtain ⟨hcz37_0, hcz37_1, hfz37_0, hfz37_1⟩ := cz2 BK547.out
                                            have p559 : 0 ≤ ((rd x11_2 x12_2) : Int) := of_decide_eq_true (by assumption)
                                            have q559 : (rd x11_2 x12_2) < (l0_1.length : Int) := of_decide_eq_true (by assumption)
                                            obtain ⟨ad559, e559, hx559_0⟩ := Kd.at_int HR0_1.out (rd x11_2 x12_2) p559 q559
                                            cases e559
                                            replace hx559_0 := (HB.out.cell (World.block_lt_of_cell? w _ hx559_0)).trans hx559_0
                                            replace p559 := eq_true p559
                                            replace q559 := eq_true q559
                                            have p560 : 0 ≤ (x14_3 : Int) := of_decide_eq_true (by assumption)
                                            have q560 : x14_3 < (x9_3.length : Int) := of_decide_eq_true (by assumption)
                                            obtain ⟨ad560, e560, hx560_0⟩ := Kd.at_int (Kd.R_reads' HO_9.out).2.2 x14_3 p560 q560
                                            obtain rfl : (⟨go14, 0, none⟩ : Addr) = ad560 := (by injection e560)
                                            (first | simp only [add_plain] at hx560_0 | simp only [add_at] at hx560_0 | simp only [Addr.add, Nat.zero_add] at hx560_0 | skip)
                                            replace p560 := eq_true p560
                                            replace q560 := eq_true q560
                                            go_wp2
                                            (try simp only [← hl9_3])
                                            go_roundg k3
                                            case measure => have := HK1.out; have := HK2.out; have := HK3.out; omega
                                            case rel => exact ⟨(x9_3), (x11_3), (wrap64 (x14_3 + 1)), rfl, H', ⟨by have := HK1.out; have := HK2.out; have := HK3.out; omega⟩, ⟨by (try simp only [hl9_2]); (try simp only [hl9_3]); (with_reducible repeat (first | apply Kd.R_alloc | apply Kd.R_drewN | apply Kd.R_drew)); exact HO_9.out⟩, ⟨by (try simp only [hl9_2]); (try simp only [hl9_3]); (with_reducible repeat (first | apply Kd.R_alloc | apply Kd.R_drewN | apply Kd.R_drew)); exact HO_11.out⟩, ⟨by (try simp only [hl9_2]); (try simp only [hl9_3]); (with_reducible repeat (first | refine blk_drewN ?_ _ | refine blk_drew ?_ | refine blk_alloc ?_ _)); exact BK547.out⟩, ⟨BU HB⟩⟩
                                            all_goals ((try simp only [← hl9_3]); go_roundg k3; (case measure => have := HK1.out; have := HK2.out; have := HK3.out; omega); (case rel => exact ⟨(x9_3), (x11_3), (wrap64 (x14_3 + 1)), rfl, H', ⟨by have := HK1.out; have := HK2.out; have := HK3.out; omega⟩, ⟨by (try simp only [hl9_2]); (try simp only [hl9_3]); (with_reducible repeat (first | apply Kd.R_alloc | apply Kd.R_drewN | apply Kd.R_drew)); exact HO_9.out⟩, ⟨by (try simp only [hl9_2]); (try simp only [hl9_3]); (with_reducible repeat (first | apply Kd.R_alloc | apply Kd.R_drewN | apply Kd.R_drew)); exact HO_11.out⟩, ⟨by (try simp only [hl9_2]); (try simp only [hl9_3]); (with_reducible repeat (first | refine blk_drewN ?_ _ | refine blk_drew ?_ | refine blk_alloc ?_ _)); exact BK547.out⟩, ⟨BU HB⟩⟩))
                                          · rw [if_neg c36] at H
                                            have c36b0 := beq_eq_false_iff_ne.mpr c36
                                            have c36b1 := bne_iff_ne.mpr c36
                                            by_cases c38 : (rd x11_2 x12_2) = a3
                                            · rw [if_pos c38] at H
                                              have c38b0 := beq_iff_eq.mpr c38
                                              have c38b1 := bne_eq_false_iff_eq.mpr c38
                                              clear c38
                                              by_cases c39 : x14_3 = a2
                                              · rw [if_pos c39] at H
                                                have c39b0 := beq_iff_eq.mpr c39
                                                have c39b1 := bne_eq_false_iff_eq.mpr c39
                                                clear c39
                                                have H' := Fa.mk H
                                                clear H
                                                obtain ⟨hcz40_0, hcz40_1, hfz40_0, hfz40_1⟩ := cz2 BK547.out
                                                have p559 : 0 ≤ ((rd x11_2 x12_2) : Int) := of_decide_eq_true (by assumption)
                                                have q559 : (rd x11_2 x12_2) < (l0_1.length : Int) := of_decide_eq_true (by assumption)
                                                obtain ⟨ad559, e559, hx559_0⟩ := Kd.at_int HR0_1.out (rd x11_2 x12_2) p559 q559
                                                cases e559
                                                replace hx559_0 := (HB.out.cell (World.block_lt_of_cell? w _ hx559_0)).trans hx559_0
                                                replace p559 := eq_true p559
                                                replace q559 := eq_true q559
                                                have p560 : 0 ≤ (x14_3 : Int) := of_decide_eq_true (by assumption)
                                                have q560 : x14_3 < (x9_3.length : Int) := of_decide_eq_true (by assumption)
                                                obtain ⟨ad560, e560, hx560_0⟩ := Kd.at_int (Kd.R_reads' HO_9.out).2.2 x14_3 p560 q560
                                                obtain rfl : (⟨go14, 0, none⟩ : Addr) = ad560 := (by injection e560)
                                                (first | simp only [add_plain] at hx560_0 | simp only [add_at] at hx560_0 | simp only [Addr.add, Nat.zero_add] at hx560_0 | skip)
                                                replace p560 := eq_true p560
                                                replace q560 := eq_true q560
                                                go_wp2
                                                (try simp only [← hl9_3])
                                                go_roundg k3
                                                case measure => have := HK1.out; have := HK2.out; have := HK3.out; omega
                                                case rel => exact ⟨(x9_3), (x11_3), (wrap64 (x14_3 + 1)), rfl, H', ⟨by have := HK1.out; have := HK2.out; have := HK3.out; omega⟩, ⟨by (try simp only [hl9_2]); (try simp only [hl9_3]); (with_reducible repeat (first | apply Kd.R_alloc | apply Kd.R_drewN | apply Kd.R_drew)); exact HO_9.out⟩, ⟨by (try simp only [hl9_2]); (try simp only [hl9_3]); (with_reducible repeat (first | apply Kd.R_alloc | apply Kd.R_drewN | apply Kd.R_drew)); exact HO_11.out⟩, ⟨by (try simp only [hl9_2]); (try simp only [hl9_3]); (with_reducible repeat (first | refine blk_drewN ?_ _ | refine blk_drew ?_ | refine blk_alloc ?_ _)); exact BK547.out⟩, ⟨BU HB⟩⟩
                                                all_goals ((try simp only [← hl9_3]); go_roundg k3; (case measure => have := HK1.out; have := HK2.out; have := HK3.out; omega); (case rel => exact ⟨(x9_3), (x11_3), (wrap64 (x14_3 + 1)), rfl, H', ⟨by have := HK1.out; have := HK2.out; have := HK3.out; omega⟩, ⟨by (try simp only [hl9_2]); (try simp only [hl9_3]); (with_reducible repeat (first | apply Kd.R_alloc | apply Kd.R_drewN | apply Kd.R_drew)); exact HO_9.out⟩, ⟨by (try simp only [hl9_2]); (try simp only [hl9_3]); (with_reducible repeat (first | apply Kd.R_alloc | apply Kd.R_drewN | apply Kd.R_drew)); exact HO_11.out⟩, ⟨by (try simp only [hl9_2]); (try simp only [hl9_3]); (with_reducible repeat (first | refine blk_drewN ?_ _ | refine blk_drew ?_ | refine blk_alloc ?_ _)); exact BK547.out⟩, ⟨BU HB⟩⟩))
                                              · rw [if_neg c39] at H
                                                have c39b0 := beq_eq_false_iff_ne.mpr c39
                                                have c39b1 := bne_iff_ne.mpr c39
                                                by_cases c41 : (rd x11_2 x12_2) < (x9_3.length : Int)
                                                · rw [if_pos c41] at H
                                                  have c41b0 := decide_eq_true c41
                                                  clear c41
                                                  obtain ⟨y562, hy562⟩ : ∃ y_ : List Int, y_ = (x9_3.set (x14_3 : Int).toNat (wrap64 ((rd x9_3 (rd x11_2 x12_2)) + 1))) := ⟨_, rfl⟩
                                                  first | replace H := bs_ hy562 H | rw [← hy562] at H
                                                  have Ny562 := Fa.mk hy562
                                                  clear hy562
                                                  by_cases c43 : x11_3.length < 17592186044416
                                                  · rw [if_pos c43] at H
                                                    have LMc43 := Fa.mk c43
                                                    clear c43
                                                    obtain ⟨y563, hy563⟩ : ∃ y_ : List Int, y_ = (x11_3 ++ [x14_3]) := ⟨_, rfl⟩
                                                    first | replace H := bs_ hy563 H | rw [← hy563] at H
                                                    have Ny563 := Fa.mk hy563
                                                    clear hy563
                                                    have H' := Fa.mk H
                                                    clear H
                                                    obtain ⟨hcz44_0, hcz44_1, hfz44_0, hfz44_1⟩ := cz2 BK547.out
                                                    have p559 : 0 ≤ ((rd x11_2 x12_2) : Int) := of_decide_eq_true (by assumption)
                                                    have q559 : (rd x11_2 x12_2) < (l0_1.length : Int) := of_decide_eq_true (by assumption)
                                                    obtain ⟨ad559, e559, hx559_0⟩ := Kd.at_int HR0_1.out (rd x11_2 x12_2) p559 q559
                                                    cases e559
                                                    replace hx559_0 := (HB.out.cell (World.block_lt_of_cell? w _ hx559_0)).trans hx559_0
                                                    replace p559 := eq_true p559
                                                    replace q559 := eq_true q559
                                                    have p560 : 0 ≤ (x14_3 : Int) := of_decide_eq_true (by assumption)
                                                    have q560 : x14_3 < (x9_3.length : Int) := of_decide_eq_true (by assumption)
                                                    obtain ⟨ad560, e560, hx560_0⟩ := Kd.at_int (Kd.R_reads' HO_9.out).2.2 x14_3 p560 q560
                                                    obtain rfl : (⟨go14, 0, none⟩ : Addr) = ad560 := (by injection e560)
                                                    (first | simp only [add_plain] at hx560_0 | simp only [add_at] at hx560_0 | simp only [Addr.add, Nat.zero_add] at hx560_0 | skip)
                                                    replace p560 := eq_true p560
                                                    replace q560 := eq_true q560
                                                    have p561 : 0 ≤ ((rd x11_2 x12_2) : Int) := of_decide_eq_true (by assumption)
                                                    have q561 : (rd x11_2 x12_2) < (x9_3.length : Int) := of_decide_eq_true (by assumption)
                                                    obtain ⟨ad561, e561, hx561_0⟩ := Kd.at_int (Kd.R_reads' HO_9.out).2.2 (rd x11_2 x12_2) p561 q561
                                                    obtain rfl : (⟨go14, 0, none⟩ : Addr) = ad561 := (by injection e561)
                                                    (first | simp only [add_plain] at hx561_0 | simp only [add_at] at hx561_0 | simp only [Addr.add, Nat.zero_add] at hx561_0 | skip)
                                                    replace p561 := eq_true p561
                                                    replace q561 := eq_true q561
                                                    have p42 : 0 ≤ (x14_3 : Int) := of_decide_eq_true (by assumption)
                                                    have q42 : (x14_3 : Int) < ((x9_3.length : Int) : Int) := of_decide_eq_true (by assumption)
                                                    obtain ⟨hx42_0, hf42_0⟩ := Kd.R_celln 0 HO_9.out (x14_3 : Int) p42 q42
                                                    replace p42 := eq_true p42
                                                    replace q42 := eq_true q42
                                                    have HP45 := Kd.R_putg HO_9.out (x14_3 : Int) (wrap64 ((rd x9_3 (rd x11_2 x12_2)) + 1))
                                                    go_wp2_with (first | ((with_reducible refine gate_store (t := 2) (p := 90) rfl ?_); refine store_event (t := 2) (p := 90) (v := ?vo_w46) (w1 := (wr.setCell ⟨go14, (x14_3 : Int).toNat, none⟩ (.int .i64 (wrap64 ((rd x9_3 (rd x11_2 x12_2)) + 1))))) ?hg ?ho ?hn ?hr ?_; (case ho => rfl); (case hg => rfl); (case hn => rfl); (case hr => first | (go_simp; done) | (go_simp; rfl)); intro w46 hw; have hg : wr.grownBy w46 (some go14) := (by rw [hw]; exact HP45.2); have hp_ : Kd.R (Kd.int .i64) 2 w46 w.heap.size (fun k_ => some k_ ≠ (u11 : Value).ownBlock) (.slice (some ⟨go14, 0, none⟩) x9_3.length co14) y562 := (by rw [hw, Ny562.out]; exact HP45.1); clear HP45; replace HO_11 := Fa.mk (Kd.R_after (v := (.slice (some ⟨go14, 0, none⟩) x9_3.length co14)) (v1 := (.slice (some ⟨go14, 0, none⟩) x9_3.length co14)) (ok := (fun _ => True)) (by (with_reducible repeat (first | apply Kd.R_alloc | apply Kd.R_drewN | apply Kd.R_drew)); exact Kd.R_mono HO_11.out (fun _ hk => ⟨trivial, hk⟩)) hg (.inl rfl)); replace BK547 := Fa.mk (blk_grown (bU BK547) hg (Kd.R_ne HO_9.out BK547.out (by decide))); replace HO_9 := Fa.mk hp_; replace HB := Fa.mk ((by rw [hw]; exact below_set (HB.out) GB14.out : Below w.heap.size w w46)); clear hg hw hp_) | ((with_reducible refine gate_builtin (b := .append) (xs := #[.tmp 91, .tmp 93]) rfl ?_); at_builtin; refine Kd.R_append (Kd.int .i64) (w0 := w) w.heap.size rfl (.tmp 91) (.tmp 93) 24 2 (.int .i64 0) 8 rfl Tryd.underlying24 info2 rfl (by decide) (by omega) u11 x11_3 x14_3 [.int .i64 x14_3] (fun k_ => some k_ ≠ (.slice (some ⟨go14, 0, none⟩) x9_3.length co14 : Value).ownBlock) (fun _ => False) rfl rfl ?aP (fun _ hk => hk.elim) ?aF ?aO ?aB ?aS ?aL ?_; (case aP => exact rfl); (case aB => exact (BU HB)); (case aF => exact (fun k_ hk => Kd.fresh' (Kd.R_lt (rU HO_9)) k_ hk)); (case aO => exact (by (with_reducible repeat (first | apply Kd.R_alloc | apply Kd.R_drewN | apply Kd.R_drew)); exact Kd.R_mono HO_11.out (fun _ hk => hk.2))); (case aS => exact (below_size (BU HB))); (case aL => have := LMc43.out; omega); intro v564 w47 ho hb hg hat; rw [← Ny563.out] at ho; replace HO_9 := Fa.mk (Kd.R_after (ok := (fun _ => True)) (by (with_reducible repeat (first | apply Kd.R_alloc | apply Kd.R_drewN | apply Kd.R_drew)); exact Kd.R_mono HO_9.out (fun _ hk => ⟨trivial, hk⟩)) hg hat); replace BK547 := Fa.mk (blk_grown (bU BK547) hg (Kd.R_ne HO_11.out BK547.out (by decide))); have HO565 := Fa.mk ho; replace HB := Fa.mk hb; clear HO_11; clear ho hb hg hat))
                                                    (try simp only [← hl9_3])
                                                    go_roundg k3
                                                    case measure => have := HK1.out; have := HK2.out; have := HK3.out; omega
                                                    case rel => exact ⟨(y562), (y563), (wrap64 (x14_3 + 1)), rfl, H', ⟨by have := HK1.out; have := HK2.out; have := HK3.out; omega⟩, ⟨by (try simp only [hl9_2]); (try simp only [hl9_3]); (with_reducible repeat (first | apply Kd.R_alloc | apply Kd.R_drewN | apply Kd.R_drew)); exact Kd.R_mono HO_9.out (fun _ hk => hk.2)⟩, ⟨by (try simp only [hl9_2]); (try simp only [hl9_3]); (with_reducible repeat (first | apply Kd.R_alloc | apply Kd.R_drewN | apply Kd.R_drew)); exact HO565.out⟩, ⟨by (try simp only [hl9_2]); (try simp only [hl9_3]); (with_reducible repeat (first | refine blk_drewN ?_ _ | refine blk_drew ?_ | refine blk_alloc ?_ _)); exact BK547.out⟩, ⟨BU HB⟩⟩
                                                    all_goals ((try simp only [← hl9_3]); go_roundg k3; (case measure => have := HK1.out; have := HK2.out; have := HK3.out; omega); (case rel => exact ⟨(y562), (y563), (wrap64 (x14_3 + 1)), rfl, H', ⟨by have := HK1.out; have := HK2.out; have := HK3.out; omega⟩, ⟨by (try simp only [hl9_2]); (try simp only [hl9_3]); (with_reducible repeat (first | apply Kd.R_alloc | apply Kd.R_drewN | apply Kd.R_drew)); exact Kd.R_mono HO_9.out (fun _ hk => hk.2)⟩, ⟨by (try simp only [hl9_2]); (try simp only [hl9_3]); (with_reducible repeat (first | apply Kd.R_alloc | apply Kd.R_drewN | apply Kd.R_drew)); exact HO565.out⟩, ⟨by (try simp only [hl9_2]); (try simp only [hl9_3]); (with_reducible repeat (first | refine blk_drewN ?_ _ | refine blk_drew ?_ | refine blk_alloc ?_ _)); exact BK547.out⟩, ⟨BU HB⟩⟩))
                                                  · rw [if_neg c43] at H
                                                    exact absurd H (by simp)
                                                · rw [if_neg c41] at H
                                                  exact absurd H (by simp)
                                            · rw [if_neg c38] at H
                                              have c38b0 := beq_eq_false_iff_ne.mpr c38
                                              have c38b1 := bne_iff_ne.mpr c38
                                              by_cases c48 : (rd x11_2 x12_2) < (x9_3.length : Int)
                                              · rw [if_pos c48] at H
                                                have c48b0 := decide_eq_true c48
                                                clear c48
                                                obtain ⟨y567, hy567⟩ : ∃ y_ : List Int, y_ = (x9_3.set (x14_3 : Int).toNat (wrap64 ((rd x9_3 (rd x11_2 x12_2)) + 1))) := ⟨_, rfl⟩
                                                first | replace H := bs_ hy567 H | rw [← hy567] at H
                                                have Ny567 := Fa.mk hy567
                                                clear hy567
                                                by_cases c50 : x11_3.length < 17592186044416
                                                · rw [if_pos c50] at H
                                                  have LMc50 := Fa.mk c50
                                                  clear c50
                                                  obtain ⟨y568, hy568⟩ : ∃ y_ : List Int, y_ = (x11_3 ++ [x14_3]) := ⟨_, rfl⟩
                                                  first | replace H := bs_ hy568 H | rw [← hy568] at H
                                                  have Ny568 := Fa.mk hy568
                                                  clear hy568
                                                  have H' := Fa.mk H
                                                  clear H
                                                  obtain ⟨hcz51_0, hcz51_1, hfz51_0, hfz51_1⟩ := cz2 BK547.out
                                                  have p559 : 0 ≤ ((rd x11_2 x12_2) : Int) := of_decide_eq_true (by assumption)
                                                  have q559 : (rd x11_2 x12_2) < (l0_1.length : Int) := of_decide_eq_true (by assumption)
                                                  obtain ⟨ad559, e559, hx559_0⟩ := Kd.at_int HR0_1.out (rd x11_2 x12_2) p559 q559
                                                  cases e559
                                                  replace hx559_0 := (HB.out.cell (World.block_lt_of_cell? w _ hx559_0)).trans hx559_0
                                                  replace p559 := eq_true p559
                                                  replace q559 := eq_true q559
                                                  have p560 : 0 ≤ (x14_3 : Int) := of_decide_eq_true (by assumption)
                                                  have q560 : x14_3 < (x9_3.length : Int) := of_decide_eq_true (by assumption)
                                                  obtain ⟨ad560, e560, hx560_0⟩ := Kd.at_int (Kd.R_reads' HO_9.out).2.2 x14_3 p560 q560
                                                  obtain rfl : (⟨go14, 0, none⟩ : Addr) = ad560 := (by injection e560)
                                                  (first | simp only [add_plain] at hx560_0 | simp only [add_at] at hx560_0 | simp only [Addr.add, Nat.zero_add] at hx560_0 | skip)
                                                  replace p560 := eq_true p560
                                                  replace q560 := eq_true q560
                                                  have p566 : 0 ≤ ((rd x11_2 x12_2) : Int) := of_decide_eq_true (by assumption)
                                                  have q566 : (rd x11_2 x12_2) < (x9_3.length : Int) := of_decide_eq_true (by assumption)
                                                  obtain ⟨ad566, e566, hx566_0⟩ := Kd.at_int (Kd.R_reads' HO_9.out).2.2 (rd x11_2 x12_2) p566 q566
                                                  obtain rfl : (⟨go14, 0, none⟩ : Addr) = ad566 := (by injection e566)
                                                  (first | simp only [add_plain] at hx566_0 | simp only [add_at] at hx566_0 | simp only [Addr.add, Nat.zero_add] at hx566_0 | skip)
                                                  replace p566 := eq_true p566
                                                  replace q566 := eq_true q566
                                                  have p49 : 0 ≤ (x14_3 : Int) := of_decide_eq_true (by assumption)
                                                  have q49 : (x14_3 : Int) < ((x9_3.length : Int) : Int) := of_decide_eq_true (by assumption)
                                                  obtain ⟨hx49_0, hf49_0⟩ := Kd.R_celln 0 HO_9.out (x14_3 : Int) p49 q49
                                                  replace p49 := eq_true p49
                                                  replace q49 := eq_true q49
                                                  have HP52 := Kd.R_putg HO_9.out (x14_3 : Int) (wrap64 ((rd x9_3 (rd x11_2 x12_2)) + 1))
                                                  go_wp2_with (first | ((with_reducible refine gate_store (t := 2) (p := 90) rfl ?_); refine store_event (t := 2) (p := 90) (v := ?vo_w53) (w1 := (wr.setCell ⟨go14, (x14_3 : Int).toNat, none⟩ (.int .i64 (wrap64 ((rd x9_3 (rd x11_2 x12_2)) + 1))))) ?hg ?ho ?hn ?hr ?_; (case ho => rfl); (case hg => rfl); (case hn => rfl); (case hr => first | (go_simp; done) | (go_simp; rfl)); intro w53 hw; have hg : wr.grownBy w53 (some go14) := (by rw [hw]; exact HP52.2); have hp_ : Kd.R (Kd.int .i64) 2 w53 w.heap.size (fun k_ => some k_ ≠ (u11 : Value).ownBlock) (.slice (some ⟨go14, 0, none⟩) x9_3.length co14) y567 := (by rw [hw, Ny567.out]; exact HP52.1); clear HP52; replace HO_11 := Fa.mk (Kd.R_after (v := (.slice (some ⟨go14, 0, none⟩) x9_3.length co14)) (v1 := (.slice (some ⟨go14, 0, none⟩) x9_3.length co14)) (ok := (fun _ => True)) (by (with_reducible repeat (first | apply Kd.R_alloc | apply Kd.R_drewN | apply Kd.R_drew)); exact Kd.R_mono HO_11.out (fun _ hk => ⟨trivial, hk⟩)) hg (.inl rfl)); replace BK547 := Fa.mk (blk_grown (bU BK547) hg (Kd.R_ne HO_9.out BK547.out (by decide))); replace HO_9 := Fa.mk hp_; replace HB := Fa.mk ((by rw [hw]; exact below_set (HB.out) GB14.out : Below w.heap.size w w53)); clear hg hw hp_) | ((with_reducible refine gate_builtin (b := .append) (xs := #[.tmp 91, .tmp 93]) rfl ?_); at_builtin; refine Kd.R_append (Kd.int .i64) (w0 := w) w.heap.size rfl (.tmp 91) (.tmp 93) 24 2 (.int .i64 0) 8 rfl Tryd.underlying24 info2 rfl (by decide) (by omega) u11 x11_3 x14_3 [.int .i64 x14_3] (fun k_ => some k_ ≠ (.slice (some ⟨go14, 0, none⟩) x9_3.length co14 : Value).ownBlock) (fun _ => False) rfl rfl ?aP (fun _ hk => hk.elim) ?aF ?aO ?aB ?aS ?aL ?_; (case aP => exact rfl); (case aB => exact (BU HB)); (case aF => exact (fun k_ hk => Kd.fresh' (Kd.R_lt (rU HO_9)) k_ hk)); (case aO => exact (by (with_reducible repeat (first | apply Kd.R_alloc | apply Kd.R_drewN | apply Kd.R_drew)); exact Kd.R_mono HO_11.out (fun _ hk => hk.2))); (case aS => exact (below_size (BU HB))); (case aL => have := LMc50.out; omega); intro v569 w54 ho hb hg hat; rw [← Ny568.out] at ho; replace HO_9 := Fa.mk (Kd.R_after (ok := (fun _ => True)) (by (with_reducible repeat (first | apply Kd.R_alloc | apply Kd.R_drewN | apply Kd.R_drew)); exact Kd.R_mono HO_9.out (fun _ hk => ⟨trivial, hk⟩)) hg hat); replace BK547 := Fa.mk (blk_grown (bU BK547) hg (Kd.R_ne HO_11.out BK547.out (by decide))); have HO570 := Fa.mk ho; replace HB := Fa.mk hb; clear HO_11; clear ho hb hg hat))
                                                  (try simp only [← hl9_3])
                                                  go_roundg k3
                                                  case measure => have := HK1.out; have := HK2.out; have := HK3.out; omega
                                                  case rel => exact ⟨(y567), (y568), (wrap64 (x14_3 + 1)), rfl, H', ⟨by have := HK1.out; have := HK2.out; have := HK3.out; omega⟩, ⟨by (try simp only [hl9_2]); (try simp only [hl9_3]); (with_reducible repeat (first | apply Kd.R_alloc | apply Kd.R_drewN | apply Kd.R_drew)); exact Kd.R_mono HO_9.out (fun _ hk => hk.2)⟩, ⟨by (try simp only [hl9_2]); (try simp only [hl9_3]); (with_reducible repeat (first | apply Kd.R_alloc | apply Kd.R_drewN | apply Kd.R_drew)); exact HO570.out⟩, ⟨by (try simp only [hl9_2]); (try simp only [hl9_3]); (with_reducible repeat (first | refine blk_drewN ?_ _ | refine blk_drew ?_ | refine blk_alloc ?_ _)); exact BK547.out⟩, ⟨BU HB⟩⟩
                                                  all_goals ((try simp only [← hl9_3]); go_roundg k3; (case measure => have := HK1.out; have := HK2.out; have := HK3.out; omega); (case rel => exact ⟨(y567), (y568), (wrap64 (x14_3 + 1)), rfl, H', ⟨by have := HK1.out; have := HK2.out; have := HK3.out; omega⟩, ⟨by (try simp only [hl9_2]); (try simp only [hl9_3]); (with_reducible repeat (first | apply Kd.R_alloc | apply Kd.R_drewN | apply Kd.R_drew)); exact Kd.R_mono HO_9.out (fun _ hk => hk.2)⟩, ⟨by (try simp only [hl9_2]); (try simp only [hl9_3]); (with_reducible repeat (first | apply Kd.R_alloc | apply Kd.R_drewN | apply Kd.R_drew)); exact HO570.out⟩, ⟨by (try simp only [hl9_2]); (try simp only [hl9_3]); (with_reducible repeat (first | refine blk_drewN ?_ _ | refine blk_drew ?_ | refine blk_alloc ?_ _)); exact BK547.out⟩, ⟨BU HB⟩⟩))
                                                · rw [if_neg c50] at H
                                                  exact absurd H (by simp)
                                              · rw [if_neg c48] at H
                                                exact absurd H (by simp)
                                        · rw [if_neg c35] at H
                                          have c35b0 := beq_eq_false_iff_ne.mpr c35
                                          have c35b1 := bne_iff_ne.mpr c35
                                          by_cases c55 : (rd x11_2 x12_2) = a3
                                          · rw [if_pos c55] at H
                                            have c55b0 := beq_iff_eq.mpr c55
                                            have c55b1 := bne_eq_false_iff_eq.mpr c55
                                            clear c55
                                            by_cases c56 : x14_3 = a2
                                            · rw [if_pos c56] at H
                                              have c56b0 := beq_iff_eq.mpr c56
                                              have c56b1 := bne_eq_false_iff_eq.mpr c56
                                              clear c56
                                              have H' := Fa.mk H
                                              clear H
                                              obtain ⟨hcz57_0, hcz57_1, hfz57_0, hfz57_1⟩ := cz2 BK547.out
                                              have p559 : 0 ≤ ((rd x11_2 x12_2) : Int) := of_decide_eq_true (by assumption)
                                              have q559 : (rd x11_2 x12_2) < (l0_1.length : Int) := of_decide_eq_true (by assumption)
                                              obtain ⟨ad559, e559, hx559_0⟩ := Kd.at_int HR0_1.out (rd x11_2 x12_2) p559 q559
                                              cases e559
                                              replace hx559_0 := (HB.out.cell (World.block_lt_of_cell? w _ hx559_0)).trans hx559_0
                                              replace p559 := eq_true p559
                                              replace q559 := eq_true q559
                                              have p560 : 0 ≤ (x14_3 : Int) := of_decide_eq_true (by assumption)
                                              have q560 : x14_3 < (x9_3.length : Int) := of_decide_eq_true (by assumption)
                                              obtain ⟨ad560, e560, hx560_0⟩ := Kd.at_int (Kd.R_reads' HO_9.out).2.2 x14_3 p560 q560
                                              obtain rfl : (⟨go14, 0, none⟩ : Addr) = ad560 := (by injection e560)
                                              (first | simp only [add_plain] at hx560_0 | simp only [add_at] at hx560_0 | simp only [Addr.add, Nat.zero_add] at hx560_0 | skip)
                                              replace p560 := eq_true p560
                                              replace q560 := eq_true q560
                                              go_wp2
                                              (try simp only [← hl9_3])
                                              go_roundg k3
                                              case measure => have := HK1.out; have := HK2.out; have := HK3.out; omega
                                              case rel => exact ⟨(x9_3), (x11_3), (wrap64 (x14_3 + 1)), rfl, H', ⟨by have := HK1.out; have := HK2.out; have := HK3.out; omega⟩, ⟨by (try simp only [hl9_2]); (try simp only [hl9_3]); (with_reducible repeat (first | apply Kd.R_alloc | apply Kd.R_drewN | apply Kd.R_drew)); exact HO_9.out⟩, ⟨by (try simp only [hl9_2]); (try simp only [hl9_3]); (with_reducible repeat (first | apply Kd.R_alloc | apply Kd.R_drewN | apply Kd.R_drew)); exact HO_11.out⟩, ⟨by (try simp only [hl9_2]); (try simp only [hl9_3]); (with_reducible repeat (first | refine blk_drewN ?_ _ | refine blk_drew ?_ | refine blk_alloc ?_ _)); exact BK547.out⟩, ⟨BU HB⟩⟩
                                              all_goals ((try simp only [← hl9_3]); go_roundg k3; (case measure => have := HK1.out; have := HK2.out; have := HK3.out; omega); (case rel => exact ⟨(x9_3), (x11_3), (wrap64 (x14_3 + 1)), rfl, H', ⟨by have := HK1.out; have := HK2.out; have := HK3.out; omega⟩, ⟨by (try simp only [hl9_2]); (try simp only [hl9_3]); (with_reducible repeat (first | apply Kd.R_alloc | apply Kd.R_drewN | apply Kd.R_drew)); exact HO_9.out⟩, ⟨by (try simp only [hl9_2]); (try simp only [hl9_3]); (with_reducible repeat (first | apply Kd.R_alloc | apply Kd.R_drewN | apply Kd.R_drew)); exact HO_11.out⟩, ⟨by (try simp only [hl9_2]); (try simp only [hl9_3]); (with_reducible repeat (first | refine blk_drewN ?_ _ | refine blk_drew ?_ | refine blk_alloc ?_ _)); exact BK547.out⟩, ⟨BU HB⟩⟩))
                                            · rw [if_neg c56] at H
                                              have c56b0 := beq_eq_false_iff_ne.mpr c56
                                              have c56b1 := bne_iff_ne.mpr c56
                                              by_cases c58 : (rd x11_2 x12_2) < (x9_3.length : Int)
                                              · rw [if_pos c58] at H
                                                have c58b0 := decide_eq_true c58
                                                clear c58
                                                obtain ⟨y572, hy572⟩ : ∃ y_ : List Int, y_ = (x9_3.set (x14_3 : Int).toNat (wrap64 ((rd x9_3 (rd x11_2 x12_2)) + 1))) := ⟨_, rfl⟩
                                                first | replace H := bs_ hy572 H | rw [← hy572] at H
                                                have Ny572 := Fa.mk hy572
                                                clear hy572
                                                by_cases c60 : x11_3.length < 17592186044416
                                                · rw [if_pos c60] at H
                                                  have LMc60 := Fa.mk c60
                                                  clear c60
                                                  obtain ⟨y573, hy573⟩ : ∃ y_ : List Int, y_ = (x11_3 ++ [x14_3]) := ⟨_, rfl⟩
                                                  first | replace H := bs_ hy573 H | rw [← hy573] at H
                                                  have Ny573 := Fa.mk hy573
                                                  clear hy573
                                                  have H' := Fa.mk H
                                                  clear H
                                                  obtain ⟨hcz61_0, hcz61_1, hfz61_0, hfz61_1⟩ := cz2 BK547.out
                                                  have p559 : 0 ≤ ((rd x11_2 x12_2) : Int) := of_decide_eq_true (by assumption)
                                                  have q559 : (rd x11_2 x12_2) < (l0_1.length : Int) := of_decide_eq_true (by assumption)
                                                  obtain ⟨ad559, e559, hx559_0⟩ := Kd.at_int HR0_1.out (rd x11_2 x12_2) p559 q559
                                                  cases e559
                                                  replace hx559_0 := (HB.out.cell (World.block_lt_of_cell? w _ hx559_0)).trans hx559_0
                                                  replace p559 := eq_true p559
                                                  replace q559 := eq_true q559
                                                  have p560 : 0 ≤ (x14_3 : Int) := of_decide_eq_true (by assumption)
                                                  have q560 : x14_3 < (x9_3.length : Int) := of_decide_eq_true (by assumption)
                                                  obtain ⟨ad560, e560, hx560_0⟩ := Kd.at_int (Kd.R_reads' HO_9.out).2.2 x14_3 p560 q560
                                                  obtain rfl : (⟨go14, 0, none⟩ : Addr) = ad560 := (by injection e560)
                                                  (first | simp only [add_plain] at hx560_0 | simp only [add_at] at hx560_0 | simp only [Addr.add, Nat.zero_add] at hx560_0 | skip)
                                                  replace p560 := eq_true p560
                                                  replace q560 := eq_true q560
                                                  have p571 : 0 ≤ ((rd x11_2 x12_2) : Int) := of_decide_eq_true (by assumption)
                                                  have q571 : (rd x11_2 x12_2) < (x9_3.length : Int) := of_decide_eq_true (by assumption)
                                                  obtain ⟨ad571, e571, hx571_0⟩ := Kd.at_int (Kd.R_reads' HO_9.out).2.2 (rd x11_2 x12_2) p571 q571
                                                  obtain rfl : (⟨go14, 0, none⟩ : Addr) = ad571 := (by injection e571)
                                                  (first | simp only [add_plain] at hx571_0 | simp only [add_at] at hx571_0 | simp only [Addr.add, Nat.zero_add] at hx571_0 | skip)
                                                  replace p571 := eq_true p571
                                                  replace q571 := eq_true q571
                                                  have p59 : 0 ≤ (x14_3 : Int) := of_decide_eq_true (by assumption)
                                                  have q59 : (x14_3 : Int) < ((x9_3.length : Int) : Int) := of_decide_eq_true (by assumption)
                                                  obtain ⟨hx59_0, hf59_0⟩ := Kd.R_celln 0 HO_9.out (x14_3 : Int) p59 q59
                                                  replace p59 := eq_true p59
                                                  replace q59 := eq_true q59
                                                  have HP62 := Kd.R_putg HO_9.out (x14_3 : Int) (wrap64 ((rd x9_3 (rd x11_2 x12_2)) + 1))
                                                  go_wp2_with (first | ((with_reducible refine gate_store (t := 2) (p := 90) rfl ?_); refine store_event (t := 2) (p := 90) (v := ?vo_w63) (w1 := (wr.setCell ⟨go14, (x14_3 : Int).toNat, none⟩ (.int .i64 (wrap64 ((rd x9_3 (rd x11_2 x12_2)) + 1))))) ?hg ?ho ?hn ?hr ?_; (case ho => rfl); (case hg => rfl); (case hn => rfl); (case hr => first | (go_simp; done) | (go_simp; rfl)); intro w63 hw; have hg : wr.grownBy w63 (some go14) := (by rw [hw]; exact HP62.2); have hp_ : Kd.R (Kd.int .i64) 2 w63 w.heap.size (fun k_ => some k_ ≠ (u11 : Value).ownBlock) (.slice (some ⟨go14, 0, none⟩) x9_3.length co14) y572 := (by rw [hw, Ny572.out]; exact HP62.1); clear HP62; replace HO_11 := Fa.mk (Kd.R_after (v := (.slice (some ⟨go14, 0, none⟩) x9_3.length co14)) (v1 := (.slice (some ⟨go14, 0, none⟩) x9_3.length co14)) (ok := (fun _ => True)) (by (with_reducible repeat (first | apply Kd.R_alloc | apply Kd.R_drewN | apply Kd.R_drew)); exact Kd.R_mono HO_11.out (fun _ hk => ⟨trivial, hk⟩)) hg (.inl rfl)); replace BK547 := Fa.mk (blk_grown (bU BK547) hg (Kd.R_ne HO_9.out BK547.out (by decide))); replace HO_9 := Fa.mk hp_; replace HB := Fa.mk ((by rw [hw]; exact below_set (HB.out) GB14.out : Below w.heap.size w w63)); clear hg hw hp_) | ((with_reducible refine gate_builtin (b := .append) (xs := #[.tmp 91, .tmp 93]) rfl ?_); at_builtin; refine Kd.R_append (Kd.int .i64) (w0 := w) w.heap.size rfl (.tmp 91) (.tmp 93) 24 2 (.int .i64 0) 8 rfl Tryd.underlying24 info2 rfl (by decide) (by omega) u11 x11_3 x14_3 [.int .i64 x14_3] (fun k_ => some k_ ≠ (.slice (some ⟨go14, 0, none⟩) x9_3.length co14 : Value).ownBlock) (fun _ => False) rfl rfl ?aP (fun _ hk => hk.elim) ?aF ?aO ?aB ?aS ?aL ?_; (case aP => exact rfl); (case aB => exact (BU HB)); (case aF => exact (fun k_ hk => Kd.fresh' (Kd.R_lt (rU HO_9)) k_ hk)); (case aO => exact (by (with_reducible repeat (first | apply Kd.R_alloc | apply Kd.R_drewN | apply Kd.R_drew)); exact Kd.R_mono HO_11.out (fun _ hk => hk.2))); (case aS => exact (below_size (BU HB))); (case aL => have := LMc60.out; omega); intro v574 w64 ho hb hg hat; rw [← Ny573.out] at ho; replace HO_9 := Fa.mk (Kd.R_after (ok := (fun _ => True)) (by (with_reducible repeat (first | apply Kd.R_alloc | apply Kd.R_drewN | apply Kd.R_drew)); exact Kd.R_mono HO_9.out (fun _ hk => ⟨trivial, hk⟩)) hg hat); replace BK547 := Fa.mk (blk_grown (bU BK547) hg (Kd.R_ne HO_11.out BK547.out (by decide))); have HO575 := Fa.mk ho; replace HB := Fa.mk hb; clear HO_11; clear ho hb hg hat))
                                                  (try simp only [← hl9_3])
                                                  go_roundg k3
                                                  case measure => have := HK1.out; have := HK2.out; have := HK3.out; omega
                                                  case rel => exact ⟨(y572), (y573), (wrap64 (x14_3 + 1)), rfl, H', ⟨by have := HK1.out; have := HK2.out; have := HK3.out; omega⟩, ⟨by (try simp only [hl9_2]); (try simp only [hl9_3]); (with_reducible repeat (first | apply Kd.R_alloc | apply Kd.R_drewN | apply Kd.R_drew)); exact Kd.R_mono HO_9.out (fun _ hk => hk.2)⟩, ⟨by (try simp only [hl9_2]); (try simp only [hl9_3]); (with_reducible repeat (first | apply Kd.R_alloc | apply Kd.R_drewN | apply Kd.R_drew)); exact HO575.out⟩, ⟨by (try simp only [hl9_2]); (try simp only [hl9_3]); (with_reducible repeat (first | refine blk_drewN ?_ _ | refine blk_drew ?_ | refine blk_alloc ?_ _)); exact BK547.out⟩, ⟨BU HB⟩⟩
                                                  all_goals ((try simp only [← hl9_3]); go_roundg k3; (case measure => have := HK1.out; have := HK2.out; have := HK3.out; omega); (case rel => exact ⟨(y572), (y573), (wrap64 (x14_3 + 1)), rfl, H', ⟨by have := HK1.out; have := HK2.out; have := HK3.out; omega⟩, ⟨by (try simp only [hl9_2]); (try simp only [hl9_3]); (with_reducible repeat (first | apply Kd.R_alloc | apply Kd.R_drewN | apply Kd.R_drew)); exact Kd.R_mono HO_9.out (fun _ hk => hk.2)⟩, ⟨by (try simp only [hl9_2]); (try simp only [hl9_3]); (with_reducible repeat (first | apply Kd.R_alloc | apply Kd.R_drewN | apply Kd.R_drew)); exact HO575.out⟩, ⟨by (try simp only [hl9_2]); (try simp only [hl9_3]); (with_reducible repeat (first | refine blk_drewN ?_ _ | refine blk_drew ?_ | refine blk_alloc ?_ _)); exact BK547.out⟩, ⟨BU HB⟩⟩))
                                                · rw [if_neg c60] at H
                                                  exact absurd H (by simp)
                                              · rw [if_neg c58] at H
                                                exact absurd H (by simp)
                                          · rw [if_neg c55] at H
                                            have c55b0 := beq_eq_false_iff_ne.mpr c55
                                            have c55b1 := bne_iff_ne.mpr c55
                                            by_cases c65 : (rd x11_2 x12_2) < (x9_3.length : Int)
                                            · rw [if_pos c65] at H
                                              have c65b0 := decide_eq_true c65
                                              clear c65
                                              obtain ⟨y577, hy577⟩ : ∃ y_ : List Int, y_ = (x9_3.set (x14_3 : Int).toNat (wrap64 ((rd x9_3 (rd x11_2 x12_2)) + 1))) := ⟨_, rfl⟩
                                              first | replace H := bs_ hy577 H | rw [← hy577] at H
                                              have Ny577 := Fa.mk hy577
                                              clear hy577
                                              by_cases c67 : x11_3.length < 17592186044416
                                              · rw [if_pos c67] at H
                                                have LMc67 := Fa.mk c67
                                                clear c67
                                                obtain ⟨y578, hy578⟩ : ∃ y_ : List Int, y_ = (x11_3 ++ [x14_3]) := ⟨_, rfl⟩
                                                first | replace H := bs_ hy578 H | rw [← hy578] at H
                                                have Ny578 := Fa.mk hy578
                                                clear hy578
                                                have H' := Fa.mk H
                                                clear H
                                                obtain ⟨hcz68_0, hcz68_1, hfz68_0, hfz68_1⟩ := cz2 BK547.out
                                                have p559 : 0 ≤ ((rd x11_2 x12_2) : Int) := of_decide_eq_true (by assumption)
                                                have q559 : (rd x11_2 x12_2) < (l0_1.length : Int) := of_decide_eq_true (by assumption)
                                                obtain ⟨ad559, e559, hx559_0⟩ := Kd.at_int HR0_1.out (rd x11_2 x12_2) p559 q559
                                                cases e559
                                                replace hx559_0 := (HB.out.cell (World.block_lt_of_cell? w _ hx559_0)).trans hx559_0
                                                replace p559 := eq_true p559
                                                replace q559 := eq_true q559
                                                have p560 : 0 ≤ (x14_3 : Int) := of_decide_eq_true (by assumption)
                                                have q560 : x14_3 < (x9_3.length : Int) := of_decide_eq_true (by assumption)
                                                obtain ⟨ad560, e560, hx560_0⟩ := Kd.at_int (Kd.R_reads' HO_9.out).2.2 x14_3 p560 q560
                                                obtain rfl : (⟨go14, 0, none⟩ : Addr) = ad560 := (by injection e560)
                                                (first | simp only [add_plain] at hx560_0 | simp only [add_at] at hx560_0 | simp only [Addr.add, Nat.zero_add] at hx560_0 | skip)
                                                replace p560 := eq_true p560
                                                replace q560 := eq_true q560
                                                have p576 : 0 ≤ ((rd x11_2 x12_2) : Int) := of_decide_eq_true (by assumption)
                                                have q576 : (rd x11_2 x12_2) < (x9_3.length : Int) := of_decide_eq_true (by assumption)
                                                obtain ⟨ad576, e576, hx576_0⟩ := Kd.at_int (Kd.R_reads' HO_9.out).2.2 (rd x11_2 x12_2) p576 q576
                                                obtain rfl : (⟨go14, 0, none⟩ : Addr) = ad576 := (by injection e576)
                                                (first | simp only [add_plain] at hx576_0 | simp only [add_at] at hx576_0 | simp only [Addr.add, Nat.zero_add] at hx576_0 | skip)
                                                replace p576 := eq_true p576
                                                replace q576 := eq_true q576
                                                have p66 : 0 ≤ (x14_3 : Int) := of_decide_eq_true (by assumption)
                                                have q66 : (x14_3 : Int) < ((x9_3.length : Int) : Int) := of_decide_eq_true (by assumption)
                                                obtain ⟨hx66_0, hf66_0⟩ := Kd.R_celln 0 HO_9.out (x14_3 : Int) p66 q66
                                                replace p66 := eq_true p66
                                                replace q66 := eq_true q66
                                                have HP69 := Kd.R_putg HO_9.out (x14_3 : Int) (wrap64 ((rd x9_3 (rd x11_2 x12_2)) + 1))
                                                go_wp2_with (first | ((with_reducible refine gate_store (t := 2) (p := 90) rfl ?_); refine store_event (t := 2) (p := 90) (v := ?vo_w70) (w1 := (wr.setCell ⟨go14, (x14_3 : Int).toNat, none⟩ (.int .i64 (wrap64 ((rd x9_3 (rd x11_2 x12_2)) + 1))))) ?hg ?ho ?hn ?hr ?_; (case ho => rfl); (case hg => rfl); (case hn => rfl); (case hr => first | (go_simp; done) | (go_simp; rfl)); intro w70 hw; have hg : wr.grownBy w70 (some go14) := (by rw [hw]; exact HP69.2); have hp_ : Kd.R (Kd.int .i64) 2 w70 w.heap.size (fun k_ => some k_ ≠ (u11 : Value).ownBlock) (.slice (some ⟨go14, 0, none⟩) x9_3.length co14) y577 := (by rw [hw, Ny577.out]; exact HP69.1); clear HP69; replace HO_11 := Fa.mk (Kd.R_after (v := (.slice (some ⟨go14, 0, none⟩) x9_3.length co14)) (v1 := (.slice (some ⟨go14, 0, none⟩) x9_3.length co14)) (ok := (fun _ => True)) (by (with_reducible repeat (first | apply Kd.R_alloc | apply Kd.R_drewN | apply Kd.R_drew)); exact Kd.R_mono HO_11.out (fun _ hk => ⟨trivial, hk⟩)) hg (.inl rfl)); replace BK547 := Fa.mk (blk_grown (bU BK547) hg (Kd.R_ne HO_9.out BK547.out (by decide))); replace HO_9 := Fa.mk hp_; replace HB := Fa.mk ((by rw [hw]; exact below_set (HB.out) GB14.out : Below w.heap.size w w70)); clear hg hw hp_) | ((with_reducible refine gate_builtin (b := .append) (xs := #[.tmp 91, .tmp 93]) rfl ?_); at_builtin; refine Kd.R_append (Kd.int .i64) (w0 := w) w.heap.size rfl (.tmp 91) (.tmp 93) 24 2 (.int .i64 0) 8 rfl Tryd.underlying24 info2 rfl (by decide) (by omega) u11 x11_3 x14_3 [.int .i64 x14_3] (fun k_ => some k_ ≠ (.slice (some ⟨go14, 0, none⟩) x9_3.length co14 : Value).ownBlock) (fun _ => False) rfl rfl ?aP (fun _ hk => hk.elim) ?aF ?aO ?aB ?aS ?aL ?_; (case aP => exact rfl); (case aB => exact (BU HB)); (case aF => exact (fun k_ hk => Kd.fresh' (Kd.R_lt (rU HO_9)) k_ hk)); (case aO => exact (by (with_reducible repeat (first | apply Kd.R_alloc | apply Kd.R_drewN | apply Kd.R_drew)); exact Kd.R_mono HO_11.out (fun _ hk => hk.2))); (case aS => exact (below_size (BU HB))); (case aL => have := LMc67.out; omega); intro v579 w71 ho hb hg hat; rw [← Ny578.out] at ho; replace HO_9 := Fa.mk (Kd.R_after (ok := (fun _ => True)) (by (with_reducible repeat (first | apply Kd.R_alloc | apply Kd.R_drewN | apply Kd.R_drew)); exact Kd.R_mono HO_9.out (fun _ hk => ⟨trivial, hk⟩)) hg hat); replace BK547 := Fa.mk (blk_grown (bU BK547) hg (Kd.R_ne HO_11.out BK547.out (by decide))); have HO580 := Fa.mk ho; replace HB := Fa.mk hb; clear HO_11; clear ho hb hg hat))
                                                (try simp only [← hl9_3])
                                                go_roundg k3
                                                case measure => have := HK1.out; have := HK2.out; have := HK3.out; omega
                                                case rel => exact ⟨(y577), (y578), (wrap64 (x14_3 + 1)), rfl, H', ⟨by have := HK1.out; have := HK2.out; have := HK3.out; omega⟩, ⟨by (try simp only [hl9_2]); (try simp only [hl9_3]); (with_reducible repeat (first | apply Kd.R_alloc | apply Kd.R_drewN | apply Kd.R_drew)); exact Kd.R_mono HO_9.out (fun _ hk => hk.2)⟩, ⟨by (try simp only [hl9_2]); (try simp only [hl9_3]); (with_reducible repeat (first | apply Kd.R_alloc | apply Kd.R_drewN | apply Kd.R_drew)); exact HO580.out⟩, ⟨by (try simp only [hl9_2]); (try simp only [hl9_3]); (with_reducible repeat (first | refine blk_drewN ?_ _ | refine blk_drew ?_ | refine blk_alloc ?_ _)); exact BK547.out⟩, ⟨BU HB⟩⟩
                                                all_goals ((try simp only [← hl9_3]); go_roundg k3; (case measure => have := HK1.out; have := HK2.out; have := HK3.out; omega); (case rel => exact ⟨(y577), (y578), (wrap64 (x14_3 + 1)), rfl, H', ⟨by have := HK1.out; have := HK2.out; have := HK3.out; omega⟩, ⟨by (try simp only [hl9_2]); (try simp only [hl9_3]); (with_reducible repeat (first | apply Kd.R_alloc | apply Kd.R_drewN | apply Kd.R_drew)); exact Kd.R_mono HO_9.out (fun _ hk => hk.2)⟩, ⟨by (try simp only [hl9_2]); (try simp only [hl9_3]); (with_reducible repeat (first | apply Kd.R_alloc | apply Kd.R_drewN | apply Kd.R_drew)); exact HO580.out⟩, ⟨by (try simp only [hl9_2]); (try simp only [hl9_3]); (with_reducible repeat (first | refine blk_drewN ?_ _ | refine blk_drew ?_ | refine blk_alloc ?_ _)); exact BK547.out⟩, ⟨BU HB⟩⟩))
                                              · rw [if_neg c67] at H
                                                exact absurd H (by simp)
                                            · rw [if_neg c65] at H
                                              exact absurd H (by simp)
                                    · rw [if_neg c32] at H
                                      exact absurd H (by simp)
                                  · rw [if_neg c31] at H
                                    exact absurd H (by simp)
                              · rw [if_neg c27] at H
                                exact absurd H (by simp)
                            · rw [if_neg c25] at H
                              exact absurd H (by simp)
                          · rw [if_neg c24] at H
                            exact absurd H (by simp)
                        · rw [if_neg c23] at H
                          have c23b0 := decide_eq_false c23
                          clear c23
                          have H' := Fa.mk H
                          clear H
                          obtain ⟨hcz72_0, hcz72_1, hfz72_0, hfz72_1⟩ := cz2 BK547.out
                          go_wp2
                          (try simp only [← hl9_2, ← hl9_3])
                          go_roundg k3
                          case measure => have := HK1.out; have := HK2.out; have := HK3.out; omega
                          case rel => exact ⟨(x9_3), (x11_3), (wrap64 (x12_2 + 1)), rfl, H', ⟨by have := HK1.out; have := HK2.out; have := HK3.out; omega⟩, ⟨by (try simp only [hl9_2]); (try simp only [hl9_3]); (with_reducible repeat (first | apply Kd.R_alloc | apply Kd.R_drewN | apply Kd.R_drew)); exact HO_9.out⟩, ⟨by (try simp only [hl9_2]); (try simp only [hl9_3]); (with_reducible repeat (first | apply Kd.R_alloc | apply Kd.R_drewN | apply Kd.R_drew)); exact HO_11.out⟩, ⟨by (try simp only [hl9_2]); (try simp only [hl9_3]); (with_reducible repeat (first | refine blk_drewN ?_ _ | refine blk_drew ?_ | refine blk_alloc ?_ _)); exact BK547.out⟩, ⟨BU HB⟩⟩
                          all_goals ((try simp only [← hl9_2, ← hl9_3]); go_roundg k3; (case measure => have := HK1.out; have := HK2.out; have := HK3.out; omega); (case rel => exact ⟨(x9_3), (x11_3), (wrap64 (x12_2 + 1)), rfl, H', ⟨by have := HK1.out; have := HK2.out; have := HK3.out; omega⟩, ⟨by (try simp only [hl9_2]); (try simp only [hl9_3]); (with_reducible repeat (first | apply Kd.R_alloc | apply Kd.R_drewN | apply Kd.R_drew)); exact HO_9.out⟩, ⟨by (try simp only [hl9_2]); (try simp only [hl9_3]); (with_reducible repeat (first | apply Kd.R_alloc | apply Kd.R_drewN | apply Kd.R_drew)); exact HO_11.out⟩, ⟨by (try simp only [hl9_2]); (try simp only [hl9_3]); (with_reducible repeat (first | refine blk_drewN ?_ _ | refine blk_drew ?_ | refine blk_alloc ?_ _)); exact BK547.out⟩, ⟨BU HB⟩⟩))
                  · rw [if_neg c21] at H
                    exact absurd H (by simp)
                · rw [if_neg c20] at H
                  have c20b0 := decide_eq_false c20
                  clear c20
                  obtain rfl := Option.some.inj H
                  obtain ⟨Ao73, co73, eo73⟩ := Kd.R_slice HO_11.out
                  subst eo73
                  go_wp2
                  go_ret
                  exact ⟨_, rfl, by (with_reducible repeat (first | apply Kd.R_alloc | apply Kd.R_drewN | apply Kd.R_drew)); exact Kd.R_mono HO_9.out (fun _ hk => trivial), BU HB⟩
          · rw [if_neg c13] at H
            exact absurd H (by simp)
        · rw [if_neg c12] at H
          exact absurd H (by simp)

/-! ### spec_DistancesFrom: function 10 -/
def spec_DistancesFrom.f (k : Nat) (a0_0 : Int) (l0_1 : List Int) (a1 : Int) : Option (List Int × Int) := (spec_l02Code.f k a0_0 l0_1 (([a1] : List Int))).bind fun t585 => (if t585 = 0 then ((spec_l02From.f k a0_0 l0_1 a1 (-1) (-1)).bind fun t586 => (some (t586, 0))) else (some (([] : List Int), t585)))
set_option maxHeartbeats 8000000 in
set_option maxRecDepth 100000 in
theorem spec_DistancesFrom.calls (k : Nat) (a0_0 : Int) (A0_1 : Option Addr) (c0_1 : Nat) (l0_1 : List Int) (a1 : Int) (r1 : List Int) (r2 : Int) (w : World) (hr0_1 : Kd.C (Kd.int .i64) w A0_1 l0_1.length l0_1) (hc0_1 : l0_1.length ≤ c0_1) (h : spec_DistancesFrom.f k a0_0 l0_1 a1 = some (r1, r2)) :
    Calls Tryd.prog 10 #[.agg #[.int .i64 a0_0, .slice A0_1 l0_1.length c0_1], .int .i64 a1] w fun e w' => ∃ v0_ : Value, e = .returned (.tuple #[v0_, .int .i64 r2]) ∧ Kd.R (Kd.int .i64) 2 w' w.heap.size (fun _ => True) v0_ r1 ∧ Below w.heap.size w w' := by
  have hu26 := Tryd.underlying26
  have HR0_1 := Fa.mk hr0_1
  have HC0_1 := Fa.mk hc0_1
  clear hr0_1 hc0_1
  have HB := Fa.mk (Below.refl w.heap.size w)
  unfold spec_DistancesFrom.f at h; have H := h
  clear h
  obtain ⟨y582, hy582⟩ : ∃ y_ : List Int, y_ = (([a1] : List Int)) := ⟨_, rfl⟩
  first | replace H := bs_ hy582 H | rw [← hy582] at H
  have Ny582 := Fa.mk hy582
  clear hy582
  replace H := Option.bind_eq_some_iff.mp H
  obtain ⟨t585, A30, H⟩ := H
  replace H : (if t585 = 0 then ((spec_l02From.f k a0_0 l0_1 a1 (-1) (-1)).bind fun t586 => (some (t586, 0))) else (some (([] : List Int), t585))) = some (r1, r2) := H
  have A3 := Fa.mk A30
  clear A30
  by_cases c4 : t585 = 0
  · rw [if_pos c4] at H
    have c4b0 := beq_iff_eq.mpr c4
    have c4b1 := bne_eq_false_iff_eq.mpr c4
    clear c4
    replace H := Option.bind_eq_some_iff.mp H
    obtain ⟨t586, A50, H⟩ := H
    replace H : (some (t586, 0)) = some (r1, r2) := H
    have A5 := Fa.mk A50
    clear A50
    simp only [Option.some.injEq, Prod.mk.injEq] at H
    obtain ⟨rfl, rfl⟩ := H
    go_enter Tryd.func10, Tryd.ntmps10
    go_wp2_with (first | ((with_reducible refine gd 2 rfl ?_); refine box_event ?hg (N := 2) ?hd (cs := #[.int .i64 a0_0, .slice A0_1 l0_1.length c0_1]) (t := 26) ?hr ?_; (case hd => rfl); (case hg => rfl); (case hr => first | (go_simp; done) | (go_simp; rfl)); intro gb581 hg w6 hbox hb; have BK581 := Fa.mk hbox; have GW581 := Fa.mk (bsz hg (BU HB) : w.heap.size ≤ gb581); have GE581 := GW581; replace HB := Fa.mk (below_step (BU HB) hb); clear hb hbox hg; obtain ⟨hcz7_0, hcz7_1, hfz7_0, hfz7_1⟩ := cz2 BK581.out) | ((with_reducible refine gd 9 rfl ?_); refine Kd.R_lit (Kd.int .i64) _ 2 ?hg (N := 9) ?hd (xs := ([a1] : List Int)) (inner := [.int .i64 a1]) (ok := fun _ => True) (okp := fun _ => True) ?hr ?hp (fun _ hk => hk) trivial (Below.refl _ _) (Nat.le_refl _) (by simp) ?_; (case hd => rfl); (case hg => rfl); (case hr => first | (go_simp; done) | (go_simp; rfl)); (case hp => exact (Reps.one (show Kd.M (Kd.int .i64) _ _ _ a1 [.int .i64 a1] from rfl) (Reps.none _ _))); intro v583 w8 ho9 hb hg_ hnew_; clear hg_ hnew_; (first | rw [← Ny582.out] at ho9 | (simp only [Int.reduceToNat] at ho9; rw [← Ny582.out] at ho9)); have HO584 := Fa.mk (Kd.R_lower ho9 (below_size (BU HB))); replace BK581 := Fa.mk (blk_below (bU BK581) hb); replace HB := Fa.mk (below_step (BU HB) hb); clear hb ho9; obtain ⟨Ao10, co10, eo10⟩ := Kd.R_slice HO584.out; subst eo10) | ((with_reducible refine gc 38 rfl ?_); refine gL 10 Tryd.func38 #[.agg #[.int .i64 a0_0, .slice A0_1 l0_1.length c0_1], .slice Ao10 y582.length co10] rfl (by first | rfl | (simp only [mA, mC, mN]; rfl)) ?_; (with_reducible refine (spec_l02Code.calls k a0_0 _ _ l0_1 _ _ y582 t585 _ (Kd.C_below HR0_1.out (BU HB)) HC0_1.out (rC HO584) ((Kd.R_reads' HO584.out).2.1) A3.out).mono ?_); rintro e w11 ⟨rfl, hb⟩; refine ⟨_, rfl, ?_⟩; replace HO584 := Fa.mk (Kd.R_below (rU HO584) hb); replace BK581 := Fa.mk (blk_below (bU BK581) hb); replace HB := Fa.mk (below_step (BU HB) hb); obtain ⟨hcz12_0, hcz12_1, hfz12_0, hfz12_1⟩ := cz2 BK581.out) | ((with_reducible refine gc 39 rfl ?_); refine gL 16 Tryd.func39 #[.agg #[.int .i64 a0_0, .slice A0_1 l0_1.length c0_1], .int .i64 a1, .int .i64 (-1), .int .i64 (-1)] rfl (by first | rfl | (simp only [mA, mC, mN]; rfl)) ?_; (with_reducible refine (spec_l02From.calls k a0_0 _ _ l0_1 a1 (-1) (-1) t586 _ (Kd.C_below HR0_1.out (BU HB)) HC0_1.out A5.out).mono ?_); rintro e w13 ⟨v587, rfl, ho0, hb⟩; refine ⟨_, rfl, ?_⟩; have HO588 := Fa.mk (Kd.R_lower (Kd.R_new' ho0 (Kd.R_lt (rU HO584))) (below_size (BU HB))); replace HO584 := Fa.mk (Kd.R_elder' (rU HO584) (Kd.R_base ho0) hb); replace BK581 := Fa.mk (blk_below (bU BK581) hb); replace HB := Fa.mk (below_step (BU HB) hb)))
    go_ret2
    exact ⟨_, rfl, by (with_reducible repeat (first | apply Kd.R_alloc | apply Kd.R_drewN | apply Kd.R_drew)); exact Kd.R_mono HO588.out (fun _ hk => trivial), BU HB⟩
  · rw [if_neg c4] at H
    have c4b0 := beq_eq_false_iff_ne.mpr c4
    have c4b1 := bne_iff_ne.mpr c4
    simp only [Option.some.injEq, Prod.mk.injEq] at H
    obtain ⟨rfl, rfl⟩ := H
    go_enter Tryd.func10, Tryd.ntmps10
    go_wp2_with (first | ((with_reducible refine gd 2 rfl ?_); refine box_event ?hg (N := 2) ?hd (cs := #[.int .i64 a0_0, .slice A0_1 l0_1.length c0_1]) (t := 26) ?hr ?_; (case hd => rfl); (case hg => rfl); (case hr => first | (go_simp; done) | (go_simp; rfl)); intro gb581 hg w14 hbox hb; have BK581 := Fa.mk hbox; have GW581 := Fa.mk (bsz hg (BU HB) : w.heap.size ≤ gb581); have GE581 := GW581; replace HB := Fa.mk (below_step (BU HB) hb); clear hb hbox hg; obtain ⟨hcz15_0, hcz15_1, hfz15_0, hfz15_1⟩ := cz2 BK581.out) | ((with_reducible refine gd 9 rfl ?_); refine Kd.R_lit (Kd.int .i64) _ 2 ?hg (N := 9) ?hd (xs := ([a1] : List Int)) (inner := [.int .i64 a1]) (ok := fun _ => True) (okp := fun _ => True) ?hr ?hp (fun _ hk => hk) trivial (Below.refl _ _) (Nat.le_refl _) (by simp) ?_; (case hd => rfl); (case hg => rfl); (case hr => first | (go_simp; done) | (go_simp; rfl)); (case hp => exact (Reps.one (show Kd.M (Kd.int .i64) _ _ _ a1 [.int .i64 a1] from rfl) (Reps.none _ _))); intro v583 w16 ho17 hb hg_ hnew_; clear hg_ hnew_; (first | rw [← Ny582.out] at ho17 | (simp only [Int.reduceToNat] at ho17; rw [← Ny582.out] at ho17)); have HO584 := Fa.mk (Kd.R_lower ho17 (below_size (BU HB))); replace BK581 := Fa.mk (blk_below (bU BK581) hb); replace HB := Fa.mk (below_step (BU HB) hb); clear hb ho17; obtain ⟨Ao18, co18, eo18⟩ := Kd.R_slice HO584.out; subst eo18) | ((with_reducible refine gc 38 rfl ?_); refine gL 10 Tryd.func38 #[.agg #[.int .i64 a0_0, .slice A0_1 l0_1.length c0_1], .slice Ao18 y582.length co18] rfl (by first | rfl | (simp only [mA, mC, mN]; rfl)) ?_; (with_reducible refine (spec_l02Code.calls k a0_0 _ _ l0_1 _ _ y582 t585 _ (Kd.C_below HR0_1.out (BU HB)) HC0_1.out (rC HO584) ((Kd.R_reads' HO584.out).2.1) A3.out).mono ?_); rintro e w19 ⟨rfl, hb⟩; refine ⟨_, rfl, ?_⟩; replace HO584 := Fa.mk (Kd.R_below (rU HO584) hb); replace BK581 := Fa.mk (blk_below (bU BK581) hb); replace HB := Fa.mk (below_step (BU HB) hb)))
    go_ret2
    exact ⟨_, rfl, by first | exact Kd.R_nil _ _ _ _ _ | exact Kd.N_nil _ _ _ _ _ | exact Kd.V_nil _ _ _ _ _ | exact Kd.Q_nil _ _ _ _ _ | exact Kd.S_nil _ _ _ _ _, BU HB⟩

end Go.Proofs.YtockngphfpedkaaDoor.XFnDistances
