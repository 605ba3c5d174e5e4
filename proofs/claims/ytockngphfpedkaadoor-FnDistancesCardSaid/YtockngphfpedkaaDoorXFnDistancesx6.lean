-- Written by this project's own program (mprint.py) by means of the kit's printer: with contracts of its own for the functions that the printer leaves out.
import Derived.Test.YtockngphfpedkaaDoorXFnDistancesx0
import Derived.Test.YtockngphfpedkaaDoorXFnDistancesx1
namespace Go.Proofs.YtockngphfpedkaaDoor.XFnDistances
open Go.RowKit Go.Proofs.YtockngphfpedkaaDoorW.PrintWords Go.Proofs.YtockngphfpedkaaDoorW.PrintLast Go.Proofs.YtockngphfpedkaaDoorW.PrintMore
attribute [local go_sem] max2_int min2_int max_two min_two max_three min_three max_four min_four   -- for this text's walks alone
set_option linter.unusedVariables false
set_option linter.unusedSimpArgs false

/-! ### spec_l01Pick: function 102 -/
def spec_l01Pick.f (s0_0 : List Int) (s0_1 : Int) (s0_2 : Int) (l1 : List Int) : Option (Int × Int × Int) := (spec_l01Next.f s0_0 s0_1 s0_2 (l1.length : Int)).bind fun bt273 => (if 0 ≤ bt273.1 then (if bt273.1 < (l1.length : Int) then (some (rd l1 bt273.1, bt273.2.1, bt273.2.2)) else (none)) else (none))
set_option maxHeartbeats 8000000 in
set_option maxRecDepth 100000 in
theorem spec_l01Pick.calls (g : Nat) (s0_0 : List Int) (s0_1 : Int) (s0_2 : Int) (A1 : Option Addr) (c1 : Nat) (l1 : List Int) (r1 : Int) (r2 : Int) (r3 : Int) (w0 w : World) (hI : IsS92 w0 w g s0_0 s0_1 s0_2) (hB : Below w0.heap.size w0 w) (hr1 : Kd.C (Kd.int .i64) w A1 l1.length l1) (hc1 : l1.length ≤ c1) (hf1 : ∀ ad, A1 = some ad → 0 < l1.length → ad.block ≠ g) (h : spec_l01Pick.f s0_0 s0_1 s0_2 l1 = some (r1, r2, r3)) :
    Calls Tryd.prog 102 #[.pointer (some ⟨g, 0, none⟩), .slice A1 l1.length c1] w fun e w' => e = .returned (.int .i64 r1) ∧ IsS92 w0 w' g s0_0 r2 r3 ∧ Below w0.heap.size w0 w' ∧ KeepBut w w' g none := by
  have HR1 := Fa.mk hr1
  have HC1 := Fa.mk hc1
  clear hr1 hc1
  have HI0 := Fa.mk hI
  have HK := Fa.mk (KeepBut.refl w g none)
  have HL := Fa.mk hB.size
  clear hI
  have HW0 := Fa.mk hB.size
  have HB := Fa.mk hB
  clear hB
  unfold spec_l01Pick.f at h; have H := h
  clear h
  replace H := Option.bind_eq_some_iff.mp H
  obtain ⟨⟨t273, t274, t275⟩, A30, H⟩ := H
  dsimp only at H
  have A3 := Fa.mk A30
  clear A30
  by_cases c4 : 0 ≤ t273
  · rw [if_pos c4] at H
    have c4b0 := decide_eq_true c4
    clear c4
    by_cases c5 : t273 < (l1.length : Int)
    · rw [if_pos c5] at H
      have c5b0 := decide_eq_true c5
      clear c5
      simp only [Option.some.injEq, Prod.mk.injEq] at H
      obtain ⟨rfl, rfl, rfl⟩ := H
      go_enter Tryd.func102, Tryd.ntmps102
      go_wp2_with (first | ((with_reducible refine gc 77 rfl ?_); refine gL 9 Tryd.func77 #[.pointer (some ⟨g, 0, none⟩), .int .i64 (l1.length : Int)] rfl (by first | rfl | (simp only [mA, mC, mN]; rfl)) ?_; (with_reducible refine (spec_l01Next.calls g s0_0 s0_1 s0_2 (l1.length : Int) t273 t274 t275 w0 _ oo (BU HB) A3.out).mono ?_); rintro e w6 ⟨rfl, hi, hb, hk⟩; refine ⟨_, rfl, ?_⟩; replace HI0 := Fa.mk hi; replace HK := Fa.mk (KeepBut.trans (kU HK) hk (.inl rfl)); replace HB := Fa.mk hb; have p276 : 0 ≤ (t273 : Int) := of_decide_eq_true (by assumption); have q276 : t273 < (l1.length : Int) := of_decide_eq_true (by assumption); obtain ⟨ad276, e276, hx276_0⟩ := Kd.at_int HR1.out t273 p276 q276; cases e276; replace hx276_0 := keep_cell HK.out hx276_0 (by first | (rw [add_block]; exact hf1 _ rfl (by omega)) | exact hf1 _ rfl (by omega) | exact hf1 ad276 rfl (by omega)); replace p276 := eq_true p276; replace q276 := eq_true q276))
      go_ret
      exact ⟨rfl, oo, BU HB, kU HK⟩
    · rw [if_neg c5] at H
      exact absurd H (by simp)
  · rw [if_neg c4] at H
    exact absurd H (by simp)

/-! ### spec_l01Has: function 83 -/
def spec_l01Has.f (a0_0 : Int) (l0_1 : List Int) (a1 : Int) (a2 : Int) : Option (Bool) := if 0 ≤ a1 then (if a1 < (l0_1.length : Int) then (if 0 ≤ (IntKind.u64.wrap (a2)) then (some ((Go.bits .and .i64 (shr .i64 (rd l0_1 a1) (IntKind.u64.wrap (a2))) 1) == 1)) else (none)) else (none)) else (none)
set_option maxHeartbeats 8000000 in
set_option maxRecDepth 100000 in
theorem spec_l01Has.calls (a0_0 : Int) (A0_1 : Option Addr) (c0_1 : Nat) (l0_1 : List Int) (a1 : Int) (a2 : Int) (r : Bool) (w : World) (hr0_1 : Kd.C (Kd.int .i64) w A0_1 l0_1.length l0_1) (hc0_1 : l0_1.length ≤ c0_1) (h : spec_l01Has.f a0_0 l0_1 a1 a2 = some r) :
    Calls Tryd.prog 83 #[.agg #[.int .i64 a0_0, .slice A0_1 l0_1.length c0_1], .int .i64 a1, .int .i64 a2] w fun e w' => e = .returned (.bool r) ∧ Below w.heap.size w w' := by
  have hu26 := Tryd.underlying26
  have HR0_1 := Fa.mk hr0_1
  have HC0_1 := Fa.mk hc0_1
  clear hr0_1 hc0_1
  have HB := Fa.mk (Below.refl w.heap.size w)
  unfold spec_l01Has.f at h; have H := h
  clear h
  by_cases c4 : 0 ≤ a1
  · rw [if_pos c4] at H
    have c4b0 := decide_eq_true c4
    clear c4
    by_cases c5 : a1 < (l0_1.length : Int)
    · rw [if_pos c5] at H
      have c5b0 := decide_eq_true c5
      clear c5
      obtain ⟨ji6, hji6⟩ : ∃ j_ : Int, (IntKind.u64.wrap (a2)) = j_ := ⟨_, rfl⟩
      rw [hji6] at H
      by_cases c7 : 0 ≤ (ji6)
      · rw [if_pos c7] at H
        have c7b0 := eq_true c7
        have c7b1 := decide_eq_true c7
        clear c7
        obtain ⟨ji8, hji8⟩ : ∃ j_ : Int, (shr .i64 (rd l0_1 a1) (ji6)) = j_ := ⟨_, rfl⟩
        rw [hji8] at H
        have hji8_ : ((rd l0_1 a1) / 2 ^ min (ji6).toNat 64) = ji8 := hji8
        have hji8z : (ji6) ≤ 64 → ((rd l0_1 a1) / 2 ^ (ji6).toNat) = ji8 := shr_small hji8
        obtain rfl := Option.some.inj H
        go_enter Tryd.func83, Tryd.ntmps83
        go_wp2_with (first | ((with_reducible refine gd 3 rfl ?_); refine box_event ?hg (N := 3) ?hd (cs := #[.int .i64 a0_0, .slice A0_1 l0_1.length c0_1]) (t := 26) ?hr ?_; (case hd => rfl); (case hg => rfl); (case hr => first | (go_simp; done) | (go_simp; rfl)); intro gb277 hg w9 hbox hb; have BK277 := Fa.mk hbox; have GW277 := Fa.mk (bsz hg (BU HB) : w.heap.size ≤ gb277); have GE277 := GW277; replace HB := Fa.mk (below_step (BU HB) hb); clear hb hbox hg; obtain ⟨hcz10_0, hcz10_1, hfz10_0, hfz10_1⟩ := cz2 BK277.out; have p278 : 0 ≤ (a1 : Int) := of_decide_eq_true (by assumption); have q278 : a1 < (l0_1.length : Int) := of_decide_eq_true (by assumption); obtain ⟨ad278, e278, hx278_0⟩ := Kd.at_int HR0_1.out a1 p278 q278; cases e278; replace hx278_0 := (HB.out.cell (World.block_lt_of_cell? w _ hx278_0)).trans hx278_0; replace p278 := eq_true p278; replace q278 := eq_true q278))
        go_ret
        exact ⟨rfl, BU HB⟩
      · rw [if_neg c7] at H
        exact absurd H (by simp)
    · rw [if_neg c5] at H
      exact absurd H (by simp)
  · rw [if_neg c4] at H
    exact absurd H (by simp)

/-! ### spec_l01Renamed: function 104 -/
mutual
def spec_l01Renamed.l0 : Nat → List Int → Int → Int → List Int → Int → List Int → Option (Int × List Int)
  | 0, _, _, _, _, _, _ => none
  | k + 1, x1, x6, x280000, x280001, x286000, x286001 => if x6 < x280000 then (spec_l01Renamed.l1 k x1 x6 0 x280000 x280001 x286000 x286001) else (some (x286000, x286001))
def spec_l01Renamed.l1 : Nat → List Int → Int → Int → Int → List Int → Int → List Int → Option (Int × List Int)
  | 0, _, _, _, _, _, _, _ => none
  | k + 1, x1, x6, x7, x280000, x280001, x286000, x286001 => if x7 < x6 then ((spec_l01Has.f x280000 x280001 x6 x7).bind fun t286 => (if t286 = true then (if 0 ≤ x6 then (if x6 < (x1.length : Int) then (if 0 ≤ x7 then (if x7 < (x1.length : Int) then ((spec_l01Put.f x286000 x286001 (rd x1 x6) (rd x1 x7)).bind fun t289 => (spec_l01Renamed.l1 k x1 x6 (wrap64 (x7 + 1)) x280000 x280001 x286000 t289)) else (none)) else (none)) else (none)) else (none)) else (spec_l01Renamed.l1 k x1 x6 (wrap64 (x7 + 1)) x280000 x280001 x286000 x286001))) else (spec_l01Renamed.l0 k x1 (wrap64 (x6 + 1)) x280000 x280001 x286000 x286001)
end
def spec_l01Renamed.f (k : Nat) (a0_0 : Int) (l0_1 : List Int) (l1 : List Int) : Option (Int × List Int) := (spec_l01Empty.f a0_0).bind fun bt281 => (spec_l01Renamed.l0 k l1 0 a0_0 l0_1 bt281.1 bt281.2)
def spec_l01Renamed.T9 : Bool × List (List Nat × List Nat) := (true, [([], []), ([], []), ([], []), ([1, 2], [1, 2]), ([3], [3]), ([], []), ([], []), ([5, 6], [5, 6]), ([7], [7]), ([0, 4, 8], [0, 4, 8])])
def spec_l01Renamed.B9 : List Nat := [0, 0, 0, 6, 14, 0, 0, 96, 224, 511]
theorem spec_l01Renamed.tab9 : rtab .any (opsOf Tryd.f104 9) = spec_l01Renamed.T9 := by kernel_rfl
theorem spec_l01Renamed.bits9 : waitsOk spec_l01Renamed.T9.2 spec_l01Renamed.B9 = true := by kernel_rfl
set_option maxHeartbeats 8000000 in
set_option maxRecDepth 100000 in
theorem spec_l01Renamed.calls (k : Nat) (a0_0 : Int) (A0_1 : Option Addr) (c0_1 : Nat) (l0_1 : List Int) (A1 : Option Addr) (c1 : Nat) (l1 : List Int) (r1 : Int) (r2 : List Int) (w : World) (hr0_1 : Kd.C (Kd.int .i64) w A0_1 l0_1.length l0_1) (hc0_1 : l0_1.length ≤ c0_1) (hr1 : Kd.C (Kd.int .i64) w A1 l1.length l1) (hc1 : l1.length ≤ c1) (h : spec_l01Renamed.f k a0_0 l0_1 l1 = some (r1, r2)) :
    Calls Tryd.prog 104 #[.agg #[.int .i64 a0_0, .slice A0_1 l0_1.length c0_1], .slice A1 l1.length c1] w fun e w' => ∃ v1_ : Value, e = .returned (.agg #[.int .i64 r1, v1_]) ∧ Kd.R (Kd.int .i64) 2 w' w.heap.size (fun _ => True) v1_ r2 ∧ Below w.heap.size w w' := by
  have hu26 := Tryd.underlying26
  have HR0_1 := Fa.mk hr0_1
  have HC0_1 := Fa.mk hc0_1
  clear hr0_1 hc0_1
  have HR1 := Fa.mk hr1
  have HC1 := Fa.mk hc1
  clear hr1 hc1
  have HB := Fa.mk (Below.refl w.heap.size w)
  unfold spec_l01Renamed.f at h; have H := h
  clear h
  replace H := Option.bind_eq_some_iff.mp H
  obtain ⟨⟨t281, t282⟩, A30, H⟩ := H
  dsimp only at H
  have A3 := Fa.mk A30
  clear A30
  have H' := Fa.mk H
  clear H
  go_enter Tryd.func104, Tryd.ntmps104
  go_wp2_with (first | ((with_reducible refine gd 2 rfl ?_); refine box_event ?hg (N := 2) ?hd (cs := #[.int .i64 a0_0, .slice A0_1 l0_1.length c0_1]) (t := 26) ?hr ?_; (case hd => rfl); (case hg => rfl); (case hr => first | (go_simp; done) | (go_simp; rfl)); intro gb279 hg w4 hbox hb; have BK279 := Fa.mk hbox; have GW279 := Fa.mk (bsz hg (BU HB) : w.heap.size ≤ gb279); have GE279 := GW279; replace HB := Fa.mk (below_step (BU HB) hb); clear hb hbox hg) | ((with_reducible refine gd 4 rfl ?_); refine box_event ?hg (N := 4) ?hd (cs := #[.int .i64 0, .slice none 0 0]) (t := 26) ?hr ?_; (case hd => rfl); (case hg => rfl); (case hr => first | (go_simp; done) | (go_simp; rfl)); intro gb280 hg w5 hbox hb; have BK280 := Fa.mk hbox; have GW280 := Fa.mk (bsz hg (BU HB) : w.heap.size ≤ gb280); have GE280 := GW280; have NB279_280 := Fa.mk ((by rw [hg]; exact Nat.ne_of_lt (blk_lt (bU BK279)) : gb279 ≠ gb280)); have NB280_279 := Fa.mk ((by rw [hg]; exact Nat.ne_of_gt (blk_lt (bU BK279)) : gb280 ≠ gb279)); replace BK279 := Fa.mk (blk_below (bU BK279) hb); replace HB := Fa.mk (below_step (BU HB) hb); clear hb hbox hg; have hnb6 := NB279_280.out; have hnc6 := NB280_279.out; obtain ⟨hcz7_0, hcz7_1, hfz7_0, hfz7_1⟩ := cz2 BK279.out) | ((with_reducible refine gc 68 rfl ?_); refine gL 10 Tryd.func68 #[.int .i64 a0_0] rfl (by first | rfl | (simp only [mA, mC, mN]; rfl)) ?_; (with_reducible refine (spec_l01Empty.calls a0_0 t281 t282 _ A3.out).mono ?_); rintro e w8 ⟨v283, rfl, ho0, hb⟩; refine ⟨_, rfl, ?_⟩; have HO284 := Fa.mk (Kd.R_lower ho0 (below_size (BU HB))); replace BK279 := Fa.mk (blk_below (bU BK279) hb); replace BK280 := Fa.mk (blk_below (bU BK280) hb); replace HB := Fa.mk (below_step (BU HB) hb)) | ((with_reducible refine gd 5 rfl ?_); refine box_event ?hg (N := 5) ?hd (cs := #[.int .i64 0, .slice none 0 0]) (t := 26) ?hr ?_; (case hd => rfl); (case hg => rfl); (case hr => first | (go_simp; done) | (go_simp; rfl)); intro gb285 hg w9 hbox hb; replace HO284 := Fa.mk (Kd.R_below (rU HO284) hb); have BK285 := Fa.mk hbox; have GW285 := Fa.mk (bsz hg (BU HB) : w.heap.size ≤ gb285); have GE285 := GW285; have NB279_285 := Fa.mk ((by rw [hg]; exact Nat.ne_of_lt (blk_lt (bU BK279)) : gb279 ≠ gb285)); have NB285_279 := Fa.mk ((by rw [hg]; exact Nat.ne_of_gt (blk_lt (bU BK279)) : gb285 ≠ gb279)); replace BK279 := Fa.mk (blk_below (bU BK279) hb); have NB280_285 := Fa.mk ((by rw [hg]; exact Nat.ne_of_lt (blk_lt (bU BK280)) : gb280 ≠ gb285)); have NB285_280 := Fa.mk ((by rw [hg]; exact Nat.ne_of_gt (blk_lt (bU BK280)) : gb285 ≠ gb280)); replace BK280 := Fa.mk (blk_below (bU BK280) hb); replace HB := Fa.mk (below_step (BU HB) hb); clear hb hbox hg; have hnb10 := NB285_279.out; have hnc10 := NB279_285.out; have hnb11 := NB285_280.out; have hnc11 := NB280_285.out; obtain ⟨hcz12_0, hcz12_1, hfz12_0, hfz12_1⟩ := cz2 BK285.out; obtain ⟨Ao13, co13, eo13⟩ := Kd.R_slice HO284.out; subst eo13))
  go_loopg [6] k (fun kq v6 w' => ∃ (x6_1 : Int) (x286001_1 : List Int) (u286001 : Value), v6 = .int .i64 x6_1 ∧ Fa (spec_l01Renamed.l0 kq l1 x6_1 a0_0 l0_1 t281 x286001_1 = some (r1, r2)) ∧ Fa (kq ≤ k) ∧ Fa (Kd.R (Kd.int .i64) 2 w' w.heap.size (fun _ => True) u286001 x286001_1) ∧ Fa (w'.heap[gb279]? = some (.cells #[.int .i64 a0_0, (.slice A0_1 l0_1.length c0_1)] 26 (0, 0))) ∧ Fa (w'.heap[gb280]? = some (.cells #[.int .i64 0, (.slice none 0 0)] 26 (0, 0))) ∧ Fa (w'.heap[gb285]? = some (.cells #[.int .i64 t281, u286001] 26 (0, 0))) ∧ Fa (Below w.heap.size w w'))
  case atStart => exact ⟨(0), (t282), (.slice Ao13 t282.length co13), rfl, H', ⟨Nat.le_refl _⟩, ⟨by (with_reducible repeat (first | apply Kd.R_alloc | apply Kd.R_drewN | apply Kd.R_drew)); exact Kd.R_mono (Kd.R_far (p := ⟨gb285, 1, none⟩) (Kd.R_far (p := ⟨gb285, 0, none⟩) (Kd.R_types HO284.out BK285.out (by decide)) (fun _ hk => hk.2) (.int .i64 t281)) (fun _ hk => hk.2) (.slice Ao13 t282.length co13)) (fun _ hk => trivial)⟩, ⟨by (with_reducible repeat (first | refine blk_drewN ?_ _ | refine blk_drew ?_ | refine blk_alloc ?_ _)); refine blk_far ?_ NB279_285.out _; (with_reducible repeat (first | refine blk_drewN ?_ _ | refine blk_drew ?_ | refine blk_alloc ?_ _)); refine blk_far ?_ NB279_285.out _; (with_reducible repeat (first | refine blk_drewN ?_ _ | refine blk_drew ?_ | refine blk_alloc ?_ _)); exact BK279.out⟩, ⟨by (with_reducible repeat (first | refine blk_drewN ?_ _ | refine blk_drew ?_ | refine blk_alloc ?_ _)); refine blk_far ?_ NB280_285.out _; (with_reducible repeat (first | refine blk_drewN ?_ _ | refine blk_drew ?_ | refine blk_alloc ?_ _)); refine blk_far ?_ NB280_285.out _; (with_reducible repeat (first | refine blk_drewN ?_ _ | refine blk_drew ?_ | refine blk_alloc ?_ _)); exact BK280.out⟩, ⟨oo⟩, ⟨BU HB⟩⟩
  case round =>
    clear H'
    obtain ⟨x6_1, x286001_1, u286001, rfl, HA, HK1, HO_286001, BK279, BK280, BK285, HB⟩ := hrel
    cases gk with
    | zero => exact absurd HA.out (by simp [spec_l01Renamed.l0])
    | succ k1 =>
      have H := HA.out
      clear HA
      simp only [spec_l01Renamed.l0] at H
      by_cases c14 : x6_1 < a0_0
      · rw [if_pos c14] at H
        have c14b0 := decide_eq_true c14
        clear c14
        have H' := Fa.mk H
        clear H
        have hnb15 := NB279_280.out
        have hnc15 := NB280_279.out
        have hnb16 := NB279_285.out
        have hnc16 := NB285_279.out
        obtain ⟨hcz17_0, hcz17_1, hfz17_0, hfz17_1⟩ := cz2 BK279.out
        go_wp2
        go_loopg [7] k1 (fun kq v7 w' => ∃ (x7_2 : Int) (x286001_2 : List Int) (u286001 : Value), v7 = .int .i64 x7_2 ∧ Fa (spec_l01Renamed.l1 kq l1 x6_1 x7_2 a0_0 l0_1 t281 x286001_2 = some (r1, r2)) ∧ Fa (kq ≤ k1) ∧ Fa (Kd.R (Kd.int .i64) 2 w' w.heap.size (fun _ => True) u286001 x286001_2) ∧ Fa (w'.heap[gb279]? = some (.cells #[.int .i64 a0_0, (.slice A0_1 l0_1.length c0_1)] 26 (0, 0))) ∧ Fa (w'.heap[gb280]? = some (.cells #[.int .i64 0, (.slice none 0 0)] 26 (0, 0))) ∧ Fa (w'.heap[gb285]? = some (.cells #[.int .i64 t281, u286001] 26 (0, 0))) ∧ Fa (Below w.heap.size w w'))
        case atStart => exact ⟨(0), (x286001_1), (u286001), rfl, H', ⟨Nat.le_refl _⟩, ⟨rU HO_286001⟩, ⟨bU BK279⟩, ⟨bU BK280⟩, ⟨bU BK285⟩, ⟨BU HB⟩⟩
        case round =>
          clear H'
          obtain ⟨x7_2, x286001_2, u286001, rfl, HA, HK2, HO_286001, BK279, BK280, BK285, HB⟩ := hrel
          cases gk with
          | zero => exact absurd HA.out (by simp [spec_l01Renamed.l1])
          | succ k2 =>
            have H := HA.out
            clear HA
            simp only [spec_l01Renamed.l1] at H
            by_cases c18 : x7_2 < x6_1
            · rw [if_pos c18] at H
              have c18b0 := decide_eq_true c18
              clear c18
              replace H := Option.bind_eq_some_iff.mp H
              obtain ⟨t286, A190, H⟩ := H
              replace H : (if t286 = true then (if 0 ≤ x6_1 then (if x6_1 < (l1.length : Int) then (if 0 ≤ x7_2 then (if x7_2 < (l1.length : Int) then ((spec_l01Put.f t281 x286001_2 (rd l1 x6_1) (rd l1 x7_2)).bind fun t289 => (spec_l01Renamed.l1 k2 l1 x6_1 (wrap64 (x7_2 + 1)) a0_0 l0_1 t281 t289)) else (none)) else (none)) else (none)) else (none)) else (spec_l01Renamed.l1 k2 l1 x6_1 (wrap64 (x7_2 + 1)) a0_0 l0_1 t281 x286001_2)) = some (r1, r2) := H
              have A19 := Fa.mk A190
              clear A190
              by_cases c20 : t286 = true
              · subst c20
                have H1 : (if 0 ≤ x6_1 then (if x6_1 < (l1.length : Int) then (if 0 ≤ x7_2 then (if x7_2 < (l1.length : Int) then ((spec_l01Put.f t281 x286001_2 (rd l1 x6_1) (rd l1 x7_2)).bind fun t289 => (spec_l01Renamed.l1 k2 l1 x6_1 (wrap64 (x7_2 + 1)) a0_0 l0_1 t281 t289)) else (none)) else (none)) else (none)) else (none)) = some (r1, r2) := by rw [if_pos rfl] at H; exact H
                clear H
                have H := H1
                clear H1
                by_cases c21 : 0 ≤ x6_1
                · rw [if_pos c21] at H
                  have c21b0 := decide_eq_true c21
                  clear c21
                  by_cases c22 : x6_1 < (l1.length : Int)
                  · rw [if_pos c22] at H
                    have c22b0 := decide_eq_true c22
                    clear c22
                    by_cases c23 : 0 ≤ x7_2
                    · rw [if_pos c23] at H
                      have c23b0 := decide_eq_true c23
                      clear c23
                      by_cases c24 : x7_2 < (l1.length : Int)
                      · rw [if_pos c24] at H
                        have c24b0 := decide_eq_true c24
                        clear c24
                        replace H := Option.bind_eq_some_iff.mp H
                        obtain ⟨t289, A250, H⟩ := H
                        replace H : (spec_l01Renamed.l1 k2 l1 x6_1 (wrap64 (x7_2 + 1)) a0_0 l0_1 t281 t289) = some (r1, r2) := H
                        have A25 := Fa.mk A250
                        clear A250
                        have H' := Fa.mk H
                        clear H
                        have hnb26 := NB279_280.out
                        have hnc26 := NB280_279.out
                        have hnb27 := NB279_285.out
                        have hnc27 := NB285_279.out
                        obtain ⟨hcz28_0, hcz28_1, hfz28_0, hfz28_1⟩ := cz2 BK279.out
                        try go_wp2_with (first | ((with_reducible refine gc 83 rfl ?_); refine gL 25 Tryd.func83 #[.agg #[.int .i64 a0_0, .slice A0_1 l0_1.length c0_1], .int .i64 x6_1, .int .i64 x7_2] rfl (by first | rfl | (simp only [mA, mC, mN]; rfl)) ?_; (with_reducible refine (spec_l01Has.calls a0_0 _ _ l0_1 x6_1 x7_2 true _ (Kd.C_below HR0_1.out (BU HB)) HC0_1.out A19.out).mono ?_); rintro e w29 ⟨rfl, hb⟩; refine ⟨_, rfl, ?_⟩; replace HO_286001 := Fa.mk (Kd.R_below (rU HO_286001) hb); replace BK279 := Fa.mk (blk_below (bU BK279) hb); replace BK280 := Fa.mk (blk_below (bU BK280) hb); replace BK285 := Fa.mk (blk_below (bU BK285) hb); replace HB := Fa.mk (below_step (BU HB) hb)))
                        replace HO_286001 := Fa.mk (Kd.R_drew HO_286001.out); replace BK279 := Fa.mk (blk_drew BK279.out); replace BK280 := Fa.mk (blk_drew BK280.out); replace BK285 := Fa.mk (blk_drew BK285.out); replace HB := Fa.mk (below_drew1 HB.out)
                        have p287 : 0 ≤ (x6_1 : Int) := of_decide_eq_true (by assumption)
                        have q287 : x6_1 < (l1.length : Int) := of_decide_eq_true (by assumption)
                        obtain ⟨ad287, e287, hx287_0⟩ := Kd.at_int HR1.out x6_1 p287 q287
                        have hw287_0 := hx287_0
                        cases e287
                        replace hx287_0 := (HB.out.cell (World.block_lt_of_cell? w _ hx287_0)).trans hx287_0
                        replace p287 := eq_true p287
                        replace q287 := eq_true q287
                        have p288 : 0 ≤ (x7_2 : Int) := of_decide_eq_true (by assumption)
                        have q288 : x7_2 < (l1.length : Int) := of_decide_eq_true (by assumption)
                        obtain ⟨ad288, e288, hx288_0⟩ := Kd.at_int HR1.out x7_2 p288 q288
                        have hw288_0 := hx288_0
                        obtain rfl : ad287 = ad288 := (by injection e288)
                        replace hx288_0 := (HB.out.cell (World.block_lt_of_cell? w _ hx288_0)).trans hx288_0
                        replace p288 := eq_true p288
                        replace q288 := eq_true q288
                        obtain ⟨Ao31, co31, eo31⟩ := Kd.R_slice HO_286001.out
                        (first | subst eo31 | (injection eo31 with f1_ f2_ f3_; have f4_ := f1_.symm; have f5_ := f3_.symm; clear f1_ f2_ f3_; subst f4_; subst f5_))
                        refine start_ (n := 10) (S := fun w' => w'.cell? ⟨gb285, 0, none⟩ = some (.int .i64 t281) ∧ w'.cell? ⟨gb285, 1, none⟩ = some (.slice Ao31 x286001_2.length co31) ∧ w'.cell? (ad287.add (x6_1).toNat) = some (.int .i64 (rd l1 x6_1)) ∧ w'.cell? (ad287.add (x7_2).toNat) = some (.int .i64 (rd l1 x7_2))) (ds := []) #[ff, ff, ff, ff, ff, ff, ff, ff, ff, ff] (by kernel_rfl) rfl rfl ⟨(blk_cell BK285.out 0).trans rfl, (blk_cell BK285.out 1).trans rfl, ((HB.out.cell (World.block_lt_of_cell? _ _ hw287_0)).trans hw287_0), ((HB.out.cell (World.block_lt_of_cell? _ _ hw288_0)).trans hw288_0)⟩ (fun hHeld => ?_); refine with_tabW spec_l01Renamed.tab9 spec_l01Renamed.bits9 (fun HT_ HW_ => ?_)
                        generalize w29.drew = w30 at HO_286001 BK279 BK280 BK285 HB hx287_0 hx288_0 hHeld ⊢
                        refine pu 1 27 ?_ #[ff, tt, ff, ff, ff, ff, ff, ff, ff, ff] rfl rfl (any_of HT_.out (by kernel_rfl)) (Or.inl ⟨by rfl, ?_⟩) ?_ ?_ ?_; rotate_left; intro w'; go_simp; with_reducible rfl; rotate_left; simp only [Act.put, sA, sZ, sC, i64_w, i32_w]; rfl
                        refine pu 2 28 ?_ #[ff, tt, tt, ff, ff, ff, ff, ff, ff, ff] rfl rfl (any_of HT_.out (by kernel_rfl)) (Or.inl ⟨by rfl, ?_⟩) ?_ ?_ ?_; rotate_left; intro w'; go_simp; with_reducible rfl; rotate_left; simp only [Act.put, sA, sZ, sC, i64_w, i32_w]; rfl
                        refine pu 3 29 ?_ #[ff, tt, tt, tt, ff, ff, ff, ff, ff, ff] rfl rfl (any_of HT_.out (by kernel_rfl)) (Or.inl ⟨by rfl, ?_⟩) ?_ ?_ ?_; rotate_left; intro w'; go_simp; with_reducible rfl; rotate_left; simp only [Act.put, sA, sZ, sC, i64_w, i32_w]; rfl
                        refine pu 5 31 ?_ #[ff, tt, tt, tt, ff, tt, ff, ff, ff, ff] rfl rfl (any_of HT_.out (by kernel_rfl)) (Or.inl ⟨by rfl, ?_⟩) ?_ ?_ ?_; rotate_left; intro w'; go_simp; with_reducible rfl; rotate_left; simp only [Act.put, sA, sZ, sC, i64_w, i32_w]; rfl
                        refine pu 6 32 ?_ #[ff, tt, tt, tt, ff, tt, tt, ff, ff, ff] rfl rfl (any_of HT_.out (by kernel_rfl)) (Or.inl ⟨by rfl, ?_⟩) ?_ ?_ ?_; rotate_left; intro w'; go_simp; with_reducible rfl; rotate_left; simp only [Act.put, sA, sZ, sC, i64_w, i32_w]; rfl
                        refine pu 7 33 ?_ #[ff, tt, tt, tt, ff, tt, tt, tt, ff, ff] rfl rfl (any_of HT_.out (by kernel_rfl)) (Or.inl ⟨by rfl, ?_⟩) ?_ ?_ ?_; rotate_left; intro w'; go_simp; with_reducible rfl; rotate_left; simp only [Act.put, sA, sZ, sC, i64_w, i32_w]; rfl
                        refine tk 0 26 ?_ #[tt, tt, tt, tt, ff, tt, tt, tt, ff, ff] rfl rfl (take_ofW HT_.out HW_.out (by kernel_rfl)) (Or.inl ⟨by rfl, ?_⟩) hHeld ?_ ?_ ?_; rotate_left; rintro w' ⟨s0, s1, s2, s3⟩; go_simp; with_reducible rfl; rotate_left; simp only [Act.put, sA, sZ, sC, i64_w, i32_w]; rfl
                        refine tk 4 30 ?_ #[tt, tt, tt, tt, tt, tt, tt, tt, ff, ff] rfl rfl (take_ofW HT_.out HW_.out (by kernel_rfl)) (Or.inl ⟨by rfl, ?_⟩) hHeld ?_ ?_ ?_; rotate_left; rintro w' ⟨s0, s1, s2, s3⟩; go_simp; with_reducible rfl; rotate_left; simp only [Act.put, sA, sZ, sC, i64_w, i32_w]; rfl
                        refine tk 8 34 ?_ #[tt, tt, tt, tt, tt, tt, tt, tt, tt, ff] rfl rfl (take_ofW HT_.out HW_.out (by kernel_rfl)) (Or.inl ⟨by rfl, ?_⟩) hHeld ?_ ?_ ?_; rotate_left; rintro w' ⟨s0, s1, s2, s3⟩; go_simp; with_reducible rfl; rotate_left; simp only [Act.put, sA, sZ, sC, i64_w, i32_w]; rfl
                        refine one_ (i := 9) (N := some 35) #[tt, tt, tt, tt, tt, tt, tt, tt, tt, tt] rfl rfl (one_of HT_.out (by kernel_rfl)) (by decide) (fun K hK => ?_)
                        refine goes_ Tryd.func86 (by kernel_rfl) rfl #[.agg #[.int .i64 t281, .slice Ao31 x286001_2.length co31], .int .i64 (rd l1 x6_1), .int .i64 (rd l1 x7_2)] (by rfl) rfl rfl (by first | rfl | (simp only [mA, mC, mN]; rfl)) ?_
                        with_reducible refine (spec_l01Put.calls t281 (fun k_ => some k_ = (.slice Ao31 x286001_2.length co31 : Value).ownBlock) (.slice Ao31 x286001_2.length co31) x286001_2 (rd l1 x6_1) (rd l1 x7_2) t289 w _ ?side1 ?side2 A25.out).mono ?_
                        (case side1 => exact BU HB)
                        (case side2 => exact Kd.R_tight rfl HO_286001.out)
                        rintro e w32 ⟨rfl, hy0, hb, hkp⟩
                        refine ⟨_, rfl, ?_⟩
                        replace BK279 := Fa.mk (blk_kept (bU BK279) hkp (fun hs_ => (fun e_ => (Kd.R_ne HO_286001.out BK279.out (by decide)) e_) hs_)); replace BK280 := Fa.mk (blk_kept (bU BK280) hkp (fun hs_ => (fun e_ => (Kd.R_ne HO_286001.out BK280.out (by decide)) e_) hs_)); replace BK285 := Fa.mk (blk_kept (bU BK285) hkp (fun hs_ => (fun e_ => (Kd.R_ne HO_286001.out BK285.out (by decide)) e_) hs_)); replace HO_286001 := Fa.mk (Kd.R_reok rfl hy0 (fun k_ e_ => HO_286001.out.1 k_ e_)); replace HB := Fa.mk hb
                        refine hK.out _ _ ⟨(blk_cell BK285.out 0).trans rfl, (blk_cell BK285.out 1).trans rfl, ((HB.out.cell (World.block_lt_of_cell? _ _ hw287_0)).trans hw287_0), ((HB.out.cell (World.block_lt_of_cell? _ _ hw288_0)).trans hw288_0)⟩ (fun hHeld => ?_)
                        clear hK K
                        refine norm_ (a' := ?_) ?_ ?_
                        rotate_left
                        · show Act.put _ (some 35) _ = _
                          simp only [Act.put, sA, sZ, sC, i64_w, i32_w]
                          rfl
                        refine done_ (done_of HT_.out (by kernel_rfl)) ?_
                        try go_wp2
                        go_roundg k2
                        case measure => have := HK1.out; have := HK2.out; omega
                        case rel => exact ⟨(wrap64 (x7_2 + 1)), (t289), (.slice Ao31 x286001_2.length co31), rfl, H', ⟨by have := HK1.out; have := HK2.out; omega⟩, ⟨rU HO_286001⟩, ⟨bU BK279⟩, ⟨bU BK280⟩, ⟨bU BK285⟩, ⟨BU HB⟩⟩
                      · rw [if_neg c24] at H
                        exact absurd H (by simp)
                    · rw [if_neg c23] at H
                      exact absurd H (by simp)
                  · rw [if_neg c22] at H
                    exact absurd H (by simp)
                · rw [if_neg c21] at H
                  exact absurd H (by simp)
              · replace c20 := Bool.eq_false_iff.mpr c20
                subst c20
                have H1 : (spec_l01Renamed.l1 k2 l1 x6_1 (wrap64 (x7_2 + 1)) a0_0 l0_1 t281 x286001_2) = some (r1, r2) := by rw [if_neg (show ¬ (false = true) by decide)] at H; exact H
                clear H
                have H := H1
                clear H1
                have H' := Fa.mk H
                clear H
                have hnb33 := NB279_280.out
                have hnc33 := NB280_279.out
                have hnb34 := NB279_285.out
                have hnc34 := NB285_279.out
                obtain ⟨hcz35_0, hcz35_1, hfz35_0, hfz35_1⟩ := cz2 BK279.out
                go_wp2_with (first | ((with_reducible refine gc 83 rfl ?_); refine gL 25 Tryd.func83 #[.agg #[.int .i64 a0_0, .slice A0_1 l0_1.length c0_1], .int .i64 x6_1, .int .i64 x7_2] rfl (by first | rfl | (simp only [mA, mC, mN]; rfl)) ?_; (with_reducible refine (spec_l01Has.calls a0_0 _ _ l0_1 x6_1 x7_2 false _ (Kd.C_below HR0_1.out (BU HB)) HC0_1.out A19.out).mono ?_); rintro e w36 ⟨rfl, hb⟩; refine ⟨_, rfl, ?_⟩; replace HO_286001 := Fa.mk (Kd.R_below (rU HO_286001) hb); replace BK279 := Fa.mk (blk_below (bU BK279) hb); replace BK280 := Fa.mk (blk_below (bU BK280) hb); replace BK285 := Fa.mk (blk_below (bU BK285) hb); replace HB := Fa.mk (below_step (BU HB) hb)))
                go_roundg k2
                case measure => have := HK1.out; have := HK2.out; omega
                case rel => exact ⟨(wrap64 (x7_2 + 1)), (x286001_2), (u286001), rfl, H', ⟨by have := HK1.out; have := HK2.out; omega⟩, ⟨rU HO_286001⟩, ⟨bU BK279⟩, ⟨bU BK280⟩, ⟨bU BK285⟩, ⟨BU HB⟩⟩
            · rw [if_neg c18] at H
              have c18b0 := decide_eq_false c18
              clear c18
              have H' := Fa.mk H
              clear H
              go_wp2
              go_roundg k2
              case measure => have := HK1.out; have := HK2.out; omega
              case rel => exact ⟨(wrap64 (x6_1 + 1)), (x286001_2), (u286001), rfl, H', ⟨by have := HK1.out; have := HK2.out; omega⟩, ⟨rU HO_286001⟩, ⟨bU BK279⟩, ⟨bU BK280⟩, ⟨bU BK285⟩, ⟨BU HB⟩⟩
      · rw [if_neg c14] at H
        have c14b0 := decide_eq_false c14
        clear c14
        simp only [Option.some.injEq, Prod.mk.injEq] at H
        obtain ⟨rfl, rfl⟩ := H
        have hnb37 := NB279_280.out
        have hnc37 := NB280_279.out
        have hnb38 := NB279_285.out
        have hnc38 := NB285_279.out
        obtain ⟨hcz39_0, hcz39_1, hfz39_0, hfz39_1⟩ := cz2 BK279.out
        have hnb40 := NB285_280.out
        have hnc40 := NB280_285.out
        obtain ⟨hcz41_0, hcz41_1, hfz41_0, hfz41_1⟩ := cz2 BK285.out
        obtain ⟨hcz42_0, hcz42_1, hfz42_0, hfz42_1⟩ := cz2 BK280.out
        obtain ⟨Ao43, co43, eo43⟩ := Kd.R_slice HO_286001.out
        subst eo43
        go_wp2
        refine bodyPost_ret (results_cell_row rfl _ _ gb280 26 #[.int .i64 t281, .slice Ao43 x286001_1.length co43] (0, 0) _ rfl oo Tryd.underlying26 rfl (by kernel_rfl)) rfl ?_
        exact ⟨_, rfl, by (with_reducible repeat (first | apply Kd.R_alloc | apply Kd.R_drewN | apply Kd.R_drew)); exact Kd.R_mono (Kd.R_far (p := ⟨gb280, 1, none⟩) (Kd.R_far (p := ⟨gb280, 0, none⟩) (Kd.R_types HO_286001.out BK280.out (by decide)) (fun _ hk => hk.2) (.int .i64 t281)) (fun _ hk => hk.2) (.slice Ao43 x286001_1.length co43)) (fun _ hk => trivial), BU HB⟩

end Go.Proofs.YtockngphfpedkaaDoor.XFnDistances
