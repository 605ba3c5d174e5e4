-- Written by this project's own program (mprint.py) by means of the kit's printer: with contracts of its own for the functions that the printer leaves out.
import Derived.Test.YtdieobmhmkdjmaaXFnExactWalkGirthx0
import Derived.Test.YtdieobmhmkdjmaaXFnExactWalkGirthx2
namespace Go.Proofs.Ytdieobmhmkdjmaa.XFnExactWalkGirth
open Go.RowKit Go.Proofs.YtdieobmhmkdjmaaW.PrintWords Go.Proofs.YtdieobmhmkdjmaaW.PrintLast Go.Proofs.YtdieobmhmkdjmaaW.PrintMore
attribute [local go_sem] max2_int min2_int max_two min_two max_three min_three max_four min_four   -- for this text's walks alone
set_option linter.unusedVariables false
set_option linter.unusedSimpArgs false

/-! ### spec_l03Levels: function 54 -/
mutual
def spec_l03Levels.l0 : Nat → Int → Int → Int → Int → Int → Int → List (S60) → Option (Int)
  | 0, _, _, _, _, _, _, _ => none
  | k + 1, x3, x4, x5, x6, x140000, x140001, x140002 => if x6 < x3 then ((spec_l03Step.f x140000 x140001 x140002 x6).bind fun bt140 => (if 0 ≤ (wrap64 (x3 * x4)) then (if (wrap64 (x3 * x4) : Int).toNat ≤ 281474976710656 then ((some (List.replicate (wrap64 (x3 * x4) : Int).toNat false : List Bool)).bind fun y143 => (if 0 ≤ (wrap64 ((wrap64 (x6 * x4)) + bt140.2.2)) then (if (wrap64 ((wrap64 (x6 * x4)) + bt140.2.2)) < (y143.length : Int) then (spec_l03Levels.l1 k x3 x4 x5 x6 bt140.1 (y143.set ((wrap64 ((wrap64 (x6 * x4)) + bt140.2.2)) : Int).toNat true) 1 x140000 x140001 x140002) else (none)) else (none))) else (none)) else (none))) else (some x5)
def spec_l03Levels.l1 : Nat → Int → Int → Int → Int → Int → List Bool → Int → Int → Int → List (S60) → Option (Int)
  | 0, _, _, _, _, _, _, _, _, _, _ => none
  | k + 1, x3, x4, x5, x6, x7, x10, x11, x140000, x140001, x140002 => if x11 ≤ 14 then (if x5 = 0 then (spec_l03Levels.j2 k x3 x4 x5 x6 x7 x10 x11 true x140000 x140001 x140002) else (spec_l03Levels.j2 k x3 x4 x5 x6 x7 x10 x11 (decide (x11 < x5)) x140000 x140001 x140002)) else (spec_l03Levels.j2 k x3 x4 x5 x6 x7 x10 x11 false x140000 x140001 x140002)
def spec_l03Levels.j2 : Nat → Int → Int → Int → Int → Int → List Bool → Int → Bool → Int → Int → List (S60) → Option (Int)
  | 0, _, _, _, _, _, _, _, _, _, _, _ => none
  | k + 1, x3, x4, x5, x6, x7, x10, x11, x64, x140000, x140001, x140002 => if x64 = true then (if 0 ≤ (wrap64 (x3 * x4)) then (if (wrap64 (x3 * x4) : Int).toNat ≤ 281474976710656 then (spec_l03Levels.l2 k x3 x4 x5 x6 x7 x10 x11 (List.replicate (wrap64 (x3 * x4) : Int).toNat false) false 0 x140000 x140001 x140002) else (none)) else (none)) else (spec_l03Levels.l0 k x3 x4 x5 (wrap64 (x6 + 1)) x140000 x140001 x140002)
def spec_l03Levels.l2 : Nat → Int → Int → Int → Int → Int → List Bool → Int → List Bool → Bool → Int → Int → Int → List (S60) → Option (Int)
  | 0, _, _, _, _, _, _, _, _, _, _, _, _, _ => none
  | k + 1, x3, x4, x5, x6, x7, x10, x11, x12, x13, x14, x140000, x140001, x140002 => if x14 < (wrap64 (x3 * x4)) then (if 0 ≤ x14 then (if x14 < (x10.length : Int) then (if rdOf false x10 x14 = true then (if x4 = 0 then (none) else ((spec_l03Step.f x140000 x140001 x140002 (wrap64 (Int.tdiv x14 x4))).bind fun bt151 => (if x13 = true then (spec_l03Levels.j4 k x3 x4 x5 x6 x7 x10 x11 x12 true x14 (Int.tmod x14 x4) bt151.2.1 (wrap64 ((wrap64 ((wrap64 (Int.tdiv x14 x4)) + 1)) - (wrap64 (2 * (Int.tmod (wrap64 (Int.tdiv x14 x4)) 2))))) x140000 x140001 x140002) else (if bt151.2.1 = x7 then (if (Int.tmod x14 x4) = 0 then (spec_l03Levels.j4 k x3 x4 x5 x6 x7 x10 x11 x12 ((wrap64 ((wrap64 ((wrap64 (Int.tdiv x14 x4)) + 1)) - (wrap64 (2 * (Int.tmod (wrap64 (Int.tdiv x14 x4)) 2))))) != x6) x14 (Int.tmod x14 x4) bt151.2.1 (wrap64 ((wrap64 ((wrap64 (Int.tdiv x14 x4)) + 1)) - (wrap64 (2 * (Int.tmod (wrap64 (Int.tdiv x14 x4)) 2))))) x140000 x140001 x140002) else (spec_l03Levels.j4 k x3 x4 x5 x6 x7 x10 x11 x12 false x14 (Int.tmod x14 x4) bt151.2.1 (wrap64 ((wrap64 ((wrap64 (Int.tdiv x14 x4)) + 1)) - (wrap64 (2 * (Int.tmod (wrap64 (Int.tdiv x14 x4)) 2))))) x140000 x140001 x140002)) else (spec_l03Levels.j4 k x3 x4 x5 x6 x7 x10 x11 x12 false x14 (Int.tmod x14 x4) bt151.2.1 (wrap64 ((wrap64 ((wrap64 (Int.tdiv x14 x4)) + 1)) - (wrap64 (2 * (Int.tmod (wrap64 (Int.tdiv x14 x4)) 2))))) x140000 x140001 x140002))))) else (spec_l03Levels.l2 k x3 x4 x5 x6 x7 x10 x11 x12 x13 (wrap64 (x14 + 1)) x140000 x140001 x140002)) else (none)) else (none)) else (if x13 = true then (spec_l03Levels.l0 k x3 x4 x11 (wrap64 (x6 + 1)) x140000 x140001 x140002) else (spec_l03Levels.l1 k x3 x4 x5 x6 x7 x12 (wrap64 (x11 + 1)) x140000 x140001 x140002))
def spec_l03Levels.j4 : Nat → Int → Int → Int → Int → Int → List Bool → Int → List Bool → Bool → Int → Int → Int → Int → Int → Int → List (S60) → Option (Int)
  | 0, _, _, _, _, _, _, _, _, _, _, _, _, _, _, _, _ => none
  | k + 1, x3, x4, x5, x6, x7, x10, x11, x12, x13, x14, x16, x18, x20, x140000, x140001, x140002 => spec_l03Levels.l3 k x3 x4 x5 x6 x7 x10 x11 x12 x13 x14 x16 x18 x20 0 x140000 x140001 x140002
def spec_l03Levels.l3 : Nat → Int → Int → Int → Int → Int → List Bool → Int → List Bool → Bool → Int → Int → Int → Int → Int → Int → Int → List (S60) → Option (Int)
  | 0, _, _, _, _, _, _, _, _, _, _, _, _, _, _, _, _, _ => none
  | k + 1, x3, x4, x5, x6, x7, x10, x11, x12, x13, x14, x16, x18, x20, x21, x140000, x140001, x140002 => if x21 < x3 then ((spec_l03Step.f x140000 x140001 x140002 x21).bind fun bt154 => (if bt154.1 = x18 then (if x21 = x20 then (spec_l03Levels.l3 k x3 x4 x5 x6 x7 x10 x11 x12 x13 x14 x16 x18 x20 (wrap64 (x21 + 1)) x140000 x140001 x140002) else (if x4 = 0 then (none) else (if 0 ≤ (wrap64 ((wrap64 (x21 * x4)) + (Int.tmod (wrap64 (x16 + bt154.2.2)) x4))) then (if (wrap64 ((wrap64 (x21 * x4)) + (Int.tmod (wrap64 (x16 + bt154.2.2)) x4))) < (x12.length : Int) then (spec_l03Levels.l3 k x3 x4 x5 x6 x7 x10 x11 (x12.set ((wrap64 ((wrap64 (x21 * x4)) + (Int.tmod (wrap64 (x16 + bt154.2.2)) x4))) : Int).toNat true) x13 x14 x16 x18 x20 (wrap64 (x21 + 1)) x140000 x140001 x140002) else (none)) else (none)))) else (spec_l03Levels.l3 k x3 x4 x5 x6 x7 x10 x11 x12 x13 x14 x16 x18 x20 (wrap64 (x21 + 1)) x140000 x140001 x140002))) else (spec_l03Levels.l2 k x3 x4 x5 x6 x7 x10 x11 x12 x13 (wrap64 (x14 + 1)) x140000 x140001 x140002)
end
def spec_l03Levels.f (k : Nat) (a0_0 : Int) (a0_1 : Int) (l0_2 : List (S60)) : Option (Int) := spec_l03Levels.l0 k (wrap64 (2 * (l0_2.length : Int))) a0_1 0 0 a0_0 a0_1 l0_2
theorem spec_l03Levels.mono_l : ∀ k, (∀ y0 y1 y2 y3 y4 y5 y6, LeO (spec_l03Levels.l0 k y0 y1 y2 y3 y4 y5 y6) (spec_l03Levels.l0 (k + 1) y0 y1 y2 y3 y4 y5 y6)) ∧ (∀ y0 y1 y2 y3 y4 y5 y6 y7 y8 y9, LeO (spec_l03Levels.l1 k y0 y1 y2 y3 y4 y5 y6 y7 y8 y9) (spec_l03Levels.l1 (k + 1) y0 y1 y2 y3 y4 y5 y6 y7 y8 y9)) ∧ (∀ y0 y1 y2 y3 y4 y5 y6 y7 y8 y9 y10, LeO (spec_l03Levels.j2 k y0 y1 y2 y3 y4 y5 y6 y7 y8 y9 y10) (spec_l03Levels.j2 (k + 1) y0 y1 y2 y3 y4 y5 y6 y7 y8 y9 y10)) ∧ (∀ y0 y1 y2 y3 y4 y5 y6 y7 y8 y9 y10 y11 y12, LeO (spec_l03Levels.l2 k y0 y1 y2 y3 y4 y5 y6 y7 y8 y9 y10 y11 y12) (spec_l03Levels.l2 (k + 1) y0 y1 y2 y3 y4 y5 y6 y7 y8 y9 y10 y11 y12)) ∧ (∀ y0 y1 y2 y3 y4 y5 y6 y7 y8 y9 y10 y11 y12 y13 y14 y15, LeO (spec_l03Levels.j4 k y0 y1 y2 y3 y4 y5 y6 y7 y8 y9 y10 y11 y12 y13 y14 y15) (spec_l03Levels.j4 (k + 1) y0 y1 y2 y3 y4 y5 y6 y7 y8 y9 y10 y11 y12 y13 y14 y15)) ∧ (∀ y0 y1 y2 y3 y4 y5 y6 y7 y8 y9 y10 y11 y12 y13 y14 y15 y16, LeO (spec_l03Levels.l3 k y0 y1 y2 y3 y4 y5 y6 y7 y8 y9 y10 y11 y12 y13 y14 y15 y16) (spec_l03Levels.l3 (k + 1) y0 y1 y2 y3 y4 y5 y6 y7 y8 y9 y10 y11 y12 y13 y14 y15 y16))
  | 0 => ⟨fun _ _ _ _ _ _ _ r h => by simp [spec_l03Levels.l0] at h, fun _ _ _ _ _ _ _ _ _ _ r h => by simp [spec_l03Levels.l1] at h, fun _ _ _ _ _ _ _ _ _ _ _ r h => by simp [spec_l03Levels.j2] at h, fun _ _ _ _ _ _ _ _ _ _ _ _ _ r h => by simp [spec_l03Levels.l2] at h, fun _ _ _ _ _ _ _ _ _ _ _ _ _ _ _ _ r h => by simp [spec_l03Levels.j4] at h, fun _ _ _ _ _ _ _ _ _ _ _ _ _ _ _ _ _ r h => by simp [spec_l03Levels.l3] at h⟩
  | k + 1 => by
    obtain ⟨ih0, ih1, ih2, ih3, ih4, ih5⟩ := spec_l03Levels.mono_l k
    refine ⟨?_, ?_, ?_, ?_, ?_, ?_⟩
    · intro y0 y1 y2 y3 y4 y5 y6
      unfold spec_l03Levels.l0
      repeat' first
      | (with_reducible exact ih0 _ _ _ _ _ _ _)
      | (with_reducible exact ih1 _ _ _ _ _ _ _ _ _ _)
      | (with_reducible exact ih2 _ _ _ _ _ _ _ _ _ _ _)
      | (with_reducible exact ih3 _ _ _ _ _ _ _ _ _ _ _ _ _)
      | (with_reducible exact ih4 _ _ _ _ _ _ _ _ _ _ _ _ _ _ _ _)
      | (with_reducible exact ih5 _ _ _ _ _ _ _ _ _ _ _ _ _ _ _ _ _)
      | (with_reducible exact LeO.refl _)
      | (with_reducible exact LeO.none _)
      | (with_reducible refine LeO.ite ?_ ?_)
      | (with_reducible refine LeO.bind ?_ (fun _ => ?_))
      | exact ih0 _ _ _ _ _ _ _
      | exact ih1 _ _ _ _ _ _ _ _ _ _
      | exact ih2 _ _ _ _ _ _ _ _ _ _ _
      | exact ih3 _ _ _ _ _ _ _ _ _ _ _ _ _
      | exact ih4 _ _ _ _ _ _ _ _ _ _ _ _ _ _ _ _
      | exact ih5 _ _ _ _ _ _ _ _ _ _ _ _ _ _ _ _ _
      | exact LeO.none _
      | refine LeO.ite ?_ ?_
      | refine LeO.bind ?_ (fun _ => ?_)
    · intro y0 y1 y2 y3 y4 y5 y6 y7 y8 y9
      unfold spec_l03Levels.l1
      repeat' first
      | (with_reducible exact ih0 _ _ _ _ _ _ _)
      | (with_reducible exact ih1 _ _ _ _ _ _ _ _ _ _)
      | (with_reducible exact ih2 _ _ _ _ _ _ _ _ _ _ _)
      | (with_reducible exact ih3 _ _ _ _ _ _ _ _ _ _ _ _ _)
      | (with_reducible exact ih4 _ _ _ _ _ _ _ _ _ _ _ _ _ _ _ _)
      | (with_reducible exact ih5 _ _ _ _ _ _ _ _ _ _ _ _ _ _ _ _ _)
      | (with_reducible exact LeO.refl _)
      | (with_reducible exact LeO.none _)
      | (with_reducible refine LeO.ite ?_ ?_)
      | (with_reducible refine LeO.bind ?_ (fun _ => ?_))
      | exact ih0 _ _ _ _ _ _ _
      | exact ih1 _ _ _ _ _ _ _ _ _ _
      | exact ih2 _ _ _ _ _ _ _ _ _ _ _
      | exact ih3 _ _ _ _ _ _ _ _ _ _ _ _ _
      | exact ih4 _ _ _ _ _ _ _ _ _ _ _ _ _ _ _ _
      | exact ih5 _ _ _ _ _ _ _ _ _ _ _ _ _ _ _ _ _
      | exact LeO.none _
      | refine LeO.ite ?_ ?_
      | refine LeO.bind ?_ (fun _ => ?_)
    · intro y0 y1 y2 y3 y4 y5 y6 y7 y8 y9 y10
      unfold spec_l03Levels.j2
      repeat' first
      | (with_reducible exact ih0 _ _ _ _ _ _ _)
      | (with_reducible exact ih1 _ _ _ _ _ _ _ _ _ _)
      | (with_reducible exact ih2 _ _ _ _ _ _ _ _ _ _ _)
      | (with_reducible exact ih3 _ _ _ _ _ _ _ _ _ _ _ _ _)
      | (with_reducible exact ih4 _ _ _ _ _ _ _ _ _ _ _ _ _ _ _ _)
      | (with_reducible exact ih5 _ _ _ _ _ _ _ _ _ _ _ _ _ _ _ _ _)
      | (with_reducible exact LeO.refl _)
      | (with_reducible exact LeO.none _)
      | (with_reducible refine LeO.ite ?_ ?_)
      | (with_reducible refine LeO.bind ?_ (fun _ => ?_))
      | exact ih0 _ _ _ _ _ _ _
      | exact ih1 _ _ _ _ _ _ _ _ _ _
      | exact ih2 _ _ _ _ _ _ _ _ _ _ _
      | exact ih3 _ _ _ _ _ _ _ _ _ _ _ _ _
      | exact ih4 _ _ _ _ _ _ _ _ _ _ _ _ _ _ _ _
      | exact ih5 _ _ _ _ _ _ _ _ _ _ _ _ _ _ _ _ _
      | exact LeO.none _
      | refine LeO.ite ?_ ?_
      | refine LeO.bind ?_ (fun _ => ?_)
    · intro y0 y1 y2 y3 y4 y5 y6 y7 y8 y9 y10 y11 y12
      unfold spec_l03Levels.l2
      repeat' first
      | (with_reducible exact ih0 _ _ _ _ _ _ _)
      | (with_reducible exact ih1 _ _ _ _ _ _ _ _ _ _)
      | (with_reducible exact ih2 _ _ _ _ _ _ _ _ _ _ _)
      | (with_reducible exact ih3 _ _ _ _ _ _ _ _ _ _ _ _ _)
      | (with_reducible exact ih4 _ _ _ _ _ _ _ _ _ _ _ _ _ _ _ _)
      | (with_reducible exact ih5 _ _ _ _ _ _ _ _ _ _ _ _ _ _ _ _ _)
      | (with_reducible exact LeO.refl _)
      | (with_reducible exact LeO.none _)
      | (with_reducible refine LeO.ite ?_ ?_)
      | (with_reducible refine LeO.bind ?_ (fun _ => ?_))
      | exact ih0 _ _ _ _ _ _ _
      | exact ih1 _ _ _ _ _ _ _ _ _ _
      | exact ih2 _ _ _ _ _ _ _ _ _ _ _
      | exact ih3 _ _ _ _ _ _ _ _ _ _ _ _ _
      | exact ih4 _ _ _ _ _ _ _ _ _ _ _ _ _ _ _ _
      | exact ih5 _ _ _ _ _ _ _ _ _ _ _ _ _ _ _ _ _
      | exact LeO.none _
      | refine LeO.ite ?_ ?_
      | refine LeO.bind ?_ (fun _ => ?_)
    · intro y0 y1 y2 y3 y4 y5 y6 y7 y8 y9 y10 y11 y12 y13 y14 y15
      unfold spec_l03Levels.j4
      repeat' first
      | (with_reducible exact ih0 _ _ _ _ _ _ _)
      | (with_reducible exact ih1 _ _ _ _ _ _ _ _ _ _)
      | (with_reducible exact ih2 _ _ _ _ _ _ _ _ _ _ _)
      | (with_reducible exact ih3 _ _ _ _ _ _ _ _ _ _ _ _ _)
      | (with_reducible exact ih4 _ _ _ _ _ _ _ _ _ _ _ _ _ _ _ _)
      | (with_reducible exact ih5 _ _ _ _ _ _ _ _ _ _ _ _ _ _ _ _ _)
      | (with_reducible exact LeO.refl _)
      | (with_reducible exact LeO.none _)
      | (with_reducible refine LeO.ite ?_ ?_)
      | (with_reducible refine LeO.bind ?_ (fun _ => ?_))
      | exact ih0 _ _ _ _ _ _ _
      | exact ih1 _ _ _ _ _ _ _ _ _ _
      | exact ih2 _ _ _ _ _ _ _ _ _ _ _
      | exact ih3 _ _ _ _ _ _ _ _ _ _ _ _ _
      | exact ih4 _ _ _ _ _ _ _ _ _ _ _ _ _ _ _ _
      | exact ih5 _ _ _ _ _ _ _ _ _ _ _ _ _ _ _ _ _
      | exact LeO.none _
      | refine LeO.ite ?_ ?_
      | refine LeO.bind ?_ (fun _ => ?_)
    · intro y0 y1 y2 y3 y4 y5 y6 y7 y8 y9 y10 y11 y12 y13 y14 y15 y16
      unfold spec_l03Levels.l3
      repeat' first
      | (with_reducible exact ih0 _ _ _ _ _ _ _)
      | (with_reducible exact ih1 _ _ _ _ _ _ _ _ _ _)
      | (with_reducible exact ih2 _ _ _ _ _ _ _ _ _ _ _)
      | (with_reducible exact ih3 _ _ _ _ _ _ _ _ _ _ _ _ _)
      | (with_reducible exact ih4 _ _ _ _ _ _ _ _ _ _ _ _ _ _ _ _)
      | (with_reducible exact ih5 _ _ _ _ _ _ _ _ _ _ _ _ _ _ _ _ _)
      | (with_reducible exact LeO.refl _)
      | (with_reducible exact LeO.none _)
      | (with_reducible refine LeO.ite ?_ ?_)
      | (with_reducible refine LeO.bind ?_ (fun _ => ?_))
      | exact ih0 _ _ _ _ _ _ _
      | exact ih1 _ _ _ _ _ _ _ _ _ _
      | exact ih2 _ _ _ _ _ _ _ _ _ _ _
      | exact ih3 _ _ _ _ _ _ _ _ _ _ _ _ _
      | exact ih4 _ _ _ _ _ _ _ _ _ _ _ _ _ _ _ _
      | exact ih5 _ _ _ _ _ _ _ _ _ _ _ _ _ _ _ _ _
      | exact LeO.none _
      | refine LeO.ite ?_ ?_
      | refine LeO.bind ?_ (fun _ => ?_)
theorem spec_l03Levels.mono : ∀ a0 a1 a2 k, LeO (spec_l03Levels.f k a0 a1 a2) (spec_l03Levels.f (k + 1) a0 a1 a2) := by
  intro a0 a1 a2 k
  obtain ⟨ih0, ih1, ih2, ih3, ih4, ih5⟩ := spec_l03Levels.mono_l k
  unfold spec_l03Levels.f
  repeat' first
      | (with_reducible exact ih0 _ _ _ _ _ _ _)
      | (with_reducible exact ih1 _ _ _ _ _ _ _ _ _ _)
      | (with_reducible exact ih2 _ _ _ _ _ _ _ _ _ _ _)
      | (with_reducible exact ih3 _ _ _ _ _ _ _ _ _ _ _ _ _)
      | (with_reducible exact ih4 _ _ _ _ _ _ _ _ _ _ _ _ _ _ _ _)
      | (with_reducible exact ih5 _ _ _ _ _ _ _ _ _ _ _ _ _ _ _ _ _)
      | (with_reducible exact LeO.refl _)
      | (with_reducible exact LeO.none _)
      | (with_reducible refine LeO.ite ?_ ?_)
      | (with_reducible refine LeO.bind ?_ (fun _ => ?_))
      | exact ih0 _ _ _ _ _ _ _
      | exact ih1 _ _ _ _ _ _ _ _ _ _
      | exact ih2 _ _ _ _ _ _ _ _ _ _ _
      | exact ih3 _ _ _ _ _ _ _ _ _ _ _ _ _
      | exact ih4 _ _ _ _ _ _ _ _ _ _ _ _ _ _ _ _
      | exact ih5 _ _ _ _ _ _ _ _ _ _ _ _ _ _ _ _ _
      | exact LeO.none _
      | refine LeO.ite ?_ ?_
      | refine LeO.bind ?_ (fun _ => ?_)
set_option maxHeartbeats 8000000 in
set_option maxRecDepth 100000 in
theorem spec_l03Levels.calls (k : Nat) (a0_0 : Int) (a0_1 : Int) (A0_2 : Option Addr) (c0_2 : Nat) (l0_2 : List (S60)) (r : Int) (w : World) (hr0_2 : Kd.C k60 w A0_2 l0_2.length l0_2) (hc0_2 : l0_2.length ≤ c0_2) (h : spec_l03Levels.f k a0_0 a0_1 l0_2 = some r) :
    Calls Try.prog 54 #[.agg #[.int .i64 a0_0, .int .i64 a0_1, .slice A0_2 l0_2.length c0_2]] w fun e w' => e = .returned (.int .i64 r) ∧ Below w.heap.size w w' := by
  have hu29 := Try.underlying29
  have HR0_2 := Aside0.mk hr0_2
  have HC0_2 := Aside0.mk hc0_2
  clear hr0_2 hc0_2
  have HB := Aside0.mk (Below.refl w.heap.size w)
  have H : (spec_l03Levels.l0 k (wrap64 (2 * (l0_2.length : Int))) a0_1 0 0 a0_0 a0_1 l0_2) = some r := h
  clear h
  have H' := Aside0.mk H
  clear H
  go_enter Try.func54, Try.ntmps54
  go_wp2_with (first | ((with_reducible refine gate_dst (N := 1) rfl ?_); refine box_event ?hg (N := 1) ?hd (cs := #[.int .i64 a0_0, .int .i64 a0_1, .slice A0_2 l0_2.length c0_2]) (t := 29) ?hr ?_; (case hd => rfl); (case hg => rfl); (case hr => first | (go_simp; done) | (go_simp; rfl)); intro gb139 hg w2 hbox hb; have n0_ := Aside0.mk (below_step (by repeat (first | (with_reducible first | exact HB.out | apply below_alloc | apply pw_below_drewN | apply below_drew1) | exact HB.out)) hb); have n1_ := Aside0.mk (hbox); have n2_ := Aside0.mk ((by rw [hg]; exact (below_size (by repeat (first | (with_reducible first | exact HB.out | apply below_alloc | apply pw_below_drewN | apply below_drew1) | exact HB.out))) : w.heap.size ≤ gb139)); have n3_ := Aside0.mk ((by rw [hg]; exact (below_size (by repeat (first | (with_reducible first | exact HB.out | apply below_alloc | apply pw_below_drewN | apply below_drew1) | exact HB.out))) : w.heap.size ≤ gb139)); clear HB; have HB := n0_; have BK139 := n1_; have GW139 := n2_; have GE139 := n3_; clear n0_ n1_ n2_ n3_; clear hb hbox hg; have hcz3_0 : w2.cell? ⟨gb139, 0, none⟩ = some (.int .i64 a0_0) := (blk_cell BK139.out 0).trans rfl; have hcz3_1 : w2.cell? ⟨gb139, 1, none⟩ = some (.int .i64 a0_1) := (blk_cell BK139.out 1).trans rfl; have hcz3_2 : w2.cell? ⟨gb139, 2, none⟩ = some (.slice A0_2 l0_2.length c0_2) := (blk_cell BK139.out 2).trans rfl; have hfz3_0 := blk_frozen BK139.out 0; have hfz3_1 := blk_frozen BK139.out 1; have hfz3_2 := blk_frozen BK139.out 2))
  repeat (go_quiet (first | ((with_reducible refine gate_dst (N := 1) rfl ?_); refine box_event ?hg (N := 1) ?hd (cs := #[.int .i64 a0_0, .int .i64 a0_1, .slice A0_2 l0_2.length c0_2]) (t := 29) ?hr ?_; (case hd => rfl); (case hg => rfl); (case hr => first | (go_simp; done) | (go_simp; rfl)); intro gb139 hg w2 hbox hb; have n0_ := Aside0.mk (below_step (by repeat (first | (with_reducible first | exact HB.out | apply below_alloc | apply pw_below_drewN | apply below_drew1) | exact HB.out)) hb); have n1_ := Aside0.mk (hbox); have n2_ := Aside0.mk ((by rw [hg]; exact (below_size (by repeat (first | (with_reducible first | exact HB.out | apply below_alloc | apply pw_below_drewN | apply below_drew1) | exact HB.out))) : w.heap.size ≤ gb139)); have n3_ := Aside0.mk ((by rw [hg]; exact (below_size (by repeat (first | (with_reducible first | exact HB.out | apply below_alloc | apply pw_below_drewN | apply below_drew1) | exact HB.out))) : w.heap.size ≤ gb139)); clear HB; have HB := n0_; have BK139 := n1_; have GW139 := n2_; have GE139 := n3_; clear n0_ n1_ n2_ n3_; clear hb hbox hg; have hcz3_0 : w2.cell? ⟨gb139, 0, none⟩ = some (.int .i64 a0_0) := (blk_cell BK139.out 0).trans rfl; have hcz3_1 : w2.cell? ⟨gb139, 1, none⟩ = some (.int .i64 a0_1) := (blk_cell BK139.out 1).trans rfl; have hcz3_2 : w2.cell? ⟨gb139, 2, none⟩ = some (.slice A0_2 l0_2.length c0_2) := (blk_cell BK139.out 2).trans rfl; have hfz3_0 := blk_frozen BK139.out 0; have hfz3_1 := blk_frozen BK139.out 1; have hfz3_2 := blk_frozen BK139.out 2)); try go_wp2_with (first | ((with_reducible refine gate_dst (N := 1) rfl ?_); refine box_event ?hg (N := 1) ?hd (cs := #[.int .i64 a0_0, .int .i64 a0_1, .slice A0_2 l0_2.length c0_2]) (t := 29) ?hr ?_; (case hd => rfl); (case hg => rfl); (case hr => first | (go_simp; done) | (go_simp; rfl)); intro gb139 hg w2 hbox hb; have n0_ := Aside0.mk (below_step (by repeat (first | (with_reducible first | exact HB.out | apply below_alloc | apply pw_below_drewN | apply below_drew1) | exact HB.out)) hb); have n1_ := Aside0.mk (hbox); have n2_ := Aside0.mk ((by rw [hg]; exact (below_size (by repeat (first | (with_reducible first | exact HB.out | apply below_alloc | apply pw_below_drewN | apply below_drew1) | exact HB.out))) : w.heap.size ≤ gb139)); have n3_ := Aside0.mk ((by rw [hg]; exact (below_size (by repeat (first | (with_reducible first | exact HB.out | apply below_alloc | apply pw_below_drewN | apply below_drew1) | exact HB.out))) : w.heap.size ≤ gb139)); clear HB; have HB := n0_; have BK139 := n1_; have GW139 := n2_; have GE139 := n3_; clear n0_ n1_ n2_ n3_; clear hb hbox hg; have hcz3_0 : w2.cell? ⟨gb139, 0, none⟩ = some (.int .i64 a0_0) := (blk_cell BK139.out 0).trans rfl; have hcz3_1 : w2.cell? ⟨gb139, 1, none⟩ = some (.int .i64 a0_1) := (blk_cell BK139.out 1).trans rfl; have hcz3_2 : w2.cell? ⟨gb139, 2, none⟩ = some (.slice A0_2 l0_2.length c0_2) := (blk_cell BK139.out 2).trans rfl; have hfz3_0 := blk_frozen BK139.out 0; have hfz3_1 := blk_frozen BK139.out 1; have hfz3_2 := blk_frozen BK139.out 2)))
  go_loopg [5, 6] k (fun kq v5 v6 w' => ∃ (x5_1 : Int) (x6_1 : Int), v5 = .int .i64 x5_1 ∧ v6 = .int .i64 x6_1 ∧ Aside0 (spec_l03Levels.l0 kq (wrap64 (2 * (l0_2.length : Int))) a0_1 x5_1 x6_1 a0_0 a0_1 l0_2 = some r) ∧ Aside0 (kq ≤ k) ∧ Aside0 (w'.heap[gb139]? = some (.cells #[.int .i64 a0_0, .int .i64 a0_1, (.slice A0_2 l0_2.length c0_2)] 29 (0, 0))) ∧ Aside0 (Below w.heap.size w w'))
  case atStart => exact ⟨(0), (0), (by first | rfl | (simp; done) | (simp [*]; done)), (by first | rfl | (simp; done) | (simp [*]; done)), H', ⟨Nat.le_refl _⟩, ⟨by (with_reducible repeat (first | refine blk_drewN ?_ _ | refine blk_drew ?_ | refine blk_alloc ?_ _)); exact BK139.out⟩, ⟨by repeat (first | (with_reducible first | exact HB.out | apply below_alloc | apply pw_below_drewN | apply below_drew1 | refine below_set ?_ GE139.out) | exact HB.out)⟩⟩
  case round =>
    clear H'
    try clear p2
    try clear hcz3_0
    try clear hcz3_1
    try clear hcz3_2
    try clear hfz3_0
    try clear hfz3_1
    try clear hfz3_2
    obtain ⟨x5_1, x6_1, rfl, rfl, HA, HK1, BK139, HB⟩ := hrel
    cases gk with
    | zero => exact absurd HA.out (by simp [spec_l03Levels.l0])
    | succ k1 =>
      have H := HA.out
      clear HA
      simp only [spec_l03Levels.l0] at H
      by_cases c4 : x6_1 < (wrap64 (2 * (l0_2.length : Int)))
      · rw [if_pos c4] at H
        have c4b0 : decide (x6_1 < (wrap64 (2 * (l0_2.length : Int)))) = true := decide_eq_true c4
        clear c4
        replace H := Option.bind_eq_some_iff.mp H
        obtain ⟨⟨t140, t141, t142⟩, A50, H⟩ := H
        replace H : (if 0 ≤ (wrap64 ((wrap64 (2 * (l0_2.length : Int))) * a0_1)) then (if (wrap64 ((wrap64 (2 * (l0_2.length : Int))) * a0_1) : Int).toNat ≤ 281474976710656 then ((some (List.replicate (wrap64 ((wrap64 (2 * (l0_2.length : Int))) * a0_1) : Int).toNat false : List Bool)).bind fun y143 => (if 0 ≤ (wrap64 ((wrap64 (x6_1 * a0_1)) + t142)) then (if (wrap64 ((wrap64 (x6_1 * a0_1)) + t142)) < (y143.length : Int) then (spec_l03Levels.l1 k1 (wrap64 (2 * (l0_2.length : Int))) a0_1 x5_1 x6_1 t140 (y143.set ((wrap64 ((wrap64 (x6_1 * a0_1)) + t142)) : Int).toNat true) 1 a0_0 a0_1 l0_2) else (none)) else (none))) else (none)) else (none)) = some r := H
        have A5 := Aside0.mk A50
        clear A50
        obtain ⟨ji6, hji6⟩ : ∃ j_ : Int, (wrap64 ((wrap64 (2 * (l0_2.length : Int))) * a0_1)) = j_ := ⟨_, rfl⟩
        replace H : (if 0 ≤ (ji6) then (if (ji6 : Int).toNat ≤ 281474976710656 then ((some (List.replicate (ji6 : Int).toNat false : List Bool)).bind fun y143 => (if 0 ≤ (wrap64 ((wrap64 (x6_1 * a0_1)) + t142)) then (if (wrap64 ((wrap64 (x6_1 * a0_1)) + t142)) < (y143.length : Int) then (spec_l03Levels.l1 k1 (wrap64 (2 * (l0_2.length : Int))) a0_1 x5_1 x6_1 t140 (y143.set ((wrap64 ((wrap64 (x6_1 * a0_1)) + t142)) : Int).toNat true) 1 a0_0 a0_1 l0_2) else (none)) else (none))) else (none)) else (none)) = some r := by first | (rw [hji6] at H; exact H) | (simp only [hji6] at H ⊢; exact H)
        (try rw [hji6] at A5)
        have hji6w : (IntKind.i64.wrap ((wrap64 (2 * (l0_2.length : Int))) * a0_1)) = ji6 := (i64_w _).trans hji6
        by_cases c7 : 0 ≤ (ji6)
        · rw [if_pos c7] at H
          have c7b0 := eq_true c7
          have c7b1 : decide (0 ≤ (ji6)) = true := decide_eq_true c7
          clear c7
          by_cases c8 : (ji6 : Int).toNat ≤ 281474976710656
          · rw [if_pos c8] at H
            have c8b0 := eq_true c8
            have c8b1 : decide ((ji6 : Int).toNat ≤ 281474976710656) = true := decide_eq_true c8
            clear c8
            obtain ⟨y143, hy143⟩ : ∃ y_ : List Bool, y_ = (List.replicate (ji6 : Int).toNat false) := ⟨_, rfl⟩
            replace H : (if 0 ≤ (wrap64 ((wrap64 (x6_1 * a0_1)) + t142)) then (if (wrap64 ((wrap64 (x6_1 * a0_1)) + t142)) < (y143.length : Int) then (spec_l03Levels.l1 k1 (wrap64 (2 * (l0_2.length : Int))) a0_1 x5_1 x6_1 t140 (y143.set ((wrap64 ((wrap64 (x6_1 * a0_1)) + t142)) : Int).toNat true) 1 a0_0 a0_1 l0_2) else (none)) else (none)) = some r := by first | (rw [hy143]; with_reducible exact H) | (have H2_ := (Option.bind_some _ _).symm.trans H; rw [hy143]; with_reducible exact H2_) | (have H2_ := (Option.bind_some _ _).symm.trans H; with_reducible exact H2_) | with_reducible exact H | (rw [hy143]; exact H) | exact H
            have Ny143 := Aside0.mk hy143
            clear hy143
            obtain ⟨ji9, hji9⟩ : ∃ j_ : Int, (wrap64 ((wrap64 (x6_1 * a0_1)) + t142)) = j_ := ⟨_, rfl⟩
            replace H : (if 0 ≤ (ji9) then (if (ji9) < (y143.length : Int) then (spec_l03Levels.l1 k1 (wrap64 (2 * (l0_2.length : Int))) a0_1 x5_1 x6_1 t140 (y143.set ((ji9) : Int).toNat true) 1 a0_0 a0_1 l0_2) else (none)) else (none)) = some r := by first | (rw [hji9] at H; exact H) | (simp only [hji9] at H ⊢; exact H)
            (try rw [hji9] at A5)
            have hji9w : (IntKind.i64.wrap ((wrap64 (x6_1 * a0_1)) + t142)) = ji9 := (i64_w _).trans hji9
            by_cases c10 : 0 ≤ (ji9)
            · rw [if_pos c10] at H
              have c10b0 : decide (0 ≤ (ji9)) = true := decide_eq_true c10
              clear c10
              by_cases c11 : (ji9) < (y143.length : Int)
              · rw [if_pos c11] at H
                have c11b0 : decide ((ji9) < (y143.length : Int)) = true := decide_eq_true c11
                clear c11
                obtain ⟨y146, hy146⟩ : ∃ y_ : List Bool, y_ = (y143.set ((ji9) : Int).toNat true) := ⟨_, rfl⟩
                replace H : (spec_l03Levels.l1 k1 (wrap64 (2 * (l0_2.length : Int))) a0_1 x5_1 x6_1 t140 y146 1 a0_0 a0_1 l0_2) = some r := by first | (rw [hy146]; with_reducible exact H) | (have H2_ := (Option.bind_some _ _).symm.trans H; rw [hy146]; with_reducible exact H2_) | (have H2_ := (Option.bind_some _ _).symm.trans H; with_reducible exact H2_) | with_reducible exact H | (rw [hy146]; exact H) | exact H
                have Ny146 := Aside0.mk hy146
                clear hy146
                have H' := Aside0.mk H
                clear H
                have hcz13_0 : wr.cell? ⟨gb139, 0, none⟩ = some (.int .i64 a0_0) := (blk_cell BK139.out 0).trans rfl
                have hcz13_1 : wr.cell? ⟨gb139, 1, none⟩ = some (.int .i64 a0_1) := (blk_cell BK139.out 1).trans rfl
                have hcz13_2 : wr.cell? ⟨gb139, 2, none⟩ = some (.slice A0_2 l0_2.length c0_2) := (blk_cell BK139.out 2).trans rfl
                have hfz13_0 := blk_frozen BK139.out 0
                have hfz13_1 := blk_frozen BK139.out 1
                have hfz13_2 := blk_frozen BK139.out 2
                go_wp2_with (first | (go_at_call 46; (with_reducible refine (spec_l03Step.calls a0_0 a0_1 _ _ l0_2 x6_1 t140 t141 t142 _ ?side1 ?side2 A5.out).mono ?_); (case side1 => repeat (first | exact (Kd.C_below HR0_2.out HB.out) | (with_reducible refine Kd.C_alloc ?_ _) | (with_reducible refine Kd.C_drewN ?_ _) | (with_reducible refine Kd.C_drew ?_))); (case side2 => exact HC0_2.out); rintro e w14 ⟨rfl, hb⟩; have n0_ := Aside0.mk (blk_below (g := gb139) (o := .cells #[.int .i64 a0_0, .int .i64 a0_1, .slice A0_2 l0_2.length c0_2] 29 (0, 0)) (by (with_reducible repeat (first | refine blk_drewN ?_ _ | refine blk_drew ?_ | refine blk_alloc ?_ _)); exact BK139.out) hb); have n1_ := Aside0.mk (below_step (by repeat (first | (with_reducible first | exact HB.out | apply below_alloc | apply pw_below_drewN | apply below_drew1 | refine below_set ?_ GE139.out) | exact HB.out)) hb); clear BK139; clear HB; have BK139 := n0_; have HB := n1_; clear n0_ n1_; (try clear hb); (try clear hb2); (try clear hk); (try clear hi)) | ((with_reducible refine gate_dst (N := 46) rfl ?_); refine Kd.R_make Kd.bool _ 4 rfl (N := 46) rfl 82 _ _ rfl ji6 rfl rfl Try.underlying82 (.bool false) 1 info4 rfl (by decide) (by omega) false (ok := fun _ => True) (okp := fun _ => True) rfl (fun _ hk => hk) trivial (of_decide_eq_true (by first | (with_reducible assumption) | assumption)) (Nat.le_trans (Nat.mul_le_mul_right _ (of_decide_eq_true (by first | (with_reducible assumption) | assumption) : ji6.toNat ≤ 281474976710656)) (by omega)) (Below.refl _ _) (Nat.le_refl _) ?_; intro v144 w15 ho16 hb hg_ hnew_; clear hg_ hnew_; (first | rw [← Ny143.out] at ho16 | (simp only [Int.reduceToNat] at ho16; rw [← Ny143.out] at ho16)); have n0_ := Aside0.mk (Kd.R_lower ho16 (below_size (by repeat (first | (with_reducible first | exact HB.out | apply below_alloc | apply pw_below_drewN | apply below_drew1 | refine below_set ?_ GE139.out) | exact HB.out)))); have n1_ := Aside0.mk (blk_below (g := gb139) (o := .cells #[.int .i64 a0_0, .int .i64 a0_1, .slice A0_2 l0_2.length c0_2] 29 (0, 0)) (by (with_reducible repeat (first | refine blk_drewN ?_ _ | refine blk_drew ?_ | refine blk_alloc ?_ _)); exact BK139.out) hb); have n2_ := Aside0.mk (below_step (by repeat (first | (with_reducible first | exact HB.out | apply below_alloc | apply pw_below_drewN | apply below_drew1 | refine below_set ?_ GE139.out) | exact HB.out)) hb); clear BK139; clear HB; have HO145 := n0_; have BK139 := n1_; have HB := n2_; clear n0_ n1_ n2_; clear hb ho16; have p12 : 0 ≤ ((ji9) : Int) := of_decide_eq_true (by first | (with_reducible assumption) | assumption); have q12 : ((ji9) : Int) < ((y143.length : Int) : Int) := of_decide_eq_true (by first | (with_reducible assumption) | assumption); obtain ⟨go12, co12, eo12, gb12, gl12, cl12, HG12⟩ := Kd.R_form HO145.out (by omega); (first | cases eo12 | (injection eo12 with ea_ en_ ec_; (first | subst ea_ | (injection ea_ with ea_; subst ea_)); subst ec_; clear en_)); have GB12 := Aside0.mk gb12; have GG12 := Aside0.mk HG12; clear gb12 gl12 HG12; obtain ⟨hx12_0, hf12_0⟩ := Kd.R_celln false HO145.out ((ji9) : Int) p12 q12; replace p12 := eq_true p12; replace q12 := eq_true q12; obtain ⟨hy17_, hz17_⟩ := Kd.R_celln false HO145.out ((ji9) : Int) (of_decide_eq_true (by first | (with_reducible assumption) | assumption)) (of_decide_eq_true (by first | (with_reducible assumption) | assumption)); have HP17 := Kd.R_putg HO145.out ((ji9) : Int) true) | ((with_reducible refine gate_store (t := 4) (p := 53) rfl ?_); (try (rw [drewN_self w15]; generalize hq_ : World.drewN w15 _ = w15; have n0_ := Aside0.mk (Kd.R_at hq_ HO145.out); have n1_ := Aside0.mk (blk_at hq_ BK139.out); have n2_ := Aside0.mk (below_at hq_ HB.out); clear hq_ HO145 BK139 HB; have HO145 := n0_; have BK139 := n1_; have HB := n2_; clear n0_ n1_ n2_; (try (obtain ⟨hy17_, hz17_⟩ := Kd.R_celln false HO145.out ((ji9) : Int) (of_decide_eq_true (by first | (with_reducible assumption) | assumption)) (of_decide_eq_true (by first | (with_reducible assumption) | assumption)))); (try (have HP17 := Kd.R_putg HO145.out ((ji9) : Int) true)))); refine store_event (t := 4) (p := 53) (v := ?vo_w18) (w1 := (w15.setCell ⟨go12, ((ji9) : Int).toNat, none⟩ (.bool true))) ?hg ?ho ?hn ?hr ?_; (case ho => rfl); (case hg => rfl); (case hn => rfl); (case hr => first | (go_simp; done) | (go_simp; rfl)); intro w18 hw; have hg : w15.grownBy w18 (some go12) := (by rw [hw]; exact HP17.2); have hp_ : Kd.R Kd.bool 4 w18 w.heap.size (fun _ => True) (.slice (some ⟨go12, 0, none⟩) y143.length co12) y146 := (by rw [hw, Ny146.out]; exact HP17.1); clear HP17; have n0_ := Aside0.mk (blk_grown (g := gb139) (o := .cells #[.int .i64 a0_0, .int .i64 a0_1, .slice A0_2 l0_2.length c0_2] 29 (0, 0)) (by (with_reducible repeat (first | refine blk_drewN ?_ _ | refine blk_drew ?_ | refine blk_alloc ?_ _)); exact BK139.out) hg (Kd.R_ne HO145.out BK139.out (by decide))); have n1_ := Aside0.mk (hp_); have n2_ := Aside0.mk ((by rw [hw]; exact below_set (HB.out) GB12.out : Below w.heap.size w w18)); clear BK139; clear HO145; clear HB; have BK139 := n0_; have HO145 := n1_; have HB := n2_; clear n0_ n1_ n2_; clear hg hw hp_))
                repeat (go_quiet (first | (go_at_call 46; (with_reducible refine (spec_l03Step.calls a0_0 a0_1 _ _ l0_2 x6_1 t140 t141 t142 _ ?side1 ?side2 A5.out).mono ?_); (case side1 => repeat (first | exact (Kd.C_below HR0_2.out HB.out) | (with_reducible refine Kd.C_alloc ?_ _) | (with_reducible refine Kd.C_drewN ?_ _) | (with_reducible refine Kd.C_drew ?_))); (case side2 => exact HC0_2.out); rintro e w14 ⟨rfl, hb⟩; have n0_ := Aside0.mk (blk_below (g := gb139) (o := .cells #[.int .i64 a0_0, .int .i64 a0_1, .slice A0_2 l0_2.length c0_2] 29 (0, 0)) (by (with_reducible repeat (first | refine blk_drewN ?_ _ | refine blk_drew ?_ | refine blk_alloc ?_ _)); exact BK139.out) hb); have n1_ := Aside0.mk (below_step (by repeat (first | (with_reducible first | exact HB.out | apply below_alloc | apply pw_below_drewN | apply below_drew1 | refine below_set ?_ GE139.out) | exact HB.out)) hb); clear BK139; clear HB; have BK139 := n0_; have HB := n1_; clear n0_ n1_; (try clear hb); (try clear hb2); (try clear hk); (try clear hi)) | ((with_reducible refine gate_dst (N := 46) rfl ?_); refine Kd.R_make Kd.bool _ 4 rfl (N := 46) rfl 82 _ _ rfl ji6 rfl rfl Try.underlying82 (.bool false) 1 info4 rfl (by decide) (by omega) false (ok := fun _ => True) (okp := fun _ => True) rfl (fun _ hk => hk) trivial (of_decide_eq_true (by first | (with_reducible assumption) | assumption)) (Nat.le_trans (Nat.mul_le_mul_right _ (of_decide_eq_true (by first | (with_reducible assumption) | assumption) : ji6.toNat ≤ 281474976710656)) (by omega)) (Below.refl _ _) (Nat.le_refl _) ?_; intro v144 w15 ho16 hb hg_ hnew_; clear hg_ hnew_; (first | rw [← Ny143.out] at ho16 | (simp only [Int.reduceToNat] at ho16; rw [← Ny143.out] at ho16)); have n0_ := Aside0.mk (Kd.R_lower ho16 (below_size (by repeat (first | (with_reducible first | exact HB.out | apply below_alloc | apply pw_below_drewN | apply below_drew1 | refine below_set ?_ GE139.out) | exact HB.out)))); have n1_ := Aside0.mk (blk_below (g := gb139) (o := .cells #[.int .i64 a0_0, .int .i64 a0_1, .slice A0_2 l0_2.length c0_2] 29 (0, 0)) (by (with_reducible repeat (first | refine blk_drewN ?_ _ | refine blk_drew ?_ | refine blk_alloc ?_ _)); exact BK139.out) hb); have n2_ := Aside0.mk (below_step (by repeat (first | (with_reducible first | exact HB.out | apply below_alloc | apply pw_below_drewN | apply below_drew1 | refine below_set ?_ GE139.out) | exact HB.out)) hb); clear BK139; clear HB; have HO145 := n0_; have BK139 := n1_; have HB := n2_; clear n0_ n1_ n2_; clear hb ho16; have p12 : 0 ≤ ((ji9) : Int) := of_decide_eq_true (by first | (with_reducible assumption) | assumption); have q12 : ((ji9) : Int) < ((y143.length : Int) : Int) := of_decide_eq_true (by first | (with_reducible assumption) | assumption); obtain ⟨go12, co12, eo12, gb12, gl12, cl12, HG12⟩ := Kd.R_form HO145.out (by omega); (first | cases eo12 | (injection eo12 with ea_ en_ ec_; (first | subst ea_ | (injection ea_ with ea_; subst ea_)); subst ec_; clear en_)); have GB12 := Aside0.mk gb12; have GG12 := Aside0.mk HG12; clear gb12 gl12 HG12; obtain ⟨hx12_0, hf12_0⟩ := Kd.R_celln false HO145.out ((ji9) : Int) p12 q12; replace p12 := eq_true p12; replace q12 := eq_true q12; obtain ⟨hy17_, hz17_⟩ := Kd.R_celln false HO145.out ((ji9) : Int) (of_decide_eq_true (by first | (with_reducible assumption) | assumption)) (of_decide_eq_true (by first | (with_reducible assumption) | assumption)); have HP17 := Kd.R_putg HO145.out ((ji9) : Int) true) | ((with_reducible refine gate_store (t := 4) (p := 53) rfl ?_); (try (rw [drewN_self w15]; generalize hq_ : World.drewN w15 _ = w15; have n0_ := Aside0.mk (Kd.R_at hq_ HO145.out); have n1_ := Aside0.mk (blk_at hq_ BK139.out); have n2_ := Aside0.mk (below_at hq_ HB.out); clear hq_ HO145 BK139 HB; have HO145 := n0_; have BK139 := n1_; have HB := n2_; clear n0_ n1_ n2_; (try (obtain ⟨hy17_, hz17_⟩ := Kd.R_celln false HO145.out ((ji9) : Int) (of_decide_eq_true (by first | (with_reducible assumption) | assumption)) (of_decide_eq_true (by first | (with_reducible assumption) | assumption)))); (try (have HP17 := Kd.R_putg HO145.out ((ji9) : Int) true)))); refine store_event (t := 4) (p := 53) (v := ?vo_w18) (w1 := (w15.setCell ⟨go12, ((ji9) : Int).toNat, none⟩ (.bool true))) ?hg ?ho ?hn ?hr ?_; (case ho => rfl); (case hg => rfl); (case hn => rfl); (case hr => first | (go_simp; done) | (go_simp; rfl)); intro w18 hw; have hg : w15.grownBy w18 (some go12) := (by rw [hw]; exact HP17.2); have hp_ : Kd.R Kd.bool 4 w18 w.heap.size (fun _ => True) (.slice (some ⟨go12, 0, none⟩) y143.length co12) y146 := (by rw [hw, Ny146.out]; exact HP17.1); clear HP17; have n0_ := Aside0.mk (blk_grown (g := gb139) (o := .cells #[.int .i64 a0_0, .int .i64 a0_1, .slice A0_2 l0_2.length c0_2] 29 (0, 0)) (by (with_reducible repeat (first | refine blk_drewN ?_ _ | refine blk_drew ?_ | refine blk_alloc ?_ _)); exact BK139.out) hg (Kd.R_ne HO145.out BK139.out (by decide))); have n1_ := Aside0.mk (hp_); have n2_ := Aside0.mk ((by rw [hw]; exact below_set (HB.out) GB12.out : Below w.heap.size w w18)); clear BK139; clear HO145; clear HB; have BK139 := n0_; have HO145 := n1_; have HB := n2_; clear n0_ n1_ n2_; clear hg hw hp_)); try go_wp2_with (first | (go_at_call 46; (with_reducible refine (spec_l03Step.calls a0_0 a0_1 _ _ l0_2 x6_1 t140 t141 t142 _ ?side1 ?side2 A5.out).mono ?_); (case side1 => repeat (first | exact (Kd.C_below HR0_2.out HB.out) | (with_reducible refine Kd.C_alloc ?_ _) | (with_reducible refine Kd.C_drewN ?_ _) | (with_reducible refine Kd.C_drew ?_))); (case side2 => exact HC0_2.out); rintro e w14 ⟨rfl, hb⟩; have n0_ := Aside0.mk (blk_below (g := gb139) (o := .cells #[.int .i64 a0_0, .int .i64 a0_1, .slice A0_2 l0_2.length c0_2] 29 (0, 0)) (by (with_reducible repeat (first | refine blk_drewN ?_ _ | refine blk_drew ?_ | refine blk_alloc ?_ _)); exact BK139.out) hb); have n1_ := Aside0.mk (below_step (by repeat (first | (with_reducible first | exact HB.out | apply below_alloc | apply pw_below_drewN | apply below_drew1 | refine below_set ?_ GE139.out) | exact HB.out)) hb); clear BK139; clear HB; have BK139 := n0_; have HB := n1_; clear n0_ n1_; (try clear hb); (try clear hb2); (try clear hk); (try clear hi)) | ((with_reducible refine gate_dst (N := 46) rfl ?_); refine Kd.R_make Kd.bool _ 4 rfl (N := 46) rfl 82 _ _ rfl ji6 rfl rfl Try.underlying82 (.bool false) 1 info4 rfl (by decide) (by omega) false (ok := fun _ => True) (okp := fun _ => True) rfl (fun _ hk => hk) trivial (of_decide_eq_true (by first | (with_reducible assumption) | assumption)) (Nat.le_trans (Nat.mul_le_mul_right _ (of_decide_eq_true (by first | (with_reducible assumption) | assumption) : ji6.toNat ≤ 281474976710656)) (by omega)) (Below.refl _ _) (Nat.le_refl _) ?_; intro v144 w15 ho16 hb hg_ hnew_; clear hg_ hnew_; (first | rw [← Ny143.out] at ho16 | (simp only [Int.reduceToNat] at ho16; rw [← Ny143.out] at ho16)); have n0_ := Aside0.mk (Kd.R_lower ho16 (below_size (by repeat (first | (with_reducible first | exact HB.out | apply below_alloc | apply pw_below_drewN | apply below_drew1 | refine below_set ?_ GE139.out) | exact HB.out)))); have n1_ := Aside0.mk (blk_below (g := gb139) (o := .cells #[.int .i64 a0_0, .int .i64 a0_1, .slice A0_2 l0_2.length c0_2] 29 (0, 0)) (by (with_reducible repeat (first | refine blk_drewN ?_ _ | refine blk_drew ?_ | refine blk_alloc ?_ _)); exact BK139.out) hb); have n2_ := Aside0.mk (below_step (by repeat (first | (with_reducible first | exact HB.out | apply below_alloc | apply pw_below_drewN | apply below_drew1 | refine below_set ?_ GE139.out) | exact HB.out)) hb); clear BK139; clear HB; have HO145 := n0_; have BK139 := n1_; have HB := n2_; clear n0_ n1_ n2_; clear hb ho16; have p12 : 0 ≤ ((ji9) : Int) := of_decide_eq_true (by first | (with_reducible assumption) | assumption); have q12 : ((ji9) : Int) < ((y143.length : Int) : Int) := of_decide_eq_true (by first | (with_reducible assumption) | assumption); obtain ⟨go12, co12, eo12, gb12, gl12, cl12, HG12⟩ := Kd.R_form HO145.out (by omega); (first | cases eo12 | (injection eo12 with ea_ en_ ec_; (first | subst ea_ | (injection ea_ with ea_; subst ea_)); subst ec_; clear en_)); have GB12 := Aside0.mk gb12; have GG12 := Aside0.mk HG12; clear gb12 gl12 HG12; obtain ⟨hx12_0, hf12_0⟩ := Kd.R_celln false HO145.out ((ji9) : Int) p12 q12; replace p12 := eq_true p12; replace q12 := eq_true q12; obtain ⟨hy17_, hz17_⟩ := Kd.R_celln false HO145.out ((ji9) : Int) (of_decide_eq_true (by first | (with_reducible assumption) | assumption)) (of_decide_eq_true (by first | (with_reducible assumption) | assumption)); have HP17 := Kd.R_putg HO145.out ((ji9) : Int) true) | ((with_reducible refine gate_store (t := 4) (p := 53) rfl ?_); (try (rw [drewN_self w15]; generalize hq_ : World.drewN w15 _ = w15; have n0_ := Aside0.mk (Kd.R_at hq_ HO145.out); have n1_ := Aside0.mk (blk_at hq_ BK139.out); have n2_ := Aside0.mk (below_at hq_ HB.out); clear hq_ HO145 BK139 HB; have HO145 := n0_; have BK139 := n1_; have HB := n2_; clear n0_ n1_ n2_; (try (obtain ⟨hy17_, hz17_⟩ := Kd.R_celln false HO145.out ((ji9) : Int) (of_decide_eq_true (by first | (with_reducible assumption) | assumption)) (of_decide_eq_true (by first | (with_reducible assumption) | assumption)))); (try (have HP17 := Kd.R_putg HO145.out ((ji9) : Int) true)))); refine store_event (t := 4) (p := 53) (v := ?vo_w18) (w1 := (w15.setCell ⟨go12, ((ji9) : Int).toNat, none⟩ (.bool true))) ?hg ?ho ?hn ?hr ?_; (case ho => rfl); (case hg => rfl); (case hn => rfl); (case hr => first | (go_simp; done) | (go_simp; rfl)); intro w18 hw; have hg : w15.grownBy w18 (some go12) := (by rw [hw]; exact HP17.2); have hp_ : Kd.R Kd.bool 4 w18 w.heap.size (fun _ => True) (.slice (some ⟨go12, 0, none⟩) y143.length co12) y146 := (by rw [hw, Ny146.out]; exact HP17.1); clear HP17; have n0_ := Aside0.mk (blk_grown (g := gb139) (o := .cells #[.int .i64 a0_0, .int .i64 a0_1, .slice A0_2 l0_2.length c0_2] 29 (0, 0)) (by (with_reducible repeat (first | refine blk_drewN ?_ _ | refine blk_drew ?_ | refine blk_alloc ?_ _)); exact BK139.out) hg (Kd.R_ne HO145.out BK139.out (by decide))); have n1_ := Aside0.mk (hp_); have n2_ := Aside0.mk ((by rw [hw]; exact below_set (HB.out) GB12.out : Below w.heap.size w w18)); clear BK139; clear HO145; clear HB; have BK139 := n0_; have HO145 := n1_; have HB := n2_; clear n0_ n1_ n2_; clear hg hw hp_)))
                go_loopg [5, 10, 11] k1 (fun kq v5 v10 v11 w' => ∃ (x5_2 : Int) (x10_2 : List Bool) (x11_2 : Int), v5 = .int .i64 x5_2 ∧ v11 = .int .i64 x11_2 ∧ Aside0 (spec_l03Levels.l1 kq (wrap64 (2 * (l0_2.length : Int))) a0_1 x5_2 x6_1 t140 x10_2 x11_2 a0_0 a0_1 l0_2 = some r) ∧ Aside0 (kq ≤ k1) ∧ Aside0 (Kd.R Kd.bool 4 w' w.heap.size (fun _ => True) v10 x10_2) ∧ Aside0 (w'.heap[gb139]? = some (.cells #[.int .i64 a0_0, .int .i64 a0_1, (.slice A0_2 l0_2.length c0_2)] 29 (0, 0))) ∧ Aside0 (Below w.heap.size w w'))
                case atStart => exact ⟨(x5_1), (y146), (1), (by first | rfl | (simp; done) | (simp [*]; done)), (by first | rfl | (simp; done) | (simp [*]; done)), H', ⟨Nat.le_refl _⟩, ⟨by (with_reducible repeat (first | apply Kd.R_alloc | apply Kd.R_drewN | apply Kd.R_drew)); exact HO145.out⟩, ⟨by (with_reducible repeat (first | refine blk_drewN ?_ _ | refine blk_drew ?_ | refine blk_alloc ?_ _)); exact BK139.out⟩, ⟨by repeat (first | (with_reducible first | exact HB.out | apply below_alloc | apply pw_below_drewN | apply below_drew1 | refine below_set ?_ GE139.out) | exact HB.out)⟩⟩
                case round =>
                  try clear hji6w
                  try clear hji6
                  try clear hji9w
                  try clear hji9
                  clear H'
                  try clear c1
                  try clear p1
                  try clear q1
                  try clear hx1
                  try clear hf1
                  try clear p2
                  try clear c4
                  try clear c4b0
                  try clear c5
                  try clear p6
                  try clear c7
                  try clear c7b0
                  try clear c7b1
                  try clear c8
                  try clear c8b0
                  try clear c8b1
                  try clear c10
                  try clear c10b0
                  try clear c11
                  try clear c11b0
                  try clear p12
                  try clear q12
                  try clear hx12
                  try clear hf12
                  try clear hcz13_0
                  try clear hcz13_1
                  try clear hcz13_2
                  try clear hcz3_0
                  try clear hcz3_1
                  try clear hcz3_2
                  try clear hfz13_0
                  try clear hfz13_1
                  try clear hfz13_2
                  try clear hfz3_0
                  try clear hfz3_1
                  try clear hfz3_2
                  try clear hx12_0
                  try clear p12
                  try clear p2
                  try clear q12
                  obtain ⟨x5_2, x10_2, x11_2, rfl, rfl, HA, HK2, HO_10, BK139, HB⟩ := hrel
                  cases gk with
                  | zero => exact absurd HA.out (by simp [spec_l03Levels.l1])
                  | succ k2 =>
                    have H := HA.out
                    clear HA
                    simp only [spec_l03Levels.l1] at H
                    have HC19 := Aside0.mk H
                    clear H
                    go_upto_region 9 with (fail)
                    repeat (go_quiet (fail); go_upto_region 9 with (fail))
                    go_cut [64] (fun v64 wc => ∃ (kq : Nat) (x64_18 : Bool), v64 = .bool x64_18 ∧ Aside0 (spec_l03Levels.j2 kq (wrap64 (2 * (l0_2.length : Int))) a0_1 x5_2 x6_1 t140 x10_2 x11_2 x64_18 a0_0 a0_1 l0_2 = some r) ∧ Aside0 (kq ≤ k2) ∧ Aside0 (Kd.R Kd.bool 4 wc w.heap.size (fun _ => True) u10 x10_2) ∧ Aside0 (wc.heap[gb139]? = some (.cells #[.int .i64 a0_0, .int .i64 a0_1, (.slice A0_2 l0_2.length c0_2)] 29 (0, 0))) ∧ Aside0 (Below w.heap.size w wc))
                    case first =>
                      have H := HC19.out
                      clear HC19
                      by_cases c20 : x11_2 ≤ 14
                      · rw [if_pos c20] at H
                        have c20b0 : decide (x11_2 ≤ 14) = true := decide_eq_true c20
                        clear c20
                        (first | rw [c20b0] | (simp only [i64_w, i32_w]; rw [c20b0]) | skip)
                        by_cases c21 : x5_2 = 0
                        · rw [if_pos c21] at H
                          have c21b0 : (x5_2 == 0) = true := beq_iff_eq.mpr c21
                          have c21b1 : (x5_2 != 0) = false := bne_eq_false_iff_eq.mpr c21
                          clear c21
                          have H' := Aside0.mk H
                          clear H
                          go_wp2
                          repeat (go_quiet (fail); try go_wp2)
                          go_meet
                          case rel => exact ⟨_, (true), (by first | rfl | (simp; done) | (simp [*]; done)), H', ⟨by have := HK1.out; have := HK2.out; first | omega | exact Nat.le_refl _⟩, ⟨by (with_reducible repeat (first | apply Kd.R_alloc | apply Kd.R_drewN | apply Kd.R_drew)); exact HO_10.out⟩, ⟨by (with_reducible repeat (first | refine blk_drewN ?_ _ | refine blk_drew ?_ | refine blk_alloc ?_ _)); exact BK139.out⟩, ⟨by repeat (first | (with_reducible first | exact HB.out | apply below_alloc | apply pw_below_drewN | apply below_drew1 | refine below_set ?_ GE139.out) | exact HB.out)⟩⟩
                        · rw [if_neg c21] at H
                          have c21b0 : (x5_2 == 0) = false := beq_eq_false_iff_ne.mpr c21
                          have c21b1 : (x5_2 != 0) = true := bne_iff_ne.mpr c21
                          have H' := Aside0.mk H
                          clear H
                          go_wp2
                          repeat (go_quiet (fail); try go_wp2)
                          go_meet
                          case rel => exact ⟨_, (decide (x11_2 < x5_2)), (by first | rfl | (simp; done) | (simp [*]; done)), H', ⟨by have := HK1.out; have := HK2.out; first | omega | exact Nat.le_refl _⟩, ⟨by (with_reducible repeat (first | apply Kd.R_alloc | apply Kd.R_drewN | apply Kd.R_drew)); exact HO_10.out⟩, ⟨by (with_reducible repeat (first | refine blk_drewN ?_ _ | refine blk_drew ?_ | refine blk_alloc ?_ _)); exact BK139.out⟩, ⟨by repeat (first | (with_reducible first | exact HB.out | apply below_alloc | apply pw_below_drewN | apply below_drew1 | refine below_set ?_ GE139.out) | exact HB.out)⟩⟩
                      · rw [if_neg c20] at H
                        have c20b0 : decide (x11_2 ≤ 14) = false := decide_eq_false c20
                        clear c20
                        (first | rw [c20b0] | (simp only [i64_w, i32_w]; rw [c20b0]) | skip)
                        have H' := Aside0.mk H
                        clear H
                        go_wp2
                        repeat (go_quiet (fail); try go_wp2)
                        go_meet
                        case rel => exact ⟨_, (false), (by first | rfl | (simp; done) | (simp [*]; done)), H', ⟨by have := HK1.out; have := HK2.out; first | omega | exact Nat.le_refl _⟩, ⟨by (with_reducible repeat (first | apply Kd.R_alloc | apply Kd.R_drewN | apply Kd.R_drew)); exact HO_10.out⟩, ⟨by (with_reducible repeat (first | refine blk_drewN ?_ _ | refine blk_drew ?_ | refine blk_alloc ?_ _)); exact BK139.out⟩, ⟨by repeat (first | (with_reducible first | exact HB.out | apply below_alloc | apply pw_below_drewN | apply below_drew1 | refine below_set ?_ GE139.out) | exact HB.out)⟩⟩
                    case rest =>
                      try clear hji6w
                      try clear hji6
                      try clear hji9w
                      try clear hji9
                      clear HC19
                      try clear c1
                      try clear p1
                      try clear q1
                      try clear hx1
                      try clear hf1
                      try clear c2
                      try clear p2
                      try clear c4
                      try clear c4b0
                      try clear c5
                      try clear p6
                      try clear c7
                      try clear c7b0
                      try clear c7b1
                      try clear c8
                      try clear c8b0
                      try clear c8b1
                      try clear c10
                      try clear c10b0
                      try clear c11
                      try clear c11b0
                      try clear p12
                      try clear q12
                      try clear hx12
                      try clear hf12
                      try clear c20
                      try clear c20b0
                      try clear c21
                      try clear c21b0
                      try clear c21b1
                      try clear hcz13_0
                      try clear hcz13_1
                      try clear hcz13_2
                      try clear hcz3_0
                      try clear hcz3_1
                      try clear hcz3_2
                      try clear hfz13_0
                      try clear hfz13_1
                      try clear hfz13_2
                      try clear hfz3_0
                      try clear hfz3_1
                      try clear hfz3_2
                      try clear hx12_0
                      try clear p1
                      try clear p12
                      try clear p2
                      try clear p6
                      try clear q1
                      try clear q12
                      obtain ⟨kq, x64_18, rfl, HA, HJ18, HO_10, BK139, HB⟩ := hcut
                      cases kq with
                      | zero => exact absurd HA.out (by simp [spec_l03Levels.j2])
                      | succ kj18 =>
                        have H := HA.out
                        clear HA
                        simp only [spec_l03Levels.j2] at H
                        by_cases c22 : x64_18 = true
                        · subst c22
                          have H1 : (if 0 ≤ (wrap64 ((wrap64 (2 * (l0_2.length : Int))) * a0_1)) then (if (wrap64 ((wrap64 (2 * (l0_2.length : Int))) * a0_1) : Int).toNat ≤ 281474976710656 then (spec_l03Levels.l2 kj18 (wrap64 (2 * (l0_2.length : Int))) a0_1 x5_2 x6_1 t140 x10_2 x11_2 (List.replicate (wrap64 ((wrap64 (2 * (l0_2.length : Int))) * a0_1) : Int).toNat false) false 0 a0_0 a0_1 l0_2) else (none)) else (none)) = some r := by rw [if_pos rfl] at H; exact H
                          clear H
                          have H := H1
                          clear H1
                          obtain ⟨ji23, hji23⟩ : ∃ j_ : Int, (wrap64 ((wrap64 (2 * (l0_2.length : Int))) * a0_1)) = j_ := ⟨_, rfl⟩
                          replace H : (if 0 ≤ (ji23) then (if (ji23 : Int).toNat ≤ 281474976710656 then (spec_l03Levels.l2 kj18 (wrap64 (2 * (l0_2.length : Int))) a0_1 x5_2 x6_1 t140 x10_2 x11_2 (List.replicate (ji23 : Int).toNat false) false 0 a0_0 a0_1 l0_2) else (none)) else (none)) = some r := by first | (rw [hji23] at H; exact H) | (simp only [hji23] at H ⊢; exact H)
                          have hji23w : (IntKind.i64.wrap ((wrap64 (2 * (l0_2.length : Int))) * a0_1)) = ji23 := (i64_w _).trans hji23
                          try clear hji6w
                          by_cases c24 : 0 ≤ (ji23)
                          · rw [if_pos c24] at H
                            have c24b0 := eq_true c24
                            have c24b1 : decide (0 ≤ (ji23)) = true := decide_eq_true c24
                            clear c24
                            by_cases c25 : (ji23 : Int).toNat ≤ 281474976710656
                            · rw [if_pos c25] at H
                              have c25b0 := eq_true c25
                              have c25b1 : decide ((ji23 : Int).toNat ≤ 281474976710656) = true := decide_eq_true c25
                              clear c25
                              obtain ⟨y147, hy147⟩ : ∃ y_ : List Bool, y_ = (List.replicate (ji23 : Int).toNat false) := ⟨_, rfl⟩
                              replace H : (spec_l03Levels.l2 kj18 (wrap64 (2 * (l0_2.length : Int))) a0_1 x5_2 x6_1 t140 x10_2 x11_2 y147 false 0 a0_0 a0_1 l0_2) = some r := by first | (rw [hy147]; with_reducible exact H) | (have H2_ := (Option.bind_some _ _).symm.trans H; rw [hy147]; with_reducible exact H2_) | (have H2_ := (Option.bind_some _ _).symm.trans H; with_reducible exact H2_) | with_reducible exact H | (rw [hy147]; exact H) | exact H
                              have Ny147 := Aside0.mk hy147
                              clear hy147
                              have H' := Aside0.mk H
                              clear H
                              go_wp2_with (first | ((with_reducible refine gate_dst (N := 70) rfl ?_); refine Kd.R_make Kd.bool _ 4 rfl (N := 70) rfl 82 _ _ rfl ji23 rfl rfl Try.underlying82 (.bool false) 1 info4 rfl (by decide) (by omega) false (ok := fun _ => True) (okp := fun _ => True) rfl (fun _ hk => hk) trivial (of_decide_eq_true (by first | (with_reducible assumption) | assumption)) (Nat.le_trans (Nat.mul_le_mul_right _ (of_decide_eq_true (by first | (with_reducible assumption) | assumption) : ji23.toNat ≤ 281474976710656)) (by omega)) (Below.refl _ _) (Nat.le_refl _) ?_; intro v148 w26 ho27 hb hg_ hnew_; clear hg_ hnew_; (first | rw [← Ny147.out] at ho27 | (simp only [Int.reduceToNat] at ho27; rw [← Ny147.out] at ho27)); have n0_ := Aside0.mk (Kd.R_elder' (by (with_reducible repeat (first | apply Kd.R_alloc | apply Kd.R_drewN | apply Kd.R_drew)); exact HO_10.out) (Kd.R_base ho27) hb); have n1_ := Aside0.mk (Kd.R_lower (Kd.R_new' ho27 (Kd.R_lt (by (with_reducible repeat (first | apply Kd.R_alloc | apply Kd.R_drewN | apply Kd.R_drew)); exact HO_10.out))) (below_size (by repeat (first | (with_reducible first | exact HB.out | apply below_alloc | apply pw_below_drewN | apply below_drew1 | refine below_set ?_ GE139.out) | exact HB.out)))); have n2_ := Aside0.mk (blk_below (g := gb139) (o := .cells #[.int .i64 a0_0, .int .i64 a0_1, .slice A0_2 l0_2.length c0_2] 29 (0, 0)) (by (with_reducible repeat (first | refine blk_drewN ?_ _ | refine blk_drew ?_ | refine blk_alloc ?_ _)); exact BK139.out) hb); have n3_ := Aside0.mk (below_step (by repeat (first | (with_reducible first | exact HB.out | apply below_alloc | apply pw_below_drewN | apply below_drew1 | refine below_set ?_ GE139.out) | exact HB.out)) hb); clear HO_10; clear BK139; clear HB; have HO_10 := n0_; have HO149 := n1_; have BK139 := n2_; have HB := n3_; clear n0_ n1_ n2_ n3_; clear hb ho27))
                              repeat (go_quiet (first | ((with_reducible refine gate_dst (N := 70) rfl ?_); refine Kd.R_make Kd.bool _ 4 rfl (N := 70) rfl 82 _ _ rfl ji23 rfl rfl Try.underlying82 (.bool false) 1 info4 rfl (by decide) (by omega) false (ok := fun _ => True) (okp := fun _ => True) rfl (fun _ hk => hk) trivial (of_decide_eq_true (by first | (with_reducible assumption) | assumption)) (Nat.le_trans (Nat.mul_le_mul_right _ (of_decide_eq_true (by first | (with_reducible assumption) | assumption) : ji23.toNat ≤ 281474976710656)) (by omega)) (Below.refl _ _) (Nat.le_refl _) ?_; intro v148 w26 ho27 hb hg_ hnew_; clear hg_ hnew_; (first | rw [← Ny147.out] at ho27 | (simp only [Int.reduceToNat] at ho27; rw [← Ny147.out] at ho27)); have n0_ := Aside0.mk (Kd.R_elder' (by (with_reducible repeat (first | apply Kd.R_alloc | apply Kd.R_drewN | apply Kd.R_drew)); exact HO_10.out) (Kd.R_base ho27) hb); have n1_ := Aside0.mk (Kd.R_lower (Kd.R_new' ho27 (Kd.R_lt (by (with_reducible repeat (first | apply Kd.R_alloc | apply Kd.R_drewN | apply Kd.R_drew)); exact HO_10.out))) (below_size (by repeat (first | (with_reducible first | exact HB.out | apply below_alloc | apply pw_below_drewN | apply below_drew1 | refine below_set ?_ GE139.out) | exact HB.out)))); have n2_ := Aside0.mk (blk_below (g := gb139) (o := .cells #[.int .i64 a0_0, .int .i64 a0_1, .slice A0_2 l0_2.length c0_2] 29 (0, 0)) (by (with_reducible repeat (first | refine blk_drewN ?_ _ | refine blk_drew ?_ | refine blk_alloc ?_ _)); exact BK139.out) hb); have n3_ := Aside0.mk (below_step (by repeat (first | (with_reducible first | exact HB.out | apply below_alloc | apply pw_below_drewN | apply below_drew1 | refine below_set ?_ GE139.out) | exact HB.out)) hb); clear HO_10; clear BK139; clear HB; have HO_10 := n0_; have HO149 := n1_; have BK139 := n2_; have HB := n3_; clear n0_ n1_ n2_ n3_; clear hb ho27)); try go_wp2_with (first | ((with_reducible refine gate_dst (N := 70) rfl ?_); refine Kd.R_make Kd.bool _ 4 rfl (N := 70) rfl 82 _ _ rfl ji23 rfl rfl Try.underlying82 (.bool false) 1 info4 rfl (by decide) (by omega) false (ok := fun _ => True) (okp := fun _ => True) rfl (fun _ hk => hk) trivial (of_decide_eq_true (by first | (with_reducible assumption) | assumption)) (Nat.le_trans (Nat.mul_le_mul_right _ (of_decide_eq_true (by first | (with_reducible assumption) | assumption) : ji23.toNat ≤ 281474976710656)) (by omega)) (Below.refl _ _) (Nat.le_refl _) ?_; intro v148 w26 ho27 hb hg_ hnew_; clear hg_ hnew_; (first | rw [← Ny147.out] at ho27 | (simp only [Int.reduceToNat] at ho27; rw [← Ny147.out] at ho27)); have n0_ := Aside0.mk (Kd.R_elder' (by (with_reducible repeat (first | apply Kd.R_alloc | apply Kd.R_drewN | apply Kd.R_drew)); exact HO_10.out) (Kd.R_base ho27) hb); have n1_ := Aside0.mk (Kd.R_lower (Kd.R_new' ho27 (Kd.R_lt (by (with_reducible repeat (first | apply Kd.R_alloc | apply Kd.R_drewN | apply Kd.R_drew)); exact HO_10.out))) (below_size (by repeat (first | (with_reducible first | exact HB.out | apply below_alloc | apply pw_below_drewN | apply below_drew1 | refine below_set ?_ GE139.out) | exact HB.out)))); have n2_ := Aside0.mk (blk_below (g := gb139) (o := .cells #[.int .i64 a0_0, .int .i64 a0_1, .slice A0_2 l0_2.length c0_2] 29 (0, 0)) (by (with_reducible repeat (first | refine blk_drewN ?_ _ | refine blk_drew ?_ | refine blk_alloc ?_ _)); exact BK139.out) hb); have n3_ := Aside0.mk (below_step (by repeat (first | (with_reducible first | exact HB.out | apply below_alloc | apply pw_below_drewN | apply below_drew1 | refine below_set ?_ GE139.out) | exact HB.out)) hb); clear HO_10; clear BK139; clear HB; have HO_10 := n0_; have HO149 := n1_; have BK139 := n2_; have HB := n3_; clear n0_ n1_ n2_ n3_; clear hb ho27)))
                              go_loopg [13, 14] kj18 (fun kq v13 v14 w' => ∃ (x12_4 : List Bool) (x13_4 : Bool) (x14_4 : Int), v13 = .bool x13_4 ∧ v14 = .int .i64 x14_4 ∧ Aside0 (spec_l03Levels.l2 kq (wrap64 (2 * (l0_2.length : Int))) a0_1 x5_2 x6_1 t140 x10_2 x11_2 x12_4 x13_4 x14_4 a0_0 a0_1 l0_2 = some r) ∧ Aside0 (kq ≤ kj18) ∧ Aside0 (Kd.R Kd.bool 4 w' w.heap.size (fun k_ => some k_ ≠ (v148 : Value).ownBlock) u10 x10_2) ∧ Aside0 (Kd.R Kd.bool 4 w' w.heap.size (fun k_ => some k_ ≠ (u10 : Value).ownBlock) v148 x12_4) ∧ Aside0 (w'.heap[gb139]? = some (.cells #[.int .i64 a0_0, .int .i64 a0_1, (.slice A0_2 l0_2.length c0_2)] 29 (0, 0))) ∧ Aside0 (Below w.heap.size w w'))
                              case atStart => exact ⟨(y147), (false), (0), (by first | rfl | (simp; done) | (simp [*]; done)), (by first | rfl | (simp; done) | (simp [*]; done)), H', ⟨Nat.le_refl _⟩, ⟨by (with_reducible repeat (first | apply Kd.R_alloc | apply Kd.R_drewN | apply Kd.R_drew)); exact Kd.R_mono HO_10.out (fun _ hk => hk.2)⟩, ⟨by (with_reducible repeat (first | apply Kd.R_alloc | apply Kd.R_drewN | apply Kd.R_drew)); exact Kd.R_mono HO149.out (fun _ hk => hk.2)⟩, ⟨by (with_reducible repeat (first | refine blk_drewN ?_ _ | refine blk_drew ?_ | refine blk_alloc ?_ _)); exact BK139.out⟩, ⟨by repeat (first | (with_reducible first | exact HB.out | apply below_alloc | apply pw_below_drewN | apply below_drew1 | refine below_set ?_ GE139.out) | exact HB.out)⟩⟩
                              case round =>
                                try clear hji6w
                                try clear hji6
                                try clear hji23w
                                try clear hji23
                                try clear hji9w
                                try clear hji9
                                clear H'
                                try clear c1
                                try clear p1
                                try clear q1
                                try clear hx1
                                try clear hf1
                                try clear c2
                                try clear p2
                                try clear c4
                                try clear c4b0
                                try clear c5
                                try clear p6
                                try clear c7
                                try clear c7b0
                                try clear c7b1
                                try clear c8
                                try clear c8b0
                                try clear c8b1
                                try clear c10
                                try clear c10b0
                                try clear c11
                                try clear c11b0
                                try clear p12
                                try clear q12
                                try clear hx12
                                try clear hf12
                                try clear c20
                                try clear c20b0
                                try clear c21
                                try clear c21b0
                                try clear c21b1
                                try clear c22
                                try clear c24
                                try clear c24b0
                                try clear c24b1
                                try clear c25
                                try clear c25b0
                                try clear c25b1
                                try clear hcz13_0
                                try clear hcz13_1
                                try clear hcz13_2
                                try clear hcz3_0
                                try clear hcz3_1
                                try clear hcz3_2
                                try clear hfz13_0
                                try clear hfz13_1
                                try clear hfz13_2
                                try clear hfz3_0
                                try clear hfz3_1
                                try clear hfz3_2
                                try clear hx12_0
                                try clear p1
                                try clear p12
                                try clear p2
                                try clear p6
                                try clear q1
                                try clear q12
                                obtain ⟨x12_4, x13_4, x14_4, rfl, rfl, HA, HK4, HO_10, HO_12, BK139, HB⟩ := hrel
                                cases gk with
                                | zero => exact absurd HA.out (by simp [spec_l03Levels.l2])
                                | succ k4 =>
                                  have H := HA.out
                                  clear HA
                                  simp only [spec_l03Levels.l2] at H
                                  by_cases c28 : x14_4 < (wrap64 ((wrap64 (2 * (l0_2.length : Int))) * a0_1))
                                  · rw [if_pos c28] at H
                                    have c28b0 : decide (x14_4 < (wrap64 ((wrap64 (2 * (l0_2.length : Int))) * a0_1))) = true := decide_eq_true c28
                                    clear c28
                                    by_cases c29 : 0 ≤ x14_4
                                    · rw [if_pos c29] at H
                                      have c29b0 : decide (0 ≤ x14_4) = true := decide_eq_true c29
                                      clear c29
                                      by_cases c30 : x14_4 < (x10_2.length : Int)
                                      · rw [if_pos c30] at H
                                        have c30b0 : decide (x14_4 < (x10_2.length : Int)) = true := decide_eq_true c30
                                        clear c30
                                        obtain ⟨bq31, hbq31⟩ : ∃ b_ : Bool, b_ = (rdOf false x10_2 x14_4) := ⟨_, rfl⟩
                                        replace H : (if bq31 = true then (if a0_1 = 0 then (none) else ((spec_l03Step.f a0_0 a0_1 l0_2 (wrap64 (Int.tdiv x14_4 a0_1))).bind fun bt151 => (if x13_4 = true then (spec_l03Levels.j4 k4 (wrap64 (2 * (l0_2.length : Int))) a0_1 x5_2 x6_1 t140 x10_2 x11_2 x12_4 true x14_4 (Int.tmod x14_4 a0_1) bt151.2.1 (wrap64 ((wrap64 ((wrap64 (Int.tdiv x14_4 a0_1)) + 1)) - (wrap64 (2 * (Int.tmod (wrap64 (Int.tdiv x14_4 a0_1)) 2))))) a0_0 a0_1 l0_2) else (if bt151.2.1 = t140 then (if (Int.tmod x14_4 a0_1) = 0 then (spec_l03Levels.j4 k4 (wrap64 (2 * (l0_2.length : Int))) a0_1 x5_2 x6_1 t140 x10_2 x11_2 x12_4 ((wrap64 ((wrap64 ((wrap64 (Int.tdiv x14_4 a0_1)) + 1)) - (wrap64 (2 * (Int.tmod (wrap64 (Int.tdiv x14_4 a0_1)) 2))))) != x6_1) x14_4 (Int.tmod x14_4 a0_1) bt151.2.1 (wrap64 ((wrap64 ((wrap64 (Int.tdiv x14_4 a0_1)) + 1)) - (wrap64 (2 * (Int.tmod (wrap64 (Int.tdiv x14_4 a0_1)) 2))))) a0_0 a0_1 l0_2) else (spec_l03Levels.j4 k4 (wrap64 (2 * (l0_2.length : Int))) a0_1 x5_2 x6_1 t140 x10_2 x11_2 x12_4 false x14_4 (Int.tmod x14_4 a0_1) bt151.2.1 (wrap64 ((wrap64 ((wrap64 (Int.tdiv x14_4 a0_1)) + 1)) - (wrap64 (2 * (Int.tmod (wrap64 (Int.tdiv x14_4 a0_1)) 2))))) a0_0 a0_1 l0_2)) else (spec_l03Levels.j4 k4 (wrap64 (2 * (l0_2.length : Int))) a0_1 x5_2 x6_1 t140 x10_2 x11_2 x12_4 false x14_4 (Int.tmod x14_4 a0_1) bt151.2.1 (wrap64 ((wrap64 ((wrap64 (Int.tdiv x14_4 a0_1)) + 1)) - (wrap64 (2 * (Int.tmod (wrap64 (Int.tdiv x14_4 a0_1)) 2))))) a0_0 a0_1 l0_2))))) else (spec_l03Levels.l2 k4 (wrap64 (2 * (l0_2.length : Int))) a0_1 x5_2 x6_1 t140 x10_2 x11_2 x12_4 x13_4 (wrap64 (x14_4 + 1)) a0_0 a0_1 l0_2)) = some r := by rw [← hbq31] at H; exact H
                                        have Nbq31 := Aside0.mk hbq31
                                        clear hbq31
                                        by_cases c32 : bq31 = true
                                        · subst c32
                                          have H1 : (if a0_1 = 0 then (none) else ((spec_l03Step.f a0_0 a0_1 l0_2 (wrap64 (Int.tdiv x14_4 a0_1))).bind fun bt151 => (if x13_4 = true then (spec_l03Levels.j4 k4 (wrap64 (2 * (l0_2.length : Int))) a0_1 x5_2 x6_1 t140 x10_2 x11_2 x12_4 true x14_4 (Int.tmod x14_4 a0_1) bt151.2.1 (wrap64 ((wrap64 ((wrap64 (Int.tdiv x14_4 a0_1)) + 1)) - (wrap64 (2 * (Int.tmod (wrap64 (Int.tdiv x14_4 a0_1)) 2))))) a0_0 a0_1 l0_2) else (if bt151.2.1 = t140 then (if (Int.tmod x14_4 a0_1) = 0 then (spec_l03Levels.j4 k4 (wrap64 (2 * (l0_2.length : Int))) a0_1 x5_2 x6_1 t140 x10_2 x11_2 x12_4 ((wrap64 ((wrap64 ((wrap64 (Int.tdiv x14_4 a0_1)) + 1)) - (wrap64 (2 * (Int.tmod (wrap64 (Int.tdiv x14_4 a0_1)) 2))))) != x6_1) x14_4 (Int.tmod x14_4 a0_1) bt151.2.1 (wrap64 ((wrap64 ((wrap64 (Int.tdiv x14_4 a0_1)) + 1)) - (wrap64 (2 * (Int.tmod (wrap64 (Int.tdiv x14_4 a0_1)) 2))))) a0_0 a0_1 l0_2) else (spec_l03Levels.j4 k4 (wrap64 (2 * (l0_2.length : Int))) a0_1 x5_2 x6_1 t140 x10_2 x11_2 x12_4 false x14_4 (Int.tmod x14_4 a0_1) bt151.2.1 (wrap64 ((wrap64 ((wrap64 (Int.tdiv x14_4 a0_1)) + 1)) - (wrap64 (2 * (Int.tmod (wrap64 (Int.tdiv x14_4 a0_1)) 2))))) a0_0 a0_1 l0_2)) else (spec_l03Levels.j4 k4 (wrap64 (2 * (l0_2.length : Int))) a0_1 x5_2 x6_1 t140 x10_2 x11_2 x12_4 false x14_4 (Int.tmod x14_4 a0_1) bt151.2.1 (wrap64 ((wrap64 ((wrap64 (Int.tdiv x14_4 a0_1)) + 1)) - (wrap64 (2 * (Int.tmod (wrap64 (Int.tdiv x14_4 a0_1)) 2))))) a0_0 a0_1 l0_2))))) = some r := by rw [if_pos rfl] at H; exact H
                                          clear H
                                          have H := H1
                                          clear H1
                                          by_cases c33 : a0_1 = 0
                                          · rw [if_pos c33] at H
                                            exact absurd H (by simp)
                                          · rw [if_neg c33] at H
                                            have c33b0 : (a0_1 == 0) = false := beq_eq_false_iff_ne.mpr c33
                                            have c33b1 : (a0_1 != 0) = true := bne_iff_ne.mpr c33
                                            replace H := Option.bind_eq_some_iff.mp H
                                            obtain ⟨⟨t151, t152, t153⟩, A340, H⟩ := H
                                            replace H : (if x13_4 = true then (spec_l03Levels.j4 k4 (wrap64 (2 * (l0_2.length : Int))) a0_1 x5_2 x6_1 t140 x10_2 x11_2 x12_4 true x14_4 (Int.tmod x14_4 a0_1) t152 (wrap64 ((wrap64 ((wrap64 (Int.tdiv x14_4 a0_1)) + 1)) - (wrap64 (2 * (Int.tmod (wrap64 (Int.tdiv x14_4 a0_1)) 2))))) a0_0 a0_1 l0_2) else (if t152 = t140 then (if (Int.tmod x14_4 a0_1) = 0 then (spec_l03Levels.j4 k4 (wrap64 (2 * (l0_2.length : Int))) a0_1 x5_2 x6_1 t140 x10_2 x11_2 x12_4 ((wrap64 ((wrap64 ((wrap64 (Int.tdiv x14_4 a0_1)) + 1)) - (wrap64 (2 * (Int.tmod (wrap64 (Int.tdiv x14_4 a0_1)) 2))))) != x6_1) x14_4 (Int.tmod x14_4 a0_1) t152 (wrap64 ((wrap64 ((wrap64 (Int.tdiv x14_4 a0_1)) + 1)) - (wrap64 (2 * (Int.tmod (wrap64 (Int.tdiv x14_4 a0_1)) 2))))) a0_0 a0_1 l0_2) else (spec_l03Levels.j4 k4 (wrap64 (2 * (l0_2.length : Int))) a0_1 x5_2 x6_1 t140 x10_2 x11_2 x12_4 false x14_4 (Int.tmod x14_4 a0_1) t152 (wrap64 ((wrap64 ((wrap64 (Int.tdiv x14_4 a0_1)) + 1)) - (wrap64 (2 * (Int.tmod (wrap64 (Int.tdiv x14_4 a0_1)) 2))))) a0_0 a0_1 l0_2)) else (spec_l03Levels.j4 k4 (wrap64 (2 * (l0_2.length : Int))) a0_1 x5_2 x6_1 t140 x10_2 x11_2 x12_4 false x14_4 (Int.tmod x14_4 a0_1) t152 (wrap64 ((wrap64 ((wrap64 (Int.tdiv x14_4 a0_1)) + 1)) - (wrap64 (2 * (Int.tmod (wrap64 (Int.tdiv x14_4 a0_1)) 2))))) a0_0 a0_1 l0_2))) = some r := H
                                            have A34 := Aside0.mk A340
                                            clear A340
                                            have HC35 := Aside0.mk H
                                            clear H
                                            obtain ⟨Ao36, co36, eo36⟩ := Kd.R_slice HO_10.out
                                            subst eo36
                                            have p150 : 0 ≤ (x14_4 : Int) := of_decide_eq_true (by first | (with_reducible assumption) | assumption)
                                            have q150 : x14_4 < (x10_2.length : Int) := of_decide_eq_true (by first | (with_reducible assumption) | assumption)
                                            obtain ⟨ad150, e150, hx150_0⟩ := Kd.at_bool (Kd.R_reads' HO_10.out).2.2 x14_4 p150 q150
                                            (try rw [← Nbq31.out] at hx150_0)
                                            cases e150
                                            replace p150 := eq_true p150
                                            replace q150 := eq_true q150
                                            have hcz37_0 : wr.cell? ⟨gb139, 0, none⟩ = some (.int .i64 a0_0) := (blk_cell BK139.out 0).trans rfl
                                            have hcz37_1 : wr.cell? ⟨gb139, 1, none⟩ = some (.int .i64 a0_1) := (blk_cell BK139.out 1).trans rfl
                                            have hcz37_2 : wr.cell? ⟨gb139, 2, none⟩ = some (.slice A0_2 l0_2.length c0_2) := (blk_cell BK139.out 2).trans rfl
                                            have hfz37_0 := blk_frozen BK139.out 0
                                            have hfz37_1 := blk_frozen BK139.out 1
                                            have hfz37_2 := blk_frozen BK139.out 2
                                            go_upto_region 19 with (first | (go_at_call 46; (with_reducible refine (spec_l03Step.calls a0_0 a0_1 _ _ l0_2 (wrap64 (Int.tdiv x14_4 a0_1)) t151 t152 t153 _ ?side1 ?side2 A34.out).mono ?_); (case side1 => repeat (first | exact (Kd.C_below HR0_2.out HB.out) | (with_reducible refine Kd.C_alloc ?_ _) | (with_reducible refine Kd.C_drewN ?_ _) | (with_reducible refine Kd.C_drew ?_))); (case side2 => exact HC0_2.out); rintro e w38 ⟨rfl, hb⟩; have n0_ := Aside0.mk (Kd.R_below (by (with_reducible repeat (first | apply Kd.R_alloc | apply Kd.R_drewN | apply Kd.R_drew)); exact HO_10.out) hb); have n1_ := Aside0.mk (Kd.R_below (by (with_reducible repeat (first | apply Kd.R_alloc | apply Kd.R_drewN | apply Kd.R_drew)); exact HO_12.out) hb); have n2_ := Aside0.mk (blk_below (g := gb139) (o := .cells #[.int .i64 a0_0, .int .i64 a0_1, .slice A0_2 l0_2.length c0_2] 29 (0, 0)) (by (with_reducible repeat (first | refine blk_drewN ?_ _ | refine blk_drew ?_ | refine blk_alloc ?_ _)); exact BK139.out) hb); have n3_ := Aside0.mk (below_step (by repeat (first | (with_reducible first | exact HB.out | apply below_alloc | apply pw_below_drewN | apply below_drew1 | refine below_set ?_ GE139.out) | exact HB.out)) hb); clear HO_10; clear HO_12; clear BK139; clear HB; have HO_10 := n0_; have HO_12 := n1_; have BK139 := n2_; have HB := n3_; clear n0_ n1_ n2_ n3_; (try clear hb); (try clear hb2); (try clear hk); (try clear hi)))
                                            repeat (go_quiet (first | (go_at_call 46; (with_reducible refine (spec_l03Step.calls a0_0 a0_1 _ _ l0_2 (wrap64 (Int.tdiv x14_4 a0_1)) t151 t152 t153 _ ?side1 ?side2 A34.out).mono ?_); (case side1 => repeat (first | exact (Kd.C_below HR0_2.out HB.out) | (with_reducible refine Kd.C_alloc ?_ _) | (with_reducible refine Kd.C_drewN ?_ _) | (with_reducible refine Kd.C_drew ?_))); (case side2 => exact HC0_2.out); rintro e w38 ⟨rfl, hb⟩; have n0_ := Aside0.mk (Kd.R_below (by (with_reducible repeat (first | apply Kd.R_alloc | apply Kd.R_drewN | apply Kd.R_drew)); exact HO_10.out) hb); have n1_ := Aside0.mk (Kd.R_below (by (with_reducible repeat (first | apply Kd.R_alloc | apply Kd.R_drewN | apply Kd.R_drew)); exact HO_12.out) hb); have n2_ := Aside0.mk (blk_below (g := gb139) (o := .cells #[.int .i64 a0_0, .int .i64 a0_1, .slice A0_2 l0_2.length c0_2] 29 (0, 0)) (by (with_reducible repeat (first | refine blk_drewN ?_ _ | refine blk_drew ?_ | refine blk_alloc ?_ _)); exact BK139.out) hb); have n3_ := Aside0.mk (below_step (by repeat (first | (with_reducible first | exact HB.out | apply below_alloc | apply pw_below_drewN | apply below_drew1 | refine below_set ?_ GE139.out) | exact HB.out)) hb); clear HO_10; clear HO_12; clear BK139; clear HB; have HO_10 := n0_; have HO_12 := n1_; have BK139 := n2_; have HB := n3_; clear n0_ n1_ n2_ n3_; (try clear hb); (try clear hb2); (try clear hk); (try clear hi))); go_upto_region 19 with (first | (go_at_call 46; (with_reducible refine (spec_l03Step.calls a0_0 a0_1 _ _ l0_2 (wrap64 (Int.tdiv x14_4 a0_1)) t151 t152 t153 _ ?side1 ?side2 A34.out).mono ?_); (case side1 => repeat (first | exact (Kd.C_below HR0_2.out HB.out) | (with_reducible refine Kd.C_alloc ?_ _) | (with_reducible refine Kd.C_drewN ?_ _) | (with_reducible refine Kd.C_drew ?_))); (case side2 => exact HC0_2.out); rintro e w38 ⟨rfl, hb⟩; have n0_ := Aside0.mk (Kd.R_below (by (with_reducible repeat (first | apply Kd.R_alloc | apply Kd.R_drewN | apply Kd.R_drew)); exact HO_10.out) hb); have n1_ := Aside0.mk (Kd.R_below (by (with_reducible repeat (first | apply Kd.R_alloc | apply Kd.R_drewN | apply Kd.R_drew)); exact HO_12.out) hb); have n2_ := Aside0.mk (blk_below (g := gb139) (o := .cells #[.int .i64 a0_0, .int .i64 a0_1, .slice A0_2 l0_2.length c0_2] 29 (0, 0)) (by (with_reducible repeat (first | refine blk_drewN ?_ _ | refine blk_drew ?_ | refine blk_alloc ?_ _)); exact BK139.out) hb); have n3_ := Aside0.mk (below_step (by repeat (first | (with_reducible first | exact HB.out | apply below_alloc | apply pw_below_drewN | apply below_drew1 | refine below_set ?_ GE139.out) | exact HB.out)) hb); clear HO_10; clear HO_12; clear BK139; clear HB; have HO_10 := n0_; have HO_12 := n1_; have BK139 := n2_; have HB := n3_; clear n0_ n1_ n2_ n3_; (try clear hb); (try clear hb2); (try clear hk); (try clear hi))))
                                            (try simp only [Act.put, List.setIfInBounds_toArray, List.set_cons_zero, List.set_cons_succ])
                                            go_cut [13] (fun v13 wc => ∃ (kq : Nat) (x13_34 : Bool), v13 = .bool x13_34 ∧ Aside0 (spec_l03Levels.j4 kq (wrap64 (2 * (l0_2.length : Int))) a0_1 x5_2 x6_1 t140 x10_2 x11_2 x12_4 x13_34 x14_4 (Int.tmod x14_4 a0_1) t152 (wrap64 ((wrap64 ((wrap64 (Int.tdiv x14_4 a0_1)) + 1)) - (wrap64 (2 * (Int.tmod (wrap64 (Int.tdiv x14_4 a0_1)) 2))))) a0_0 a0_1 l0_2 = some r) ∧ Aside0 (kq ≤ k4) ∧ Aside0 (Kd.R Kd.bool 4 wc w.heap.size (fun k_ => some k_ ≠ (v148 : Value).ownBlock) (.slice (some ad150) x10_2.length co36) x10_2) ∧ Aside0 (Kd.R Kd.bool 4 wc w.heap.size (fun k_ => some k_ ≠ ((.slice (some ad150) x10_2.length co36) : Value).ownBlock) v148 x12_4) ∧ Aside0 (wc.heap[gb139]? = some (.cells #[.int .i64 a0_0, .int .i64 a0_1, (.slice A0_2 l0_2.length c0_2)] 29 (0, 0))) ∧ Aside0 (Below w.heap.size w wc))
                                            case first =>
                                              have H := HC35.out
                                              clear HC35
                                              by_cases c39 : x13_4 = true
                                              · subst c39
                                                have H1 : (spec_l03Levels.j4 k4 (wrap64 (2 * (l0_2.length : Int))) a0_1 x5_2 x6_1 t140 x10_2 x11_2 x12_4 true x14_4 (Int.tmod x14_4 a0_1) t152 (wrap64 ((wrap64 ((wrap64 (Int.tdiv x14_4 a0_1)) + 1)) - (wrap64 (2 * (Int.tmod (wrap64 (Int.tdiv x14_4 a0_1)) 2))))) a0_0 a0_1 l0_2) = some r := by rw [if_pos rfl] at H; exact H
                                                clear H
                                                have H := H1
                                                clear H1
                                                have H' := Aside0.mk H
                                                clear H
                                                go_wp2
                                                repeat (go_quiet (fail); try go_wp2)
                                                go_meet
                                                case rel => exact ⟨_, (true), (by first | rfl | (simp; done) | (simp [*]; done)), H', ⟨by have := HK1.out; have := HK2.out; have := HJ18.out; have := HK4.out; first | omega | exact Nat.le_refl _⟩, ⟨by (with_reducible repeat (first | apply Kd.R_alloc | apply Kd.R_drewN | apply Kd.R_drew)); exact HO_10.out⟩, ⟨by (with_reducible repeat (first | apply Kd.R_alloc | apply Kd.R_drewN | apply Kd.R_drew)); exact HO_12.out⟩, ⟨by (with_reducible repeat (first | refine blk_drewN ?_ _ | refine blk_drew ?_ | refine blk_alloc ?_ _)); exact BK139.out⟩, ⟨by repeat (first | (with_reducible first | exact HB.out | apply below_alloc | apply pw_below_drewN | apply below_drew1 | refine below_set ?_ GE139.out) | exact HB.out)⟩⟩
                                              · replace c39 := Bool.eq_false_iff.mpr c39
                                                subst c39
                                                have H1 : (if t152 = t140 then (if (Int.tmod x14_4 a0_1) = 0 then (spec_l03Levels.j4 k4 (wrap64 (2 * (l0_2.length : Int))) a0_1 x5_2 x6_1 t140 x10_2 x11_2 x12_4 ((wrap64 ((wrap64 ((wrap64 (Int.tdiv x14_4 a0_1)) + 1)) - (wrap64 (2 * (Int.tmod (wrap64 (Int.tdiv x14_4 a0_1)) 2))))) != x6_1) x14_4 (Int.tmod x14_4 a0_1) t152 (wrap64 ((wrap64 ((wrap64 (Int.tdiv x14_4 a0_1)) + 1)) - (wrap64 (2 * (Int.tmod (wrap64 (Int.tdiv x14_4 a0_1)) 2))))) a0_0 a0_1 l0_2) else (spec_l03Levels.j4 k4 (wrap64 (2 * (l0_2.length : Int))) a0_1 x5_2 x6_1 t140 x10_2 x11_2 x12_4 false x14_4 (Int.tmod x14_4 a0_1) t152 (wrap64 ((wrap64 ((wrap64 (Int.tdiv x14_4 a0_1)) + 1)) - (wrap64 (2 * (Int.tmod (wrap64 (Int.tdiv x14_4 a0_1)) 2))))) a0_0 a0_1 l0_2)) else (spec_l03Levels.j4 k4 (wrap64 (2 * (l0_2.length : Int))) a0_1 x5_2 x6_1 t140 x10_2 x11_2 x12_4 false x14_4 (Int.tmod x14_4 a0_1) t152 (wrap64 ((wrap64 ((wrap64 (Int.tdiv x14_4 a0_1)) + 1)) - (wrap64 (2 * (Int.tmod (wrap64 (Int.tdiv x14_4 a0_1)) 2))))) a0_0 a0_1 l0_2)) = some r := by rw [if_neg (show ¬ (false = true) by decide)] at H; exact H
                                                clear H
                                                have H := H1
                                                clear H1
                                                by_cases c40 : t152 = t140
                                                · rw [if_pos c40] at H
                                                  have c40b0 : (t152 == t140) = true := beq_iff_eq.mpr c40
                                                  have c40b1 : (t152 != t140) = false := bne_eq_false_iff_eq.mpr c40
                                                  clear c40
                                                  (first | rw [c40b0] | (simp only [i64_w, i32_w]; rw [c40b0]) | skip)
                                                  by_cases c41 : (Int.tmod x14_4 a0_1) = 0
                                                  · rw [if_pos c41] at H
                                                    have c41b0 : ((Int.tmod x14_4 a0_1) == 0) = true := beq_iff_eq.mpr c41
                                                    have c41b1 : ((Int.tmod x14_4 a0_1) != 0) = false := bne_eq_false_iff_eq.mpr c41
                                                    clear c41
                                                    have H' := Aside0.mk H
                                                    clear H
                                                    go_wp2
                                                    repeat (go_quiet (fail); try go_wp2)
                                                    go_meet
                                                    case rel => exact ⟨_, (((wrap64 ((wrap64 ((wrap64 (Int.tdiv x14_4 a0_1)) + 1)) - (wrap64 (2 * (Int.tmod (wrap64 (Int.tdiv x14_4 a0_1)) 2))))) != x6_1)), (by first | rfl | (simp; done) | (simp [*]; done)), H', ⟨by have := HK1.out; have := HK2.out; have := HJ18.out; have := HK4.out; first | omega | exact Nat.le_refl _⟩, ⟨by (with_reducible repeat (first | apply Kd.R_alloc | apply Kd.R_drewN | apply Kd.R_drew)); exact HO_10.out⟩, ⟨by (with_reducible repeat (first | apply Kd.R_alloc | apply Kd.R_drewN | apply Kd.R_drew)); exact HO_12.out⟩, ⟨by (with_reducible repeat (first | refine blk_drewN ?_ _ | refine blk_drew ?_ | refine blk_alloc ?_ _)); exact BK139.out⟩, ⟨by repeat (first | (with_reducible first | exact HB.out | apply below_alloc | apply pw_below_drewN | apply below_drew1 | refine below_set ?_ GE139.out) | exact HB.out)⟩⟩
                                                  · rw [if_neg c41] at H
                                                    have c41b0 : ((Int.tmod x14_4 a0_1) == 0) = false := beq_eq_false_iff_ne.mpr c41
                                                    have c41b1 : ((Int.tmod x14_4 a0_1) != 0) = true := bne_iff_ne.mpr c41
                                                    have H' := Aside0.mk H
                                                    clear H
                                                    go_wp2
                                                    repeat (go_quiet (fail); try go_wp2)
                                                    go_meet
                                                    case rel => exact ⟨_, (false), (by first | rfl | (simp; done) | (simp [*]; done)), H', ⟨by have := HK1.out; have := HK2.out; have := HJ18.out; have := HK4.out; first | omega | exact Nat.le_refl _⟩, ⟨by (with_reducible repeat (first | apply Kd.R_alloc | apply Kd.R_drewN | apply Kd.R_drew)); exact HO_10.out⟩, ⟨by (with_reducible repeat (first | apply Kd.R_alloc | apply Kd.R_drewN | apply Kd.R_drew)); exact HO_12.out⟩, ⟨by (with_reducible repeat (first | refine blk_drewN ?_ _ | refine blk_drew ?_ | refine blk_alloc ?_ _)); exact BK139.out⟩, ⟨by repeat (first | (with_reducible first | exact HB.out | apply below_alloc | apply pw_below_drewN | apply below_drew1 | refine below_set ?_ GE139.out) | exact HB.out)⟩⟩
                                                · rw [if_neg c40] at H
                                                  have c40b0 : (t152 == t140) = false := beq_eq_false_iff_ne.mpr c40
                                                  have c40b1 : (t152 != t140) = true := bne_iff_ne.mpr c40
                                                  (first | rw [c40b0] | (simp only [i64_w, i32_w]; rw [c40b0]) | skip)
                                                  have H' := Aside0.mk H
                                                  clear H
                                                  go_wp2
                                                  repeat (go_quiet (fail); try go_wp2)
                                                  go_meet
                                                  case rel => exact ⟨_, (false), (by first | rfl | (simp; done) | (simp [*]; done)), H', ⟨by have := HK1.out; have := HK2.out; have := HJ18.out; have := HK4.out; first | omega | exact Nat.le_refl _⟩, ⟨by (with_reducible repeat (first | apply Kd.R_alloc | apply Kd.R_drewN | apply Kd.R_drew)); exact HO_10.out⟩, ⟨by (with_reducible repeat (first | apply Kd.R_alloc | apply Kd.R_drewN | apply Kd.R_drew)); exact HO_12.out⟩, ⟨by (with_reducible repeat (first | refine blk_drewN ?_ _ | refine blk_drew ?_ | refine blk_alloc ?_ _)); exact BK139.out⟩, ⟨by repeat (first | (with_reducible first | exact HB.out | apply below_alloc | apply pw_below_drewN | apply below_drew1 | refine below_set ?_ GE139.out) | exact HB.out)⟩⟩
                                            case rest =>
                                              try clear hji6w
                                              try clear hji6
                                              try clear hji23w
                                              try clear hji23
                                              try clear hji9w
                                              try clear hji9
                                              clear HC35
                                              try clear c1
                                              try clear p1
                                              try clear q1
                                              try clear hx1
                                              try clear hf1
                                              try clear c2
                                              try clear p2
                                              try clear c3
                                              try clear q3
                                              try clear c4
                                              try clear c4b0
                                              try clear c5
                                              try clear p6
                                              try clear c7
                                              try clear c7b0
                                              try clear c7b1
                                              try clear c8
                                              try clear c8b0
                                              try clear c8b1
                                              try clear c10
                                              try clear c10b0
                                              try clear c11
                                              try clear c11b0
                                              try clear p12
                                              try clear q12
                                              try clear hx12
                                              try clear hf12
                                              try clear p15
                                              try clear q15
                                              try clear hx15
                                              try clear c20
                                              try clear c20b0
                                              try clear c21
                                              try clear c21b0
                                              try clear c21b1
                                              try clear c22
                                              try clear c24
                                              try clear c24b0
                                              try clear c24b1
                                              try clear c25
                                              try clear c25b0
                                              try clear c25b1
                                              try clear c28
                                              try clear c28b0
                                              try clear c29
                                              try clear c29b0
                                              try clear c30
                                              try clear c30b0
                                              try clear q31
                                              try clear c32
                                              try clear c33
                                              try clear c33b0
                                              try clear c33b1
                                              try clear c39
                                              try clear c40
                                              try clear c40b0
                                              try clear c40b1
                                              try clear c41
                                              try clear c41b0
                                              try clear c41b1
                                              try clear hcz13_0
                                              try clear hcz13_1
                                              try clear hcz13_2
                                              try clear hcz37_0
                                              try clear hcz37_1
                                              try clear hcz37_2
                                              try clear hcz3_0
                                              try clear hcz3_1
                                              try clear hcz3_2
                                              try clear hfz13_0
                                              try clear hfz13_1
                                              try clear hfz13_2
                                              try clear hfz37_0
                                              try clear hfz37_1
                                              try clear hfz37_2
                                              try clear hfz3_0
                                              try clear hfz3_1
                                              try clear hfz3_2
                                              try clear hx12_0
                                              try clear hx150_0
                                              try clear p1
                                              try clear p12
                                              try clear p150
                                              try clear p2
                                              try clear p6
                                              try clear q1
                                              try clear q12
                                              try clear q150
                                              obtain ⟨kq, x13_34, rfl, HA, HJ34, HO_10, HO_12, BK139, HB⟩ := hcut
                                              cases kq with
                                              | zero => exact absurd HA.out (by simp [spec_l03Levels.j4])
                                              | succ kj34 =>
                                                have H := HA.out
                                                clear HA
                                                simp only [spec_l03Levels.j4] at H
                                                have H' := Aside0.mk H
                                                clear H
                                                go_wp2
                                                repeat (go_quiet (fail); try go_wp2)
                                                go_loopg [21] kj34 (fun kq v21 w' => ∃ (x12_6 : List Bool) (x21_6 : Int), v21 = .int .i64 x21_6 ∧ Aside0 (spec_l03Levels.l3 kq (wrap64 (2 * (l0_2.length : Int))) a0_1 x5_2 x6_1 t140 x10_2 x11_2 x12_6 x13_34 x14_4 (Int.tmod x14_4 a0_1) t152 (wrap64 ((wrap64 ((wrap64 (Int.tdiv x14_4 a0_1)) + 1)) - (wrap64 (2 * (Int.tmod (wrap64 (Int.tdiv x14_4 a0_1)) 2))))) x21_6 a0_0 a0_1 l0_2 = some r) ∧ Aside0 (kq ≤ kj34) ∧ Aside0 (Kd.R Kd.bool 4 w' w.heap.size (fun k_ => some k_ ≠ (v148 : Value).ownBlock) (.slice (some ad150) x10_2.length co36) x10_2) ∧ Aside0 (Kd.R Kd.bool 4 w' w.heap.size (fun k_ => some k_ ≠ ((.slice (some ad150) x10_2.length co36) : Value).ownBlock) v148 x12_6) ∧ Aside0 (w'.heap[gb139]? = some (.cells #[.int .i64 a0_0, .int .i64 a0_1, (.slice A0_2 l0_2.length c0_2)] 29 (0, 0))) ∧ Aside0 (Below w.heap.size w w'))
                                                case atStart => exact ⟨(x12_4), (0), (by first | rfl | (simp; done) | (simp [*]; done)), H', ⟨Nat.le_refl _⟩, ⟨by (with_reducible repeat (first | apply Kd.R_alloc | apply Kd.R_drewN | apply Kd.R_drew)); exact HO_10.out⟩, ⟨by (with_reducible repeat (first | apply Kd.R_alloc | apply Kd.R_drewN | apply Kd.R_drew)); exact HO_12.out⟩, ⟨by (with_reducible repeat (first | refine blk_drewN ?_ _ | refine blk_drew ?_ | refine blk_alloc ?_ _)); exact BK139.out⟩, ⟨by repeat (first | (with_reducible first | exact HB.out | apply below_alloc | apply pw_below_drewN | apply below_drew1 | refine below_set ?_ GE139.out) | exact HB.out)⟩⟩
                                                case round =>
                                                  try clear hji6w
                                                  try clear hji6
                                                  try clear hji23w
                                                  try clear hji23
                                                  try clear hji9w
                                                  try clear hji9
                                                  clear H'
                                                  try clear c1
                                                  try clear p1
                                                  try clear q1
                                                  try clear hx1
                                                  try clear hf1
                                                  try clear c2
                                                  try clear p2
                                                  try clear c3
                                                  try clear q3
                                                  try clear c4
                                                  try clear c4b0
                                                  try clear c5
                                                  try clear p6
                                                  try clear c7
                                                  try clear c7b0
                                                  try clear c7b1
                                                  try clear c8
                                                  try clear c8b0
                                                  try clear c8b1
                                                  try clear c10
                                                  try clear c10b0
                                                  try clear c11
                                                  try clear c11b0
                                                  try clear p12
                                                  try clear q12
                                                  try clear hx12
                                                  try clear hf12
                                                  try clear p15
                                                  try clear q15
                                                  try clear hx15
                                                  try clear c20
                                                  try clear c20b0
                                                  try clear c21
                                                  try clear c21b0
                                                  try clear c21b1
                                                  try clear c22
                                                  try clear c24
                                                  try clear c24b0
                                                  try clear c24b1
                                                  try clear c25
                                                  try clear c25b0
                                                  try clear c25b1
                                                  try clear c28
                                                  try clear c28b0
                                                  try clear c29
                                                  try clear c29b0
                                                  try clear c30
                                                  try clear c30b0
                                                  try clear q31
                                                  try clear c32
                                                  try clear c33
                                                  try clear c33b0
                                                  try clear c33b1
                                                  try clear c39
                                                  try clear c40
                                                  try clear c40b0
                                                  try clear c40b1
                                                  try clear c41
                                                  try clear c41b0
                                                  try clear c41b1
                                                  try clear hcz13_0
                                                  try clear hcz13_1
                                                  try clear hcz13_2
                                                  try clear hcz37_0
                                                  try clear hcz37_1
                                                  try clear hcz37_2
                                                  try clear hcz3_0
                                                  try clear hcz3_1
                                                  try clear hcz3_2
                                                  try clear hfz13_0
                                                  try clear hfz13_1
                                                  try clear hfz13_2
                                                  try clear hfz37_0
                                                  try clear hfz37_1
                                                  try clear hfz37_2
                                                  try clear hfz3_0
                                                  try clear hfz3_1
                                                  try clear hfz3_2
                                                  try clear hx12_0
                                                  try clear hx150_0
                                                  try clear p1
                                                  try clear p12
                                                  try clear p15
                                                  try clear p150
                                                  try clear p2
                                                  try clear p6
                                                  try clear q1
                                                  try clear q12
                                                  try clear q15
                                                  try clear q150
                                                  try clear q3
                                                  try clear q31
                                                  obtain ⟨x12_6, x21_6, rfl, HA, HK6, HO_10, HO_12, BK139, HB⟩ := hrel
                                                  cases gk with
                                                  | zero => exact absurd HA.out (by simp [spec_l03Levels.l3])
                                                  | succ k6 =>
                                                    have H := HA.out
                                                    clear HA
                                                    simp only [spec_l03Levels.l3] at H
                                                    by_cases c42 : x21_6 < (wrap64 (2 * (l0_2.length : Int)))
                                                    · rw [if_pos c42] at H
                                                      have c42b0 : decide (x21_6 < (wrap64 (2 * (l0_2.length : Int)))) = true := decide_eq_true c42
                                                      clear c42
                                                      replace H := Option.bind_eq_some_iff.mp H
                                                      obtain ⟨⟨t154, t155, t156⟩, A430, H⟩ := H
                                                      replace H : (if t154 = t152 then (if x21_6 = (wrap64 ((wrap64 ((wrap64 (Int.tdiv x14_4 a0_1)) + 1)) - (wrap64 (2 * (Int.tmod (wrap64 (Int.tdiv x14_4 a0_1)) 2))))) then (spec_l03Levels.l3 k6 (wrap64 (2 * (l0_2.length : Int))) a0_1 x5_2 x6_1 t140 x10_2 x11_2 x12_6 x13_34 x14_4 (Int.tmod x14_4 a0_1) t152 (wrap64 ((wrap64 ((wrap64 (Int.tdiv x14_4 a0_1)) + 1)) - (wrap64 (2 * (Int.tmod (wrap64 (Int.tdiv x14_4 a0_1)) 2))))) (wrap64 (x21_6 + 1)) a0_0 a0_1 l0_2) else (if a0_1 = 0 then (none) else (if 0 ≤ (wrap64 ((wrap64 (x21_6 * a0_1)) + (Int.tmod (wrap64 ((Int.tmod x14_4 a0_1) + t156)) a0_1))) then (if (wrap64 ((wrap64 (x21_6 * a0_1)) + (Int.tmod (wrap64 ((Int.tmod x14_4 a0_1) + t156)) a0_1))) < (x12_6.length : Int) then (spec_l03Levels.l3 k6 (wrap64 (2 * (l0_2.length : Int))) a0_1 x5_2 x6_1 t140 x10_2 x11_2 (x12_6.set ((wrap64 ((wrap64 (x21_6 * a0_1)) + (Int.tmod (wrap64 ((Int.tmod x14_4 a0_1) + t156)) a0_1))) : Int).toNat true) x13_34 x14_4 (Int.tmod x14_4 a0_1) t152 (wrap64 ((wrap64 ((wrap64 (Int.tdiv x14_4 a0_1)) + 1)) - (wrap64 (2 * (Int.tmod (wrap64 (Int.tdiv x14_4 a0_1)) 2))))) (wrap64 (x21_6 + 1)) a0_0 a0_1 l0_2) else (none)) else (none)))) else (spec_l03Levels.l3 k6 (wrap64 (2 * (l0_2.length : Int))) a0_1 x5_2 x6_1 t140 x10_2 x11_2 x12_6 x13_34 x14_4 (Int.tmod x14_4 a0_1) t152 (wrap64 ((wrap64 ((wrap64 (Int.tdiv x14_4 a0_1)) + 1)) - (wrap64 (2 * (Int.tmod (wrap64 (Int.tdiv x14_4 a0_1)) 2))))) (wrap64 (x21_6 + 1)) a0_0 a0_1 l0_2)) = some r := H
                                                      have A43 := Aside0.mk A430
                                                      clear A430
                                                      by_cases c44 : t154 = t152
                                                      · rw [if_pos c44] at H
                                                        have c44b0 : (t154 == t152) = true := beq_iff_eq.mpr c44
                                                        have c44b1 : (t154 != t152) = false := bne_eq_false_iff_eq.mpr c44
                                                        clear c44
                                                        by_cases c45 : x21_6 = (wrap64 ((wrap64 ((wrap64 (Int.tdiv x14_4 a0_1)) + 1)) - (wrap64 (2 * (Int.tmod (wrap64 (Int.tdiv x14_4 a0_1)) 2)))))
                                                        · rw [if_pos c45] at H
                                                          have c45b0 : (x21_6 == (wrap64 ((wrap64 ((wrap64 (Int.tdiv x14_4 a0_1)) + 1)) - (wrap64 (2 * (Int.tmod (wrap64 (Int.tdiv x14_4 a0_1)) 2)))))) = true := beq_iff_eq.mpr c45
                                                          have c45b1 : (x21_6 != (wrap64 ((wrap64 ((wrap64 (Int.tdiv x14_4 a0_1)) + 1)) - (wrap64 (2 * (Int.tmod (wrap64 (Int.tdiv x14_4 a0_1)) 2)))))) = false := bne_eq_false_iff_eq.mpr c45
                                                          clear c45
                                                          have H' := Aside0.mk H
                                                          clear H
                                                          have hcz46_0 : wr.cell? ⟨gb139, 0, none⟩ = some (.int .i64 a0_0) := (blk_cell BK139.out 0).trans rfl
                                                          have hcz46_1 : wr.cell? ⟨gb139, 1, none⟩ = some (.int .i64 a0_1) := (blk_cell BK139.out 1).trans rfl
                                                          have hcz46_2 : wr.cell? ⟨gb139, 2, none⟩ = some (.slice A0_2 l0_2.length c0_2) := (blk_cell BK139.out 2).trans rfl
                                                          have hfz46_0 := blk_frozen BK139.out 0
                                                          have hfz46_1 := blk_frozen BK139.out 1
                                                          have hfz46_2 := blk_frozen BK139.out 2
                                                          go_wp2_with (first | (go_at_call 46; (with_reducible refine (spec_l03Step.calls a0_0 a0_1 _ _ l0_2 x21_6 t154 t155 t156 _ ?side1 ?side2 A43.out).mono ?_); (case side1 => repeat (first | exact (Kd.C_below HR0_2.out HB.out) | (with_reducible refine Kd.C_alloc ?_ _) | (with_reducible refine Kd.C_drewN ?_ _) | (with_reducible refine Kd.C_drew ?_))); (case side2 => exact HC0_2.out); rintro e w47 ⟨rfl, hb⟩; have n0_ := Aside0.mk (Kd.R_below (by (with_reducible repeat (first | apply Kd.R_alloc | apply Kd.R_drewN | apply Kd.R_drew)); exact HO_10.out) hb); have n1_ := Aside0.mk (Kd.R_below (by (with_reducible repeat (first | apply Kd.R_alloc | apply Kd.R_drewN | apply Kd.R_drew)); exact HO_12.out) hb); have n2_ := Aside0.mk (blk_below (g := gb139) (o := .cells #[.int .i64 a0_0, .int .i64 a0_1, .slice A0_2 l0_2.length c0_2] 29 (0, 0)) (by (with_reducible repeat (first | refine blk_drewN ?_ _ | refine blk_drew ?_ | refine blk_alloc ?_ _)); exact BK139.out) hb); have n3_ := Aside0.mk (below_step (by repeat (first | (with_reducible first | exact HB.out | apply below_alloc | apply pw_below_drewN | apply below_drew1 | refine below_set ?_ GE139.out) | exact HB.out)) hb); clear HO_10; clear HO_12; clear BK139; clear HB; have HO_10 := n0_; have HO_12 := n1_; have BK139 := n2_; have HB := n3_; clear n0_ n1_ n2_ n3_; (try clear hb); (try clear hb2); (try clear hk); (try clear hi)))
                                                          repeat (go_quiet (first | (go_at_call 46; (with_reducible refine (spec_l03Step.calls a0_0 a0_1 _ _ l0_2 x21_6 t154 t155 t156 _ ?side1 ?side2 A43.out).mono ?_); (case side1 => repeat (first | exact (Kd.C_below HR0_2.out HB.out) | (with_reducible refine Kd.C_alloc ?_ _) | (with_reducible refine Kd.C_drewN ?_ _) | (with_reducible refine Kd.C_drew ?_))); (case side2 => exact HC0_2.out); rintro e w47 ⟨rfl, hb⟩; have n0_ := Aside0.mk (Kd.R_below (by (with_reducible repeat (first | apply Kd.R_alloc | apply Kd.R_drewN | apply Kd.R_drew)); exact HO_10.out) hb); have n1_ := Aside0.mk (Kd.R_below (by (with_reducible repeat (first | apply Kd.R_alloc | apply Kd.R_drewN | apply Kd.R_drew)); exact HO_12.out) hb); have n2_ := Aside0.mk (blk_below (g := gb139) (o := .cells #[.int .i64 a0_0, .int .i64 a0_1, .slice A0_2 l0_2.length c0_2] 29 (0, 0)) (by (with_reducible repeat (first | refine blk_drewN ?_ _ | refine blk_drew ?_ | refine blk_alloc ?_ _)); exact BK139.out) hb); have n3_ := Aside0.mk (below_step (by repeat (first | (with_reducible first | exact HB.out | apply below_alloc | apply pw_below_drewN | apply below_drew1 | refine below_set ?_ GE139.out) | exact HB.out)) hb); clear HO_10; clear HO_12; clear BK139; clear HB; have HO_10 := n0_; have HO_12 := n1_; have BK139 := n2_; have HB := n3_; clear n0_ n1_ n2_ n3_; (try clear hb); (try clear hb2); (try clear hk); (try clear hi))); try go_wp2_with (first | (go_at_call 46; (with_reducible refine (spec_l03Step.calls a0_0 a0_1 _ _ l0_2 x21_6 t154 t155 t156 _ ?side1 ?side2 A43.out).mono ?_); (case side1 => repeat (first | exact (Kd.C_below HR0_2.out HB.out) | (with_reducible refine Kd.C_alloc ?_ _) | (with_reducible refine Kd.C_drewN ?_ _) | (with_reducible refine Kd.C_drew ?_))); (case side2 => exact HC0_2.out); rintro e w47 ⟨rfl, hb⟩; have n0_ := Aside0.mk (Kd.R_below (by (with_reducible repeat (first | apply Kd.R_alloc | apply Kd.R_drewN | apply Kd.R_drew)); exact HO_10.out) hb); have n1_ := Aside0.mk (Kd.R_below (by (with_reducible repeat (first | apply Kd.R_alloc | apply Kd.R_drewN | apply Kd.R_drew)); exact HO_12.out) hb); have n2_ := Aside0.mk (blk_below (g := gb139) (o := .cells #[.int .i64 a0_0, .int .i64 a0_1, .slice A0_2 l0_2.length c0_2] 29 (0, 0)) (by (with_reducible repeat (first | refine blk_drewN ?_ _ | refine blk_drew ?_ | refine blk_alloc ?_ _)); exact BK139.out) hb); have n3_ := Aside0.mk (below_step (by repeat (first | (with_reducible first | exact HB.out | apply below_alloc | apply pw_below_drewN | apply below_drew1 | refine below_set ?_ GE139.out) | exact HB.out)) hb); clear HO_10; clear HO_12; clear BK139; clear HB; have HO_10 := n0_; have HO_12 := n1_; have BK139 := n2_; have HB := n3_; clear n0_ n1_ n2_ n3_; (try clear hb); (try clear hb2); (try clear hk); (try clear hi))))
                                                          go_roundg k6
                                                          case measure => have := HK1.out; have := HK2.out; have := HJ18.out; have := HK4.out; have := HJ34.out; have := HK6.out; omega
                                                          case rel => exact ⟨(x12_6), (wrap64 (x21_6 + 1)), (by first | rfl | (simp; done) | (simp [*]; done)), H', ⟨by have := HK1.out; have := HK2.out; have := HJ18.out; have := HK4.out; have := HJ34.out; have := HK6.out; omega⟩, ⟨by (with_reducible repeat (first | apply Kd.R_alloc | apply Kd.R_drewN | apply Kd.R_drew)); exact HO_10.out⟩, ⟨by (with_reducible repeat (first | apply Kd.R_alloc | apply Kd.R_drewN | apply Kd.R_drew)); exact HO_12.out⟩, ⟨by (with_reducible repeat (first | refine blk_drewN ?_ _ | refine blk_drew ?_ | refine blk_alloc ?_ _)); exact BK139.out⟩, ⟨by repeat (first | (with_reducible first | exact HB.out | apply below_alloc | apply pw_below_drewN | apply below_drew1 | refine below_set ?_ GE139.out) | exact HB.out)⟩⟩
                                                        · rw [if_neg c45] at H
                                                          have c45b0 : (x21_6 == (wrap64 ((wrap64 ((wrap64 (Int.tdiv x14_4 a0_1)) + 1)) - (wrap64 (2 * (Int.tmod (wrap64 (Int.tdiv x14_4 a0_1)) 2)))))) = false := beq_eq_false_iff_ne.mpr c45
                                                          have c45b1 : (x21_6 != (wrap64 ((wrap64 ((wrap64 (Int.tdiv x14_4 a0_1)) + 1)) - (wrap64 (2 * (Int.tmod (wrap64 (Int.tdiv x14_4 a0_1)) 2)))))) = true := bne_iff_ne.mpr c45
                                                          by_cases c48 : a0_1 = 0
                                                          · rw [if_pos c48] at H
                                                            exact absurd H (by simp)
                                                          · rw [if_neg c48] at H
                                                            have c48b0 : (a0_1 == 0) = false := beq_eq_false_iff_ne.mpr c48
                                                            have c48b1 : (a0_1 != 0) = true := bne_iff_ne.mpr c48
                                                            obtain ⟨ji49, hji49⟩ : ∃ j_ : Int, (wrap64 ((wrap64 (x21_6 * a0_1)) + (Int.tmod (wrap64 ((Int.tmod x14_4 a0_1) + t156)) a0_1))) = j_ := ⟨_, rfl⟩
                                                            replace H : (if 0 ≤ (ji49) then (if (ji49) < (x12_6.length : Int) then (spec_l03Levels.l3 k6 (wrap64 (2 * (l0_2.length : Int))) a0_1 x5_2 x6_1 t140 x10_2 x11_2 (x12_6.set ((ji49) : Int).toNat true) x13_34 x14_4 (Int.tmod x14_4 a0_1) t152 (wrap64 ((wrap64 ((wrap64 (Int.tdiv x14_4 a0_1)) + 1)) - (wrap64 (2 * (Int.tmod (wrap64 (Int.tdiv x14_4 a0_1)) 2))))) (wrap64 (x21_6 + 1)) a0_0 a0_1 l0_2) else (none)) else (none)) = some r := by first | (rw [hji49] at H; exact H) | (simp only [hji49] at H ⊢; exact H)
                                                            (try rw [hji49] at A43)
                                                            have hji49w : (IntKind.i64.wrap ((wrap64 (x21_6 * a0_1)) + (Int.tmod (wrap64 ((Int.tmod x14_4 a0_1) + t156)) a0_1))) = ji49 := (i64_w _).trans hji49
                                                            by_cases c50 : 0 ≤ (ji49)
                                                            · rw [if_pos c50] at H
                                                              have c50b0 : decide (0 ≤ (ji49)) = true := decide_eq_true c50
                                                              clear c50
                                                              by_cases c51 : (ji49) < (x12_6.length : Int)
                                                              · rw [if_pos c51] at H
                                                                have c51b0 : decide ((ji49) < (x12_6.length : Int)) = true := decide_eq_true c51
                                                                clear c51
                                                                obtain ⟨y157, hy157⟩ : ∃ y_ : List Bool, y_ = (x12_6.set ((ji49) : Int).toNat true) := ⟨_, rfl⟩
                                                                replace H : (spec_l03Levels.l3 k6 (wrap64 (2 * (l0_2.length : Int))) a0_1 x5_2 x6_1 t140 x10_2 x11_2 y157 x13_34 x14_4 (Int.tmod x14_4 a0_1) t152 (wrap64 ((wrap64 ((wrap64 (Int.tdiv x14_4 a0_1)) + 1)) - (wrap64 (2 * (Int.tmod (wrap64 (Int.tdiv x14_4 a0_1)) 2))))) (wrap64 (x21_6 + 1)) a0_0 a0_1 l0_2) = some r := by first | (rw [hy157]; with_reducible exact H) | (have H2_ := (Option.bind_some _ _).symm.trans H; rw [hy157]; with_reducible exact H2_) | (have H2_ := (Option.bind_some _ _).symm.trans H; with_reducible exact H2_) | with_reducible exact H | (rw [hy157]; exact H) | exact H
                                                                have Ny157 := Aside0.mk hy157
                                                                clear hy157
                                                                have H' := Aside0.mk H
                                                                clear H
                                                                have hcz53_0 : wr.cell? ⟨gb139, 0, none⟩ = some (.int .i64 a0_0) := (blk_cell BK139.out 0).trans rfl
                                                                have hcz53_1 : wr.cell? ⟨gb139, 1, none⟩ = some (.int .i64 a0_1) := (blk_cell BK139.out 1).trans rfl
                                                                have hcz53_2 : wr.cell? ⟨gb139, 2, none⟩ = some (.slice A0_2 l0_2.length c0_2) := (blk_cell BK139.out 2).trans rfl
                                                                have hfz53_0 := blk_frozen BK139.out 0
                                                                have hfz53_1 := blk_frozen BK139.out 1
                                                                have hfz53_2 := blk_frozen BK139.out 2
                                                                go_wp2_with (first | (go_at_call 46; (with_reducible refine (spec_l03Step.calls a0_0 a0_1 _ _ l0_2 x21_6 t154 t155 t156 _ ?side1 ?side2 A43.out).mono ?_); (case side1 => repeat (first | exact (Kd.C_below HR0_2.out HB.out) | (with_reducible refine Kd.C_alloc ?_ _) | (with_reducible refine Kd.C_drewN ?_ _) | (with_reducible refine Kd.C_drew ?_))); (case side2 => exact HC0_2.out); rintro e w54 ⟨rfl, hb⟩; have n0_ := Aside0.mk (Kd.R_below (by (with_reducible repeat (first | apply Kd.R_alloc | apply Kd.R_drewN | apply Kd.R_drew)); exact HO_10.out) hb); have n1_ := Aside0.mk (Kd.R_below (by (with_reducible repeat (first | apply Kd.R_alloc | apply Kd.R_drewN | apply Kd.R_drew)); exact HO_12.out) hb); have n2_ := Aside0.mk (blk_below (g := gb139) (o := .cells #[.int .i64 a0_0, .int .i64 a0_1, .slice A0_2 l0_2.length c0_2] 29 (0, 0)) (by (with_reducible repeat (first | refine blk_drewN ?_ _ | refine blk_drew ?_ | refine blk_alloc ?_ _)); exact BK139.out) hb); have n3_ := Aside0.mk (below_step (by repeat (first | (with_reducible first | exact HB.out | apply below_alloc | apply pw_below_drewN | apply below_drew1 | refine below_set ?_ GE139.out) | exact HB.out)) hb); clear HO_10; clear HO_12; clear BK139; clear HB; have HO_10 := n0_; have HO_12 := n1_; have BK139 := n2_; have HB := n3_; clear n0_ n1_ n2_ n3_; (try clear hb); (try clear hb2); (try clear hk); (try clear hi); have p52 : 0 ≤ ((ji49) : Int) := of_decide_eq_true (by first | (with_reducible assumption) | assumption); have q52 : ((ji49) : Int) < ((x12_6.length : Int) : Int) := of_decide_eq_true (by first | (with_reducible assumption) | assumption); obtain ⟨go52, co52, eo52, gb52, gl52, cl52, HG52⟩ := Kd.R_form HO_12.out (by omega); (first | cases eo52 | (injection eo52 with ea_ en_ ec_; (first | subst ea_ | (injection ea_ with ea_; subst ea_)); subst ec_; clear en_)); have GB52 := Aside0.mk gb52; have GG52 := Aside0.mk HG52; clear gb52 gl52 HG52; obtain ⟨hx52_0, hf52_0⟩ := Kd.R_celln false HO_12.out ((ji49) : Int) p52 q52; replace p52 := eq_true p52; replace q52 := eq_true q52; obtain ⟨hy55_, hz55_⟩ := Kd.R_celln false HO_12.out ((ji49) : Int) (of_decide_eq_true (by first | (with_reducible assumption) | assumption)) (of_decide_eq_true (by first | (with_reducible assumption) | assumption)); have HP55 := Kd.R_putg HO_12.out ((ji49) : Int) true) | ((with_reducible refine gate_store (t := 4) (p := 147) rfl ?_); (try (rw [drewN_self w54]; generalize hq_ : World.drewN w54 _ = w54; have n0_ := Aside0.mk (Kd.R_at hq_ HO_10.out); have n1_ := Aside0.mk (Kd.R_at hq_ HO_12.out); have n2_ := Aside0.mk (blk_at hq_ BK139.out); have n3_ := Aside0.mk (below_at hq_ HB.out); clear hq_ HO_10 HO_12 BK139 HB; have HO_10 := n0_; have HO_12 := n1_; have BK139 := n2_; have HB := n3_; clear n0_ n1_ n2_ n3_; (try (obtain ⟨hy55_, hz55_⟩ := Kd.R_celln false HO_12.out ((ji49) : Int) (of_decide_eq_true (by first | (with_reducible assumption) | assumption)) (of_decide_eq_true (by first | (with_reducible assumption) | assumption)))); (try (have HP55 := Kd.R_putg HO_12.out ((ji49) : Int) true)))); refine store_event (t := 4) (p := 147) (v := ?vo_w56) (w1 := (w54.setCell ⟨go52, ((ji49) : Int).toNat, none⟩ (.bool true))) ?hg ?ho ?hn ?hr ?_; (case ho => rfl); (case hg => rfl); (case hn => rfl); (case hr => first | (go_simp; done) | (go_simp; rfl)); intro w56 hw; have hg : w54.grownBy w56 (some go52) := (by rw [hw]; exact HP55.2); have hp_ : Kd.R Kd.bool 4 w56 w.heap.size (fun k_ => some k_ ≠ (.slice (some ad150) x10_2.length co36 : Value).ownBlock) (.slice (some ⟨go52, 0, none⟩) x12_6.length co52) y157 := (by rw [hw, Ny157.out]; exact HP55.1); clear HP55; have n0_ := Aside0.mk (Kd.R_after (v := (.slice (some ⟨go52, 0, none⟩) x12_6.length co52)) (v1 := (.slice (some ⟨go52, 0, none⟩) x12_6.length co52)) (ok := (fun _ => True)) (by (with_reducible repeat (first | apply Kd.R_alloc | apply Kd.R_drewN | apply Kd.R_drew)); exact Kd.R_mono HO_10.out (fun _ hk => ⟨trivial, hk⟩)) hg (.inl rfl)); have n1_ := Aside0.mk (hp_); have n2_ := Aside0.mk (blk_grown (g := gb139) (o := .cells #[.int .i64 a0_0, .int .i64 a0_1, .slice A0_2 l0_2.length c0_2] 29 (0, 0)) (by (with_reducible repeat (first | refine blk_drewN ?_ _ | refine blk_drew ?_ | refine blk_alloc ?_ _)); exact BK139.out) hg (Kd.R_ne HO_12.out BK139.out (by decide))); have n3_ := Aside0.mk ((by rw [hw]; exact below_set (HB.out) GB52.out : Below w.heap.size w w56)); clear HO_10; clear HO_12; clear BK139; clear HB; have HO_10 := n0_; have HO_12 := n1_; have BK139 := n2_; have HB := n3_; clear n0_ n1_ n2_ n3_; clear hg hw hp_))
                                                                repeat (go_quiet (first | (go_at_call 46; (with_reducible refine (spec_l03Step.calls a0_0 a0_1 _ _ l0_2 x21_6 t154 t155 t156 _ ?side1 ?side2 A43.out).mono ?_); (case side1 => repeat (first | exact (Kd.C_below HR0_2.out HB.out) | (with_reducible refine Kd.C_alloc ?_ _) | (with_reducible refine Kd.C_drewN ?_ _) | (with_reducible refine Kd.C_drew ?_))); (case side2 => exact HC0_2.out); rintro e w54 ⟨rfl, hb⟩; have n0_ := Aside0.mk (Kd.R_below (by (with_reducible repeat (first | apply Kd.R_alloc | apply Kd.R_drewN | apply Kd.R_drew)); exact HO_10.out) hb); have n1_ := Aside0.mk (Kd.R_below (by (with_reducible repeat (first | apply Kd.R_alloc | apply Kd.R_drewN | apply Kd.R_drew)); exact HO_12.out) hb); have n2_ := Aside0.mk (blk_below (g := gb139) (o := .cells #[.int .i64 a0_0, .int .i64 a0_1, .slice A0_2 l0_2.length c0_2] 29 (0, 0)) (by (with_reducible repeat (first | refine blk_drewN ?_ _ | refine blk_drew ?_ | refine blk_alloc ?_ _)); exact BK139.out) hb); have n3_ := Aside0.mk (below_step (by repeat (first | (with_reducible first | exact HB.out | apply below_alloc | apply pw_below_drewN | apply below_drew1 | refine below_set ?_ GE139.out) | exact HB.out)) hb); clear HO_10; clear HO_12; clear BK139; clear HB; have HO_10 := n0_; have HO_12 := n1_; have BK139 := n2_; have HB := n3_; clear n0_ n1_ n2_ n3_; (try clear hb); (try clear hb2); (try clear hk); (try clear hi); have p52 : 0 ≤ ((ji49) : Int) := of_decide_eq_true (by first | (with_reducible assumption) | assumption); have q52 : ((ji49) : Int) < ((x12_6.length : Int) : Int) := of_decide_eq_true (by first | (with_reducible assumption) | assumption); obtain ⟨go52, co52, eo52, gb52, gl52, cl52, HG52⟩ := Kd.R_form HO_12.out (by omega); (first | cases eo52 | (injection eo52 with ea_ en_ ec_; (first | subst ea_ | (injection ea_ with ea_; subst ea_)); subst ec_; clear en_)); have GB52 := Aside0.mk gb52; have GG52 := Aside0.mk HG52; clear gb52 gl52 HG52; obtain ⟨hx52_0, hf52_0⟩ := Kd.R_celln false HO_12.out ((ji49) : Int) p52 q52; replace p52 := eq_true p52; replace q52 := eq_true q52; obtain ⟨hy55_, hz55_⟩ := Kd.R_celln false HO_12.out ((ji49) : Int) (of_decide_eq_true (by first | (with_reducible assumption) | assumption)) (of_decide_eq_true (by first | (with_reducible assumption) | assumption)); have HP55 := Kd.R_putg HO_12.out ((ji49) : Int) true) | ((with_reducible refine gate_store (t := 4) (p := 147) rfl ?_); (try (rw [drewN_self w54]; generalize hq_ : World.drewN w54 _ = w54; have n0_ := Aside0.mk (Kd.R_at hq_ HO_10.out); have n1_ := Aside0.mk (Kd.R_at hq_ HO_12.out); have n2_ := Aside0.mk (blk_at hq_ BK139.out); have n3_ := Aside0.mk (below_at hq_ HB.out); clear hq_ HO_10 HO_12 BK139 HB; have HO_10 := n0_; have HO_12 := n1_; have BK139 := n2_; have HB := n3_; clear n0_ n1_ n2_ n3_; (try (obtain ⟨hy55_, hz55_⟩ := Kd.R_celln false HO_12.out ((ji49) : Int) (of_decide_eq_true (by first | (with_reducible assumption) | assumption)) (of_decide_eq_true (by first | (with_reducible assumption) | assumption)))); (try (have HP55 := Kd.R_putg HO_12.out ((ji49) : Int) true)))); refine store_event (t := 4) (p := 147) (v := ?vo_w56) (w1 := (w54.setCell ⟨go52, ((ji49) : Int).toNat, none⟩ (.bool true))) ?hg ?ho ?hn ?hr ?_; (case ho => rfl); (case hg => rfl); (case hn => rfl); (case hr => first | (go_simp; done) | (go_simp; rfl)); intro w56 hw; have hg : w54.grownBy w56 (some go52) := (by rw [hw]; exact HP55.2); have hp_ : Kd.R Kd.bool 4 w56 w.heap.size (fun k_ => some k_ ≠ (.slice (some ad150) x10_2.length co36 : Value).ownBlock) (.slice (some ⟨go52, 0, none⟩) x12_6.length co52) y157 := (by rw [hw, Ny157.out]; exact HP55.1); clear HP55; have n0_ := Aside0.mk (Kd.R_after (v := (.slice (some ⟨go52, 0, none⟩) x12_6.length co52)) (v1 := (.slice (some ⟨go52, 0, none⟩) x12_6.length co52)) (ok := (fun _ => True)) (by (with_reducible repeat (first | apply Kd.R_alloc | apply Kd.R_drewN | apply Kd.R_drew)); exact Kd.R_mono HO_10.out (fun _ hk => ⟨trivial, hk⟩)) hg (.inl rfl)); have n1_ := Aside0.mk (hp_); have n2_ := Aside0.mk (blk_grown (g := gb139) (o := .cells #[.int .i64 a0_0, .int .i64 a0_1, .slice A0_2 l0_2.length c0_2] 29 (0, 0)) (by (with_reducible repeat (first | refine blk_drewN ?_ _ | refine blk_drew ?_ | refine blk_alloc ?_ _)); exact BK139.out) hg (Kd.R_ne HO_12.out BK139.out (by decide))); have n3_ := Aside0.mk ((by rw [hw]; exact below_set (HB.out) GB52.out : Below w.heap.size w w56)); clear HO_10; clear HO_12; clear BK139; clear HB; have HO_10 := n0_; have HO_12 := n1_; have BK139 := n2_; have HB := n3_; clear n0_ n1_ n2_ n3_; clear hg hw hp_)); try go_wp2_with (first | (go_at_call 46; (with_reducible refine (spec_l03Step.calls a0_0 a0_1 _ _ l0_2 x21_6 t154 t155 t156 _ ?side1 ?side2 A43.out).mono ?_); (case side1 => repeat (first | exact (Kd.C_below HR0_2.out HB.out) | (with_reducible refine Kd.C_alloc ?_ _) | (with_reducible refine Kd.C_drewN ?_ _) | (with_reducible refine Kd.C_drew ?_))); (case side2 => exact HC0_2.out); rintro e w54 ⟨rfl, hb⟩; have n0_ := Aside0.mk (Kd.R_below (by (with_reducible repeat (first | apply Kd.R_alloc | apply Kd.R_drewN | apply Kd.R_drew)); exact HO_10.out) hb); have n1_ := Aside0.mk (Kd.R_below (by (with_reducible repeat (first | apply Kd.R_alloc | apply Kd.R_drewN | apply Kd.R_drew)); exact HO_12.out) hb); have n2_ := Aside0.mk (blk_below (g := gb139) (o := .cells #[.int .i64 a0_0, .int .i64 a0_1, .slice A0_2 l0_2.length c0_2] 29 (0, 0)) (by (with_reducible repeat (first | refine blk_drewN ?_ _ | refine blk_drew ?_ | refine blk_alloc ?_ _)); exact BK139.out) hb); have n3_ := Aside0.mk (below_step (by repeat (first | (with_reducible first | exact HB.out | apply below_alloc | apply pw_below_drewN | apply below_drew1 | refine below_set ?_ GE139.out) | exact HB.out)) hb); clear HO_10; clear HO_12; clear BK139; clear HB; have HO_10 := n0_; have HO_12 := n1_; have BK139 := n2_; have HB := n3_; clear n0_ n1_ n2_ n3_; (try clear hb); (try clear hb2); (try clear hk); (try clear hi); have p52 : 0 ≤ ((ji49) : Int) := of_decide_eq_true (by first | (with_reducible assumption) | assumption); have q52 : ((ji49) : Int) < ((x12_6.length : Int) : Int) := of_decide_eq_true (by first | (with_reducible assumption) | assumption); obtain ⟨go52, co52, eo52, gb52, gl52, cl52, HG52⟩ := Kd.R_form HO_12.out (by omega); (first | cases eo52 | (injection eo52 with ea_ en_ ec_; (first | subst ea_ | (injection ea_ with ea_; subst ea_)); subst ec_; clear en_)); have GB52 := Aside0.mk gb52; have GG52 := Aside0.mk HG52; clear gb52 gl52 HG52; obtain ⟨hx52_0, hf52_0⟩ := Kd.R_celln false HO_12.out ((ji49) : Int) p52 q52; replace p52 := eq_true p52; replace q52 := eq_true q52; obtain ⟨hy55_, hz55_⟩ := Kd.R_celln false HO_12.out ((ji49) : Int) (of_decide_eq_true (by first | (with_reducible assumption) | assumption)) (of_decide_eq_true (by first | (with_reducible assumption) | assumption)); have HP55 := Kd.R_putg HO_12.out ((ji49) : Int) true) | ((with_reducible refine gate_store (t := 4) (p := 147) rfl ?_); (try (rw [drewN_self w54]; generalize hq_ : World.drewN w54 _ = w54; have n0_ := Aside0.mk (Kd.R_at hq_ HO_10.out); have n1_ := Aside0.mk (Kd.R_at hq_ HO_12.out); have n2_ := Aside0.mk (blk_at hq_ BK139.out); have n3_ := Aside0.mk (below_at hq_ HB.out); clear hq_ HO_10 HO_12 BK139 HB; have HO_10 := n0_; have HO_12 := n1_; have BK139 := n2_; have HB := n3_; clear n0_ n1_ n2_ n3_; (try (obtain ⟨hy55_, hz55_⟩ := Kd.R_celln false HO_12.out ((ji49) : Int) (of_decide_eq_true (by first | (with_reducible assumption) | assumption)) (of_decide_eq_true (by first | (with_reducible assumption) | assumption)))); (try (have HP55 := Kd.R_putg HO_12.out ((ji49) : Int) true)))); refine store_event (t := 4) (p := 147) (v := ?vo_w56) (w1 := (w54.setCell ⟨go52, ((ji49) : Int).toNat, none⟩ (.bool true))) ?hg ?ho ?hn ?hr ?_; (case ho => rfl); (case hg => rfl); (case hn => rfl); (case hr => first | (go_simp; done) | (go_simp; rfl)); intro w56 hw; have hg : w54.grownBy w56 (some go52) := (by rw [hw]; exact HP55.2); have hp_ : Kd.R Kd.bool 4 w56 w.heap.size (fun k_ => some k_ ≠ (.slice (some ad150) x10_2.length co36 : Value).ownBlock) (.slice (some ⟨go52, 0, none⟩) x12_6.length co52) y157 := (by rw [hw, Ny157.out]; exact HP55.1); clear HP55; have n0_ := Aside0.mk (Kd.R_after (v := (.slice (some ⟨go52, 0, none⟩) x12_6.length co52)) (v1 := (.slice (some ⟨go52, 0, none⟩) x12_6.length co52)) (ok := (fun _ => True)) (by (with_reducible repeat (first | apply Kd.R_alloc | apply Kd.R_drewN | apply Kd.R_drew)); exact Kd.R_mono HO_10.out (fun _ hk => ⟨trivial, hk⟩)) hg (.inl rfl)); have n1_ := Aside0.mk (hp_); have n2_ := Aside0.mk (blk_grown (g := gb139) (o := .cells #[.int .i64 a0_0, .int .i64 a0_1, .slice A0_2 l0_2.length c0_2] 29 (0, 0)) (by (with_reducible repeat (first | refine blk_drewN ?_ _ | refine blk_drew ?_ | refine blk_alloc ?_ _)); exact BK139.out) hg (Kd.R_ne HO_12.out BK139.out (by decide))); have n3_ := Aside0.mk ((by rw [hw]; exact below_set (HB.out) GB52.out : Below w.heap.size w w56)); clear HO_10; clear HO_12; clear BK139; clear HB; have HO_10 := n0_; have HO_12 := n1_; have BK139 := n2_; have HB := n3_; clear n0_ n1_ n2_ n3_; clear hg hw hp_)))
                                                                go_roundg k6
                                                                case measure => have := HK1.out; have := HK2.out; have := HJ18.out; have := HK4.out; have := HJ34.out; have := HK6.out; omega
                                                                case rel => exact ⟨(y157), (wrap64 (x21_6 + 1)), (by first | rfl | (simp; done) | (simp [*]; done)), H', ⟨by have := HK1.out; have := HK2.out; have := HJ18.out; have := HK4.out; have := HJ34.out; have := HK6.out; omega⟩, ⟨by (with_reducible repeat (first | apply Kd.R_alloc | apply Kd.R_drewN | apply Kd.R_drew)); exact Kd.R_mono HO_10.out (fun _ hk => hk.2)⟩, ⟨by (with_reducible repeat (first | apply Kd.R_alloc | apply Kd.R_drewN | apply Kd.R_drew)); exact HO_12.out⟩, ⟨by (with_reducible repeat (first | refine blk_drewN ?_ _ | refine blk_drew ?_ | refine blk_alloc ?_ _)); exact BK139.out⟩, ⟨by repeat (first | (with_reducible first | exact HB.out | apply below_alloc | apply pw_below_drewN | apply below_drew1 | refine below_set ?_ GE139.out) | exact HB.out)⟩⟩
                                                              · rw [if_neg c51] at H
                                                                exact absurd H (by simp)
                                                            · rw [if_neg c50] at H
                                                              exact absurd H (by simp)
                                                      · rw [if_neg c44] at H
                                                        have c44b0 : (t154 == t152) = false := beq_eq_false_iff_ne.mpr c44
                                                        have c44b1 : (t154 != t152) = true := bne_iff_ne.mpr c44
                                                        have H' := Aside0.mk H
                                                        clear H
                                                        have hcz57_0 : wr.cell? ⟨gb139, 0, none⟩ = some (.int .i64 a0_0) := (blk_cell BK139.out 0).trans rfl
                                                        have hcz57_1 : wr.cell? ⟨gb139, 1, none⟩ = some (.int .i64 a0_1) := (blk_cell BK139.out 1).trans rfl
                                                        have hcz57_2 : wr.cell? ⟨gb139, 2, none⟩ = some (.slice A0_2 l0_2.length c0_2) := (blk_cell BK139.out 2).trans rfl
                                                        have hfz57_0 := blk_frozen BK139.out 0
                                                        have hfz57_1 := blk_frozen BK139.out 1
                                                        have hfz57_2 := blk_frozen BK139.out 2
                                                        go_wp2_with (first | (go_at_call 46; (with_reducible refine (spec_l03Step.calls a0_0 a0_1 _ _ l0_2 x21_6 t154 t155 t156 _ ?side1 ?side2 A43.out).mono ?_); (case side1 => repeat (first | exact (Kd.C_below HR0_2.out HB.out) | (with_reducible refine Kd.C_alloc ?_ _) | (with_reducible refine Kd.C_drewN ?_ _) | (with_reducible refine Kd.C_drew ?_))); (case side2 => exact HC0_2.out); rintro e w58 ⟨rfl, hb⟩; have n0_ := Aside0.mk (Kd.R_below (by (with_reducible repeat (first | apply Kd.R_alloc | apply Kd.R_drewN | apply Kd.R_drew)); exact HO_10.out) hb); have n1_ := Aside0.mk (Kd.R_below (by (with_reducible repeat (first | apply Kd.R_alloc | apply Kd.R_drewN | apply Kd.R_drew)); exact HO_12.out) hb); have n2_ := Aside0.mk (blk_below (g := gb139) (o := .cells #[.int .i64 a0_0, .int .i64 a0_1, .slice A0_2 l0_2.length c0_2] 29 (0, 0)) (by (with_reducible repeat (first | refine blk_drewN ?_ _ | refine blk_drew ?_ | refine blk_alloc ?_ _)); exact BK139.out) hb); have n3_ := Aside0.mk (below_step (by repeat (first | (with_reducible first | exact HB.out | apply below_alloc | apply pw_below_drewN | apply below_drew1 | refine below_set ?_ GE139.out) | exact HB.out)) hb); clear HO_10; clear HO_12; clear BK139; clear HB; have HO_10 := n0_; have HO_12 := n1_; have BK139 := n2_; have HB := n3_; clear n0_ n1_ n2_ n3_; (try clear hb); (try clear hb2); (try clear hk); (try clear hi)))
                                                        repeat (go_quiet (first | (go_at_call 46; (with_reducible refine (spec_l03Step.calls a0_0 a0_1 _ _ l0_2 x21_6 t154 t155 t156 _ ?side1 ?side2 A43.out).mono ?_); (case side1 => repeat (first | exact (Kd.C_below HR0_2.out HB.out) | (with_reducible refine Kd.C_alloc ?_ _) | (with_reducible refine Kd.C_drewN ?_ _) | (with_reducible refine Kd.C_drew ?_))); (case side2 => exact HC0_2.out); rintro e w58 ⟨rfl, hb⟩; have n0_ := Aside0.mk (Kd.R_below (by (with_reducible repeat (first | apply Kd.R_alloc | apply Kd.R_drewN | apply Kd.R_drew)); exact HO_10.out) hb); have n1_ := Aside0.mk (Kd.R_below (by (with_reducible repeat (first | apply Kd.R_alloc | apply Kd.R_drewN | apply Kd.R_drew)); exact HO_12.out) hb); have n2_ := Aside0.mk (blk_below (g := gb139) (o := .cells #[.int .i64 a0_0, .int .i64 a0_1, .slice A0_2 l0_2.length c0_2] 29 (0, 0)) (by (with_reducible repeat (first | refine blk_drewN ?_ _ | refine blk_drew ?_ | refine blk_alloc ?_ _)); exact BK139.out) hb); have n3_ := Aside0.mk (below_step (by repeat (first | (with_reducible first | exact HB.out | apply below_alloc | apply pw_below_drewN | apply below_drew1 | refine below_set ?_ GE139.out) | exact HB.out)) hb); clear HO_10; clear HO_12; clear BK139; clear HB; have HO_10 := n0_; have HO_12 := n1_; have BK139 := n2_; have HB := n3_; clear n0_ n1_ n2_ n3_; (try clear hb); (try clear hb2); (try clear hk); (try clear hi))); try go_wp2_with (first | (go_at_call 46; (with_reducible refine (spec_l03Step.calls a0_0 a0_1 _ _ l0_2 x21_6 t154 t155 t156 _ ?side1 ?side2 A43.out).mono ?_); (case side1 => repeat (first | exact (Kd.C_below HR0_2.out HB.out) | (with_reducible refine Kd.C_alloc ?_ _) | (with_reducible refine Kd.C_drewN ?_ _) | (with_reducible refine Kd.C_drew ?_))); (case side2 => exact HC0_2.out); rintro e w58 ⟨rfl, hb⟩; have n0_ := Aside0.mk (Kd.R_below (by (with_reducible repeat (first | apply Kd.R_alloc | apply Kd.R_drewN | apply Kd.R_drew)); exact HO_10.out) hb); have n1_ := Aside0.mk (Kd.R_below (by (with_reducible repeat (first | apply Kd.R_alloc | apply Kd.R_drewN | apply Kd.R_drew)); exact HO_12.out) hb); have n2_ := Aside0.mk (blk_below (g := gb139) (o := .cells #[.int .i64 a0_0, .int .i64 a0_1, .slice A0_2 l0_2.length c0_2] 29 (0, 0)) (by (with_reducible repeat (first | refine blk_drewN ?_ _ | refine blk_drew ?_ | refine blk_alloc ?_ _)); exact BK139.out) hb); have n3_ := Aside0.mk (below_step (by repeat (first | (with_reducible first | exact HB.out | apply below_alloc | apply pw_below_drewN | apply below_drew1 | refine below_set ?_ GE139.out) | exact HB.out)) hb); clear HO_10; clear HO_12; clear BK139; clear HB; have HO_10 := n0_; have HO_12 := n1_; have BK139 := n2_; have HB := n3_; clear n0_ n1_ n2_ n3_; (try clear hb); (try clear hb2); (try clear hk); (try clear hi))))
                                                        go_roundg k6
                                                        case measure => have := HK1.out; have := HK2.out; have := HJ18.out; have := HK4.out; have := HJ34.out; have := HK6.out; omega
                                                        case rel => exact ⟨(x12_6), (wrap64 (x21_6 + 1)), (by first | rfl | (simp; done) | (simp [*]; done)), H', ⟨by have := HK1.out; have := HK2.out; have := HJ18.out; have := HK4.out; have := HJ34.out; have := HK6.out; omega⟩, ⟨by (with_reducible repeat (first | apply Kd.R_alloc | apply Kd.R_drewN | apply Kd.R_drew)); exact HO_10.out⟩, ⟨by (with_reducible repeat (first | apply Kd.R_alloc | apply Kd.R_drewN | apply Kd.R_drew)); exact HO_12.out⟩, ⟨by (with_reducible repeat (first | refine blk_drewN ?_ _ | refine blk_drew ?_ | refine blk_alloc ?_ _)); exact BK139.out⟩, ⟨by repeat (first | (with_reducible first | exact HB.out | apply below_alloc | apply pw_below_drewN | apply below_drew1 | refine below_set ?_ GE139.out) | exact HB.out)⟩⟩
                                                    · rw [if_neg c42] at H
                                                      have c42b0 : decide (x21_6 < (wrap64 (2 * (l0_2.length : Int)))) = false := decide_eq_false c42
                                                      clear c42
                                                      have H' := Aside0.mk H
                                                      clear H
                                                      go_wp2
                                                      repeat (go_quiet (fail); try go_wp2)
                                                      go_roundg k6
                                                      case measure => have := HK1.out; have := HK2.out; have := HJ18.out; have := HK4.out; have := HJ34.out; have := HK6.out; omega
                                                      case rel => exact ⟨(x12_6), (x13_34), (wrap64 (x14_4 + 1)), (by first | rfl | (simp; done) | (simp [*]; done)), (by first | rfl | (simp; done) | (simp [*]; done)), H', ⟨by have := HK1.out; have := HK2.out; have := HJ18.out; have := HK4.out; have := HJ34.out; have := HK6.out; omega⟩, ⟨by (with_reducible repeat (first | apply Kd.R_alloc | apply Kd.R_drewN | apply Kd.R_drew)); exact HO_10.out⟩, ⟨by (with_reducible repeat (first | apply Kd.R_alloc | apply Kd.R_drewN | apply Kd.R_drew)); exact HO_12.out⟩, ⟨by (with_reducible repeat (first | refine blk_drewN ?_ _ | refine blk_drew ?_ | refine blk_alloc ?_ _)); exact BK139.out⟩, ⟨by repeat (first | (with_reducible first | exact HB.out | apply below_alloc | apply pw_below_drewN | apply below_drew1 | refine below_set ?_ GE139.out) | exact HB.out)⟩⟩
                                        · replace c32 := Bool.eq_false_iff.mpr c32
                                          subst c32
                                          have H1 : (spec_l03Levels.l2 k4 (wrap64 (2 * (l0_2.length : Int))) a0_1 x5_2 x6_1 t140 x10_2 x11_2 x12_4 x13_4 (wrap64 (x14_4 + 1)) a0_0 a0_1 l0_2) = some r := by rw [if_neg (show ¬ (false = true) by decide)] at H; exact H
                                          clear H
                                          have H := H1
                                          clear H1
                                          have H' := Aside0.mk H
                                          clear H
                                          obtain ⟨Ao59, co59, eo59⟩ := Kd.R_slice HO_10.out
                                          subst eo59
                                          have p150 : 0 ≤ (x14_4 : Int) := of_decide_eq_true (by first | (with_reducible assumption) | assumption)
                                          have q150 : x14_4 < (x10_2.length : Int) := of_decide_eq_true (by first | (with_reducible assumption) | assumption)
                                          obtain ⟨ad150, e150, hx150_0⟩ := Kd.at_bool (Kd.R_reads' HO_10.out).2.2 x14_4 p150 q150
                                          (try rw [← Nbq31.out] at hx150_0)
                                          cases e150
                                          replace p150 := eq_true p150
                                          replace q150 := eq_true q150
                                          go_wp2
                                          repeat (go_quiet (fail); try go_wp2)
                                          go_roundg k4
                                          case measure => have := HK1.out; have := HK2.out; have := HJ18.out; have := HK4.out; omega
                                          case rel => exact ⟨(x12_4), (x13_4), (wrap64 (x14_4 + 1)), (by first | rfl | (simp; done) | (simp [*]; done)), (by first | rfl | (simp; done) | (simp [*]; done)), H', ⟨by have := HK1.out; have := HK2.out; have := HJ18.out; have := HK4.out; omega⟩, ⟨by (with_reducible repeat (first | apply Kd.R_alloc | apply Kd.R_drewN | apply Kd.R_drew)); exact HO_10.out⟩, ⟨by (with_reducible repeat (first | apply Kd.R_alloc | apply Kd.R_drewN | apply Kd.R_drew)); exact HO_12.out⟩, ⟨by (with_reducible repeat (first | refine blk_drewN ?_ _ | refine blk_drew ?_ | refine blk_alloc ?_ _)); exact BK139.out⟩, ⟨by repeat (first | (with_reducible first | exact HB.out | apply below_alloc | apply pw_below_drewN | apply below_drew1 | refine below_set ?_ GE139.out) | exact HB.out)⟩⟩
                                      · rw [if_neg c30] at H
                                        exact absurd H (by simp)
                                    · rw [if_neg c29] at H
                                      exact absurd H (by simp)
                                  · rw [if_neg c28] at H
                                    have c28b0 : decide (x14_4 < (wrap64 ((wrap64 (2 * (l0_2.length : Int))) * a0_1))) = false := decide_eq_false c28
                                    clear c28
                                    by_cases c60 : x13_4 = true
                                    · subst c60
                                      have H1 : (spec_l03Levels.l0 k4 (wrap64 (2 * (l0_2.length : Int))) a0_1 x11_2 (wrap64 (x6_1 + 1)) a0_0 a0_1 l0_2) = some r := by rw [if_pos rfl] at H; exact H
                                      clear H
                                      have H := H1
                                      clear H1
                                      have H' := Aside0.mk H
                                      clear H
                                      go_wp2
                                      repeat (go_quiet (fail); try go_wp2)
                                      go_roundg k4
                                      case measure => have := HK1.out; have := HK2.out; have := HJ18.out; have := HK4.out; omega
                                      case rel => exact ⟨(x11_2), (wrap64 (x6_1 + 1)), (by first | rfl | (simp; done) | (simp [*]; done)), (by first | rfl | (simp; done) | (simp [*]; done)), H', ⟨by have := HK1.out; have := HK2.out; have := HJ18.out; have := HK4.out; omega⟩, ⟨by (with_reducible repeat (first | refine blk_drewN ?_ _ | refine blk_drew ?_ | refine blk_alloc ?_ _)); exact BK139.out⟩, ⟨by repeat (first | (with_reducible first | exact HB.out | apply below_alloc | apply pw_below_drewN | apply below_drew1 | refine below_set ?_ GE139.out) | exact HB.out)⟩⟩
                                    · replace c60 := Bool.eq_false_iff.mpr c60
                                      subst c60
                                      have H1 : (spec_l03Levels.l1 k4 (wrap64 (2 * (l0_2.length : Int))) a0_1 x5_2 x6_1 t140 x12_4 (wrap64 (x11_2 + 1)) a0_0 a0_1 l0_2) = some r := by rw [if_neg (show ¬ (false = true) by decide)] at H; exact H
                                      clear H
                                      have H := H1
                                      clear H1
                                      have H' := Aside0.mk H
                                      clear H
                                      go_wp2
                                      repeat (go_quiet (fail); try go_wp2)
                                      go_roundg k4
                                      case measure => have := HK1.out; have := HK2.out; have := HJ18.out; have := HK4.out; omega
                                      case rel => exact ⟨(x5_2), (x12_4), (wrap64 (x11_2 + 1)), (by first | rfl | (simp; done) | (simp [*]; done)), (by first | rfl | (simp; done) | (simp [*]; done)), H', ⟨by have := HK1.out; have := HK2.out; have := HJ18.out; have := HK4.out; omega⟩, ⟨by (with_reducible repeat (first | apply Kd.R_alloc | apply Kd.R_drewN | apply Kd.R_drew)); exact Kd.R_mono HO_12.out (fun _ hk => trivial)⟩, ⟨by (with_reducible repeat (first | refine blk_drewN ?_ _ | refine blk_drew ?_ | refine blk_alloc ?_ _)); exact BK139.out⟩, ⟨by repeat (first | (with_reducible first | exact HB.out | apply below_alloc | apply pw_below_drewN | apply below_drew1 | refine below_set ?_ GE139.out) | exact HB.out)⟩⟩
                            · rw [if_neg c25] at H
                              exact absurd H (by simp)
                          · rw [if_neg c24] at H
                            exact absurd H (by simp)
                        · replace c22 := Bool.eq_false_iff.mpr c22
                          subst c22
                          have H1 : (spec_l03Levels.l0 kj18 (wrap64 (2 * (l0_2.length : Int))) a0_1 x5_2 (wrap64 (x6_1 + 1)) a0_0 a0_1 l0_2) = some r := by rw [if_neg (show ¬ (false = true) by decide)] at H; exact H
                          clear H
                          have H := H1
                          clear H1
                          have H' := Aside0.mk H
                          clear H
                          go_wp2
                          repeat (go_quiet (fail); try go_wp2)
                          go_roundg kj18
                          case measure => have := HK1.out; have := HK2.out; have := HJ18.out; omega
                          case rel => exact ⟨(x5_2), (wrap64 (x6_1 + 1)), (by first | rfl | (simp; done) | (simp [*]; done)), (by first | rfl | (simp; done) | (simp [*]; done)), H', ⟨by have := HK1.out; have := HK2.out; have := HJ18.out; omega⟩, ⟨by (with_reducible repeat (first | refine blk_drewN ?_ _ | refine blk_drew ?_ | refine blk_alloc ?_ _)); exact BK139.out⟩, ⟨by repeat (first | (with_reducible first | exact HB.out | apply below_alloc | apply pw_below_drewN | apply below_drew1 | refine below_set ?_ GE139.out) | exact HB.out)⟩⟩
              · rw [if_neg c11] at H
                exact absurd H (by simp)
            · rw [if_neg c10] at H
              exact absurd H (by simp)
          · rw [if_neg c8] at H
            exact absurd H (by simp)
        · rw [if_neg c7] at H
          exact absurd H (by simp)
      · rw [if_neg c4] at H
        have c4b0 : decide (x6_1 < (wrap64 (2 * (l0_2.length : Int)))) = false := decide_eq_false c4
        clear c4
        obtain rfl := Option.some.inj H
        go_wp2
        repeat (go_quiet (fail); try go_wp2)
        go_ret
        exact ⟨by first | rfl | (simp [errW_none, errW_some] <;> rfl) | (simp [*, errW_none, errW_some] <;> rfl), by repeat (first | (with_reducible first | exact HB.out | apply below_alloc | apply pw_below_drewN | apply below_drew1 | refine below_set ?_ GE139.out) | exact HB.out)⟩

end Go.Proofs.Ytdieobmhmkdjmaa.XFnExactWalkGirth
