-- Written by this project's own program (mprint.py) by means of the kit's printer: with contracts of its own for the functions that the printer leaves out.
import Derived.Test.YtockngphfpedkaaDoorXFnDistancesx0
import Derived.Test.YtockngphfpedkaaDoorXFnDistancesx1
import Derived.Test.YtockngphfpedkaaDoorXFnDistancesx2
import Derived.Test.YtockngphfpedkaaDoorXFnDistancesx3
import Derived.Test.YtockngphfpedkaaDoorXFnDistancesx4
namespace Go.Proofs.YtockngphfpedkaaDoor.XFnDistances
open Go.RowKit Go.Proofs.YtockngphfpedkaaDoorW.PrintWords Go.Proofs.YtockngphfpedkaaDoorW.PrintLast Go.Proofs.YtockngphfpedkaaDoorW.PrintMore
attribute [local go_sem] max2_int min2_int max_two min_two max_three min_three max_four min_four   -- for this text's walks alone
set_option linter.unusedVariables false
set_option linter.unusedSimpArgs false

/-! ### spec_l01Named: function 101 -/
mutual
def spec_l01Named.j0 : Nat → ByteArray → ByteArray → Bool → Option (Int × List Int × Bool)
  | 0, _, _, _ => none
  | k + 1, x0, x17, x34 => if x34 = true then (if x0.toList = ([99, 108, 101, 98, 115, 99, 104] : List UInt8) then (spec_l01Named.j1 k 16) else (spec_l01Named.j1 k 8)) else (if x17.toList = ([112, 101, 116, 101, 114, 115, 101, 110] : List UInt8) then ((spec_l01Empty.f 10).bind fun bt197 => (spec_l01Named.l2 k 0 bt197.1 bt197.2)) else (if x17.toList = ([105, 99, 111, 115, 97, 104, 101, 100, 114, 111, 110] : List UInt8) then ((spec_l01Empty.f 12).bind fun bt205 => (spec_l01Named.l3 k 0 bt205.1 bt205.2)) else (if x17.toList = ([104, 111, 102, 102, 109, 97, 110, 115, 105, 110, 103, 108, 101, 116, 111, 110] : List UInt8) then ((spec_l01Empty.f 50).bind fun bt216 => (spec_l01Named.l4 k 0 bt216.1 bt216.2)) else (if x17.toList = ([104, 101, 97, 119, 111, 111, 100] : List UInt8) then ((spec_l01Jumps.f k 14 (([5, 9] : List Int))).bind fun bt227 => (some (bt227.1, bt227.2, true))) else (if x17.toList = ([109, 111, 101, 98, 105, 117, 115, 107, 97, 110, 116, 111, 114] : List UInt8) then ((spec_l01Jumps.f k 16 (([5, 11] : List Int))).bind fun bt234 => (some (bt234.1, bt234.2, true))) else (if x17.toList = ([112, 97, 112, 112, 117, 115] : List UInt8) then ((spec_l01Jumps.f k 18 (([5, 7, 11, 7, 11, 13] : List Int))).bind fun bt241 => (some (bt241.1, bt241.2, true))) else (if x17.toList = ([100, 101, 115, 97, 114, 103, 117, 101, 115] : List UInt8) then ((spec_l01Jumps.f k 20 (([5, 15, 9, 11] : List Int))).bind fun bt248 => (some (bt248.1, bt248.2, true))) else (if x17.toList = ([100, 111, 100, 101, 99, 97, 104, 101, 100, 114, 111, 110] : List UInt8) then ((spec_l01Jumps.f k 20 (([10, 7, 4, 16, 13, 10, 16, 7, 13, 4] : List Int))).bind fun bt255 => (some (bt255.1, bt255.2, true))) else (if x17.toList = ([109, 99, 103, 101, 101] : List UInt8) then ((spec_l01Jumps.f k 24 (([12, 7, 17] : List Int))).bind fun bt262 => (some (bt262.1, bt262.2, true))) else (if x17.toList = ([116, 117, 116, 116, 101, 99, 111, 120, 101, 116, 101, 114] : List UInt8) then ((spec_l01Jumps.f k 30 (([17, 21, 7, 23, 9, 13] : List Int))).bind fun bt269 => (some (bt269.1, bt269.2, true))) else (some (0, ([] : List Int), false))))))))))))
def spec_l01Named.j1 : Nat → Int → Option (Int × List Int × Bool)
  | 0, _ => none
  | k + 1, x4 => (spec_l01Empty.f x4).bind fun bt190 => (spec_l01Named.l0 k x4 0 bt190.1 bt190.2)
def spec_l01Named.l0 : Nat → Int → Int → Int → List Int → Option (Int × List Int × Bool)
  | 0, _, _, _, _ => none
  | k + 1, x4, x6, x195000, x195001 => if x6 < x4 then (spec_l01Named.l1 k x4 x6 1 x195000 x195001) else (some (x195000, x195001, true))
def spec_l01Named.l1 : Nat → Int → Int → Int → Int → List Int → Option (Int × List Int × Bool)
  | 0, _, _, _, _, _ => none
  | k + 1, x4, x6, x7, x195000, x195001 => if x7 < x4 then ((spec_l01Put.f x195000 x195001 x6 (Go.bits .xor .i64 x6 x7)).bind fun t195 => (spec_l01Named.l1 k x4 x6 (wrap64 (2 * x7)) x195000 t195)) else (if x4 = 16 then ((spec_l01Put.f x195000 x195001 x6 (wrap64 (15 - x6))).bind fun t196 => (spec_l01Named.l0 k x4 (wrap64 (x6 + 1)) x195000 t196)) else (spec_l01Named.l0 k x4 (wrap64 (x6 + 1)) x195000 x195001))
def spec_l01Named.l2 : Nat → Int → Int → List Int → Option (Int × List Int × Bool)
  | 0, _, _, _ => none
  | k + 1, x9, x202000, x202001 => if x9 < 5 then ((spec_l01Put.f x202000 x202001 x9 (Int.tmod (wrap64 (x9 + 1)) 5)).bind fun t202 => ((spec_l01Put.f x202000 t202 x9 (wrap64 (x9 + 5))).bind fun t203 => ((spec_l01Put.f x202000 t203 (wrap64 (x9 + 5)) (wrap64 ((Int.tmod (wrap64 (x9 + 2)) 5) + 5))).bind fun t204 => (spec_l01Named.l2 k (wrap64 (x9 + 1)) x202000 t204)))) else (some (x202000, x202001, true))
def spec_l01Named.l3 : Nat → Int → Int → List Int → Option (Int × List Int × Bool)
  | 0, _, _, _ => none
  | k + 1, x11, x210000, x210001 => if x11 < 5 then ((spec_l01Put.f x210000 x210001 0 (wrap64 (1 + x11))).bind fun t210 => ((spec_l01Put.f x210000 t210 11 (wrap64 (6 + x11))).bind fun t211 => ((spec_l01Put.f x210000 t211 (wrap64 (1 + x11)) (wrap64 (1 + (Int.tmod (wrap64 (x11 + 1)) 5)))).bind fun t212 => ((spec_l01Put.f x210000 t212 (wrap64 (6 + x11)) (wrap64 (6 + (Int.tmod (wrap64 (x11 + 1)) 5)))).bind fun t213 => ((spec_l01Put.f x210000 t213 (wrap64 (1 + x11)) (wrap64 (6 + x11))).bind fun t214 => ((spec_l01Put.f x210000 t214 (wrap64 (1 + x11)) (wrap64 (6 + (Int.tmod (wrap64 (x11 + 1)) 5)))).bind fun t215 => (spec_l01Named.l3 k (wrap64 (x11 + 1)) x210000 t215))))))) else (some (x210000, x210001, true))
def spec_l01Named.l4 : Nat → Int → Int → List Int → Option (Int × List Int × Bool)
  | 0, _, _, _ => none
  | k + 1, x14, x221000, x221001 => if x14 < 5 then (spec_l01Named.l5 k x14 0 x221000 x221001) else (some (x221000, x221001, true))
def spec_l01Named.l5 : Nat → Int → Int → Int → List Int → Option (Int × List Int × Bool)
  | 0, _, _, _, _ => none
  | k + 1, x14, x15, x221000, x221001 => if x15 < 5 then ((spec_l01Put.f x221000 x221001 (wrap64 ((wrap64 (5 * x14)) + x15)) (wrap64 ((wrap64 (5 * x14)) + (Int.tmod (wrap64 (x15 + 1)) 5)))).bind fun t221 => ((spec_l01Put.f x221000 t221 (wrap64 ((wrap64 (25 + (wrap64 (5 * x14)))) + x15)) (wrap64 ((wrap64 (25 + (wrap64 (5 * x14)))) + (Int.tmod (wrap64 (x15 + 2)) 5)))).bind fun t222 => (spec_l01Named.l6 k x14 x15 0 x221000 t222))) else (spec_l01Named.l4 k (wrap64 (x14 + 1)) x221000 x221001)
def spec_l01Named.l6 : Nat → Int → Int → Int → Int → List Int → Option (Int × List Int × Bool)
  | 0, _, _, _, _, _ => none
  | k + 1, x14, x15, x16, x221000, x221001 => if x16 < 5 then ((spec_l01Put.f x221000 x221001 (wrap64 ((wrap64 (5 * x14)) + x15)) (wrap64 ((wrap64 (25 + (wrap64 (5 * x16)))) + (Int.tmod (wrap64 ((wrap64 (x14 * x16)) + x15)) 5)))).bind fun t223 => (spec_l01Named.l6 k x14 x15 (wrap64 (x16 + 1)) x221000 t223)) else (spec_l01Named.l5 k x14 (wrap64 (x15 + 1)) x221000 x221001)
end
def spec_l01Named.f (k : Nat) (a0 : ByteArray) : Option (Int × List Int × Bool) := if a0.toList = ([107, 52] : List UInt8) then ((spec_l01Empty.f 4).bind fun bt150 => ((spec_l01Complement.f k bt150.1 bt150.2).bind fun bt154 => (some (bt154.1, bt154.2, true)))) else (if a0.toList = ([107, 53] : List UInt8) then ((spec_l01Empty.f 5).bind fun bt158 => ((spec_l01Complement.f k bt158.1 bt158.2).bind fun bt162 => (some (bt162.1, bt162.2, true)))) else (if a0.toList = ([107, 51, 51] : List UInt8) then ((spec_l01Empty.f 3).bind fun bt166 => ((spec_l01Complement.f k bt166.1 bt166.2).bind fun bt170 => ((spec_l01Empty.f 3).bind fun bt174 => ((spec_l01Complement.f k bt174.1 bt174.2).bind fun bt178 => ((spec_l01Beside.f k bt170.1 bt170.2 bt178.1 bt178.2).bind fun bt182 => ((spec_l01Complement.f k bt182.1 bt182.2).bind fun bt186 => (some (bt186.1, bt186.2, true)))))))) else (if a0.toList = ([99, 117, 98, 101] : List UInt8) then (spec_l01Named.j0 k a0 a0 (a0.toList == ([99, 117, 98, 101] : List UInt8))) else (spec_l01Named.j0 k a0 a0 (a0.toList == ([99, 108, 101, 98, 115, 99, 104] : List UInt8))))))
theorem spec_l01Named.mono_l : ∀ k, (∀ y0 y1 y2, LeO (spec_l01Named.j0 k y0 y1 y2) (spec_l01Named.j0 (k + 1) y0 y1 y2)) ∧ (∀ y0, LeO (spec_l01Named.j1 k y0) (spec_l01Named.j1 (k + 1) y0)) ∧ (∀ y0 y1 y2 y3, LeO (spec_l01Named.l0 k y0 y1 y2 y3) (spec_l01Named.l0 (k + 1) y0 y1 y2 y3)) ∧ (∀ y0 y1 y2 y3 y4, LeO (spec_l01Named.l1 k y0 y1 y2 y3 y4) (spec_l01Named.l1 (k + 1) y0 y1 y2 y3 y4)) ∧ (∀ y0 y1 y2, LeO (spec_l01Named.l2 k y0 y1 y2) (spec_l01Named.l2 (k + 1) y0 y1 y2)) ∧ (∀ y0 y1 y2, LeO (spec_l01Named.l3 k y0 y1 y2) (spec_l01Named.l3 (k + 1) y0 y1 y2)) ∧ (∀ y0 y1 y2, LeO (spec_l01Named.l4 k y0 y1 y2) (spec_l01Named.l4 (k + 1) y0 y1 y2)) ∧ (∀ y0 y1 y2 y3, LeO (spec_l01Named.l5 k y0 y1 y2 y3) (spec_l01Named.l5 (k + 1) y0 y1 y2 y3)) ∧ (∀ y0 y1 y2 y3 y4, LeO (spec_l01Named.l6 k y0 y1 y2 y3 y4) (spec_l01Named.l6 (k + 1) y0 y1 y2 y3 y4))
  | 0 => ⟨fun _ _ _ r h => by simp [spec_l01Named.j0] at h, fun _ r h => by simp [spec_l01Named.j1] at h, fun _ _ _ _ r h => by simp [spec_l01Named.l0] at h, fun _ _ _ _ _ r h => by simp [spec_l01Named.l1] at h, fun _ _ _ r h => by simp [spec_l01Named.l2] at h, fun _ _ _ r h => by simp [spec_l01Named.l3] at h, fun _ _ _ r h => by simp [spec_l01Named.l4] at h, fun _ _ _ _ r h => by simp [spec_l01Named.l5] at h, fun _ _ _ _ _ r h => by simp [spec_l01Named.l6] at h⟩
  | k + 1 => by
    obtain ⟨ih0, ih1, ih2, ih3, ih4, ih5, ih6, ih7, ih8⟩ := spec_l01Named.mono_l k
    refine ⟨?_, ?_, ?_, ?_, ?_, ?_, ?_, ?_, ?_⟩
    · intro y0 y1 y2
      unfold spec_l01Named.j0
      repeat' first
      | (with_reducible exact ih0 _ _ _)
      | (with_reducible exact ih1 _)
      | (with_reducible exact ih2 _ _ _ _)
      | (with_reducible exact ih3 _ _ _ _ _)
      | (with_reducible exact ih4 _ _ _)
      | (with_reducible exact ih5 _ _ _)
      | (with_reducible exact ih6 _ _ _)
      | (with_reducible exact ih7 _ _ _ _)
      | (with_reducible exact ih8 _ _ _ _ _)
      | (with_reducible exact spec_l01Beside.mono _ _ _ _ _)
      | (with_reducible exact spec_l01Complement.mono _ _ _)
      | (with_reducible exact spec_l01Jumps.mono _ _ _)
      | (with_reducible exact LeO.refl _)
      | (with_reducible exact LeO.none _)
      | (with_reducible refine LeO.ite ?_ ?_)
      | (with_reducible refine LeO.bind ?_ (fun _ => ?_))
      | exact ih0 _ _ _
      | exact ih1 _
      | exact ih2 _ _ _ _
      | exact ih3 _ _ _ _ _
      | exact ih4 _ _ _
      | exact ih5 _ _ _
      | exact ih6 _ _ _
      | exact ih7 _ _ _ _
      | exact ih8 _ _ _ _ _
      | exact spec_l01Beside.mono _ _ _ _ _
      | exact spec_l01Complement.mono _ _ _
      | exact spec_l01Jumps.mono _ _ _
      | exact LeO.none _
      | refine LeO.ite ?_ ?_
      | refine LeO.bind ?_ (fun _ => ?_)
    · intro y0
      unfold spec_l01Named.j1
      repeat' first
      | (with_reducible exact ih0 _ _ _)
      | (with_reducible exact ih1 _)
      | (with_reducible exact ih2 _ _ _ _)
      | (with_reducible exact ih3 _ _ _ _ _)
      | (with_reducible exact ih4 _ _ _)
      | (with_reducible exact ih5 _ _ _)
      | (with_reducible exact ih6 _ _ _)
      | (with_reducible exact ih7 _ _ _ _)
      | (with_reducible exact ih8 _ _ _ _ _)
      | (with_reducible exact spec_l01Beside.mono _ _ _ _ _)
      | (with_reducible exact spec_l01Complement.mono _ _ _)
      | (with_reducible exact spec_l01Jumps.mono _ _ _)
      | (with_reducible exact LeO.refl _)
      | (with_reducible exact LeO.none _)
      | (with_reducible refine LeO.ite ?_ ?_)
      | (with_reducible refine LeO.bind ?_ (fun _ => ?_))
      | exact ih0 _ _ _
      | exact ih1 _
      | exact ih2 _ _ _ _
      | exact ih3 _ _ _ _ _
      | exact ih4 _ _ _
      | exact ih5 _ _ _
      | exact ih6 _ _ _
      | exact ih7 _ _ _ _
      | exact ih8 _ _ _ _ _
      | exact spec_l01Beside.mono _ _ _ _ _
      | exact spec_l01Complement.mono _ _ _
      | exact spec_l01Jumps.mono _ _ _
      | exact LeO.none _
      | refine LeO.ite ?_ ?_
      | refine LeO.bind ?_ (fun _ => ?_)
    · intro y0 y1 y2 y3
      unfold spec_l01Named.l0
      repeat' first
      | (with_reducible exact ih0 _ _ _)
      | (with_reducible exact ih1 _)
      | (with_reducible exact ih2 _ _ _ _)
      | (with_reducible exact ih3 _ _ _ _ _)
      | (with_reducible exact ih4 _ _ _)
      | (with_reducible exact ih5 _ _ _)
      | (with_reducible exact ih6 _ _ _)
      | (with_reducible exact ih7 _ _ _ _)
      | (with_reducible exact ih8 _ _ _ _ _)
      | (with_reducible exact spec_l01Beside.mono _ _ _ _ _)
      | (with_reducible exact spec_l01Complement.mono _ _ _)
      | (with_reducible exact spec_l01Jumps.mono _ _ _)
      | (with_reducible exact LeO.refl _)
      | (with_reducible exact LeO.none _)
      | (with_reducible refine LeO.ite ?_ ?_)
      | (with_reducible refine LeO.bind ?_ (fun _ => ?_))
      | exact ih0 _ _ _
      | exact ih1 _
      | exact ih2 _ _ _ _
      | exact ih3 _ _ _ _ _
      | exact ih4 _ _ _
      | exact ih5 _ _ _
      | exact ih6 _ _ _
      | exact ih7 _ _ _ _
      | exact ih8 _ _ _ _ _
      | exact spec_l01Beside.mono _ _ _ _ _
      | exact spec_l01Complement.mono _ _ _
      | exact spec_l01Jumps.mono _ _ _
      | exact LeO.none _
      | refine LeO.ite ?_ ?_
      | refine LeO.bind ?_ (fun _ => ?_)
    · intro y0 y1 y2 y3 y4
      unfold spec_l01Named.l1
      repeat' first
      | (with_reducible exact ih0 _ _ _)
      | (with_reducible exact ih1 _)
      | (with_reducible exact ih2 _ _ _ _)
      | (with_reducible exact ih3 _ _ _ _ _)
      | (with_reducible exact ih4 _ _ _)
      | (with_reducible exact ih5 _ _ _)
      | (with_reducible exact ih6 _ _ _)
      | (with_reducible exact ih7 _ _ _ _)
      | (with_reducible exact ih8 _ _ _ _ _)
      | (with_reducible exact spec_l01Beside.mono _ _ _ _ _)
      | (with_reducible exact spec_l01Complement.mono _ _ _)
      | (with_reducible exact spec_l01Jumps.mono _ _ _)
      | (with_reducible exact LeO.refl _)
      | (with_reducible exact LeO.none _)
      | (with_reducible refine LeO.ite ?_ ?_)
      | (with_reducible refine LeO.bind ?_ (fun _ => ?_))
      | exact ih0 _ _ _
      | exact ih1 _
      | exact ih2 _ _ _ _
      | exact ih3 _ _ _ _ _
      | exact ih4 _ _ _
      | exact ih5 _ _ _
      | exact ih6 _ _ _
      | exact ih7 _ _ _ _
      | exact ih8 _ _ _ _ _
      | exact spec_l01Beside.mono _ _ _ _ _
      | exact spec_l01Complement.mono _ _ _
      | exact spec_l01Jumps.mono _ _ _
      | exact LeO.none _
      | refine LeO.ite ?_ ?_
      | refine LeO.bind ?_ (fun _ => ?_)
    · intro y0 y1 y2
      unfold spec_l01Named.l2
      repeat' first
      | (with_reducible exact ih0 _ _ _)
      | (with_reducible exact ih1 _)
      | (with_reducible exact ih2 _ _ _ _)
      | (with_reducible exact ih3 _ _ _ _ _)
      | (with_reducible exact ih4 _ _ _)
      | (with_reducible exact ih5 _ _ _)
      | (with_reducible exact ih6 _ _ _)
      | (with_reducible exact ih7 _ _ _ _)
      | (with_reducible exact ih8 _ _ _ _ _)
      | (with_reducible exact spec_l01Beside.mono _ _ _ _ _)
      | (with_reducible exact spec_l01Complement.mono _ _ _)
      | (with_reducible exact spec_l01Jumps.mono _ _ _)
      | (with_reducible exact LeO.refl _)
      | (with_reducible exact LeO.none _)
      | (with_reducible refine LeO.ite ?_ ?_)
      | (with_reducible refine LeO.bind ?_ (fun _ => ?_))
      | exact ih0 _ _ _
      | exact ih1 _
      | exact ih2 _ _ _ _
      | exact ih3 _ _ _ _ _
      | exact ih4 _ _ _
      | exact ih5 _ _ _
      | exact ih6 _ _ _
      | exact ih7 _ _ _ _
      | exact ih8 _ _ _ _ _
      | exact spec_l01Beside.mono _ _ _ _ _
      | exact spec_l01Complement.mono _ _ _
      | exact spec_l01Jumps.mono _ _ _
      | exact LeO.none _
      | refine LeO.ite ?_ ?_
      | refine LeO.bind ?_ (fun _ => ?_)
    · intro y0 y1 y2
      unfold spec_l01Named.l3
      repeat' first
      | (with_reducible exact ih0 _ _ _)
      | (with_reducible exact ih1 _)
      | (with_reducible exact ih2 _ _ _ _)
      | (with_reducible exact ih3 _ _ _ _ _)
      | (with_reducible exact ih4 _ _ _)
      | (with_reducible exact ih5 _ _ _)
      | (with_reducible exact ih6 _ _ _)
      | (with_reducible exact ih7 _ _ _ _)
      | (with_reducible exact ih8 _ _ _ _ _)
      | (with_reducible exact spec_l01Beside.mono _ _ _ _ _)
      | (with_reducible exact spec_l01Complement.mono _ _ _)
      | (with_reducible exact spec_l01Jumps.mono _ _ _)
      | (with_reducible exact LeO.refl _)
      | (with_reducible exact LeO.none _)
      | (with_reducible refine LeO.ite ?_ ?_)
      | (with_reducible refine LeO.bind ?_ (fun _ => ?_))
      | exact ih0 _ _ _
      | exact ih1 _
      | exact ih2 _ _ _ _
      | exact ih3 _ _ _ _ _
      | exact ih4 _ _ _
      | exact ih5 _ _ _
      | exact ih6 _ _ _
      | exact ih7 _ _ _ _
      | exact ih8 _ _ _ _ _
      | exact spec_l01Beside.mono _ _ _ _ _
      | exact spec_l01Complement.mono _ _ _
      | exact spec_l01Jumps.mono _ _ _
      | exact LeO.none _
      | refine LeO.ite ?_ ?_
      | refine LeO.bind ?_ (fun _ => ?_)
    · intro y0 y1 y2
      unfold spec_l01Named.l4
      repeat' first
      | (with_reducible exact ih0 _ _ _)
      | (with_reducible exact ih1 _)
      | (with_reducible exact ih2 _ _ _ _)
      | (with_reducible exact ih3 _ _ _ _ _)
      | (with_reducible exact ih4 _ _ _)
      | (with_reducible exact ih5 _ _ _)
      | (with_reducible exact ih6 _ _ _)
      | (with_reducible exact ih7 _ _ _ _)
      | (with_reducible exact ih8 _ _ _ _ _)
      | (with_reducible exact spec_l01Beside.mono _ _ _ _ _)
      | (with_reducible exact spec_l01Complement.mono _ _ _)
      | (with_reducible exact spec_l01Jumps.mono _ _ _)
      | (with_reducible exact LeO.refl _)
      | (with_reducible exact LeO.none _)
      | (with_reducible refine LeO.ite ?_ ?_)
      | (with_reducible refine LeO.bind ?_ (fun _ => ?_))
      | exact ih0 _ _ _
      | exact ih1 _
      | exact ih2 _ _ _ _
      | exact ih3 _ _ _ _ _
      | exact ih4 _ _ _
      | exact ih5 _ _ _
      | exact ih6 _ _ _
      | exact ih7 _ _ _ _
      | exact ih8 _ _ _ _ _
      | exact spec_l01Beside.mono _ _ _ _ _
      | exact spec_l01Complement.mono _ _ _
      | exact spec_l01Jumps.mono _ _ _
      | exact LeO.none _
      | refine LeO.ite ?_ ?_
      | refine LeO.bind ?_ (fun _ => ?_)
    · intro y0 y1 y2 y3
      unfold spec_l01Named.l5
      repeat' first
      | (with_reducible exact ih0 _ _ _)
      | (with_reducible exact ih1 _)
      | (with_reducible exact ih2 _ _ _ _)
      | (with_reducible exact ih3 _ _ _ _ _)
      | (with_reducible exact ih4 _ _ _)
      | (with_reducible exact ih5 _ _ _)
      | (with_reducible exact ih6 _ _ _)
      | (with_reducible exact ih7 _ _ _ _)
      | (with_reducible exact ih8 _ _ _ _ _)
      | (with_reducible exact spec_l01Beside.mono _ _ _ _ _)
      | (with_reducible exact spec_l01Complement.mono _ _ _)
      | (with_reducible exact spec_l01Jumps.mono _ _ _)
      | (with_reducible exact LeO.refl _)
      | (with_reducible exact LeO.none _)
      | (with_reducible refine LeO.ite ?_ ?_)
      | (with_reducible refine LeO.bind ?_ (fun _ => ?_))
      | exact ih0 _ _ _
      | exact ih1 _
      | exact ih2 _ _ _ _
      | exact ih3 _ _ _ _ _
      | exact ih4 _ _ _
      | exact ih5 _ _ _
      | exact ih6 _ _ _
      | exact ih7 _ _ _ _
      | exact ih8 _ _ _ _ _
      | exact spec_l01Beside.mono _ _ _ _ _
      | exact spec_l01Complement.mono _ _ _
      | exact spec_l01Jumps.mono _ _ _
      | exact LeO.none _
      | refine LeO.ite ?_ ?_
      | refine LeO.bind ?_ (fun _ => ?_)
    · intro y0 y1 y2 y3 y4
      unfold spec_l01Named.l6
      repeat' first
      | (with_reducible exact ih0 _ _ _)
      | (with_reducible exact ih1 _)
      | (with_reducible exact ih2 _ _ _ _)
      | (with_reducible exact ih3 _ _ _ _ _)
      | (with_reducible exact ih4 _ _ _)
      | (with_reducible exact ih5 _ _ _)
      | (with_reducible exact ih6 _ _ _)
      | (with_reducible exact ih7 _ _ _ _)
      | (with_reducible exact ih8 _ _ _ _ _)
      | (with_reducible exact spec_l01Beside.mono _ _ _ _ _)
      | (with_reducible exact spec_l01Complement.mono _ _ _)
      | (with_reducible exact spec_l01Jumps.mono _ _ _)
      | (with_reducible exact LeO.refl _)
      | (with_reducible exact LeO.none _)
      | (with_reducible refine LeO.ite ?_ ?_)
      | (with_reducible refine LeO.bind ?_ (fun _ => ?_))
      | exact ih0 _ _ _
      | exact ih1 _
      | exact ih2 _ _ _ _
      | exact ih3 _ _ _ _ _
      | exact ih4 _ _ _
      | exact ih5 _ _ _
      | exact ih6 _ _ _
      | exact ih7 _ _ _ _
      | exact ih8 _ _ _ _ _
      | exact spec_l01Beside.mono _ _ _ _ _
      | exact spec_l01Complement.mono _ _ _
      | exact spec_l01Jumps.mono _ _ _
      | exact LeO.none _
      | refine LeO.ite ?_ ?_
      | refine LeO.bind ?_ (fun _ => ?_)
theorem spec_l01Named.mono : ∀ a0 k, LeO (spec_l01Named.f k a0) (spec_l01Named.f (k + 1) a0) := by
  intro a0 k
  obtain ⟨ih0, ih1, ih2, ih3, ih4, ih5, ih6, ih7, ih8⟩ := spec_l01Named.mono_l k
  unfold spec_l01Named.f
  repeat' first
      | (with_reducible exact ih0 _ _ _)
      | (with_reducible exact ih1 _)
      | (with_reducible exact ih2 _ _ _ _)
      | (with_reducible exact ih3 _ _ _ _ _)
      | (with_reducible exact ih4 _ _ _)
      | (with_reducible exact ih5 _ _ _)
      | (with_reducible exact ih6 _ _ _)
      | (with_reducible exact ih7 _ _ _ _)
      | (with_reducible exact ih8 _ _ _ _ _)
      | (with_reducible exact spec_l01Beside.mono _ _ _ _ _)
      | (with_reducible exact spec_l01Complement.mono _ _ _)
      | (with_reducible exact spec_l01Jumps.mono _ _ _)
      | (with_reducible exact LeO.refl _)
      | (with_reducible exact LeO.none _)
      | (with_reducible refine LeO.ite ?_ ?_)
      | (with_reducible refine LeO.bind ?_ (fun _ => ?_))
      | exact ih0 _ _ _
      | exact ih1 _
      | exact ih2 _ _ _ _
      | exact ih3 _ _ _ _ _
      | exact ih4 _ _ _
      | exact ih5 _ _ _
      | exact ih6 _ _ _
      | exact ih7 _ _ _ _
      | exact ih8 _ _ _ _ _
      | exact spec_l01Beside.mono _ _ _ _ _
      | exact spec_l01Complement.mono _ _ _
      | exact spec_l01Jumps.mono _ _ _
      | exact LeO.none _
      | refine LeO.ite ?_ ?_
      | refine LeO.bind ?_ (fun _ => ?_)
set_option maxHeartbeats 8000000 in
set_option maxRecDepth 100000 in
theorem spec_l01Named.calls (k : Nat) (a0 : ByteArray) (r1 : Int) (r2 : List Int) (r3 : Bool) (w : World) (h : spec_l01Named.f k a0 = some (r1, r2, r3)) :
    Calls Tryd.prog 101 #[.string a0] w fun e w' => ∃ v1_ : Value, e = .returned (.tuple #[.agg #[.int .i64 r1, v1_], .bool r3]) ∧ Kd.R (Kd.int .i64) 2 w' w.heap.size (fun _ => True) v1_ r2 ∧ Below w.heap.size w w' := by
  have hu26 := Tryd.underlying26
  have HB := Fa.mk (Below.refl w.heap.size w)
  unfold spec_l01Named.f at h; have H := h
  clear h
  by_cases c2 : a0.toList = ([107, 52] : List UInt8)
  · rw [if_pos c2] at H
    have c2b0 := beq_iff_eq.mpr c2
    have c2b1 := bne_eq_false_iff_eq.mpr c2
    clear c2
    replace H := Option.bind_eq_some_iff.mp H
    obtain ⟨⟨t150, t151⟩, A30, H⟩ := H
    dsimp only at H
    have A3 := Fa.mk A30
    clear A30
    replace H := Option.bind_eq_some_iff.mp H
    obtain ⟨⟨t154, t155⟩, A40, H⟩ := H
    dsimp only at H
    have A4 := Fa.mk A40
    clear A40
    simp only [Option.some.injEq, Prod.mk.injEq] at H
    obtain ⟨rfl, rfl, rfl⟩ := H
    go_enter Tryd.func101, Tryd.ntmps101
    go_wp2_with (first | ((with_reducible refine gd 2 rfl ?_); refine box_event ?hg (N := 2) ?hd (cs := #[.int .i64 0, .slice none 0 0]) (t := 26) ?hr ?_; (case hd => rfl); (case hg => rfl); (case hr => first | (go_simp; done) | (go_simp; rfl)); intro gb149 hg w5 hbox hb; have BK149 := Fa.mk hbox; have GW149 := Fa.mk (bsz hg (BU HB) : w.heap.size ≤ gb149); have GE149 := GW149; replace HB := Fa.mk (below_step (BU HB) hb); clear hb hbox hg) | ((with_reducible refine gc 68 rfl ?_); refine gL 20 Tryd.func68 #[.int .i64 4] rfl (by first | rfl | (simp only [mA, mC, mN]; rfl)) ?_; (with_reducible refine (spec_l01Empty.calls 4 t150 t151 _ A3.out).mono ?_); rintro e w6 ⟨v152, rfl, ho0, hb⟩; refine ⟨_, rfl, ?_⟩; have HO153 := Fa.mk (Kd.R_lower ho0 (below_size (BU HB))); replace BK149 := Fa.mk (blk_below (bU BK149) hb); replace HB := Fa.mk (below_step (BU HB) hb); obtain ⟨Ao7, co7, eo7⟩ := Kd.R_slice HO153.out; subst eo7) | ((with_reducible refine gc 129 rfl ?_); refine gL 21 Tryd.func129 #[.agg #[.int .i64 t150, .slice Ao7 t151.length co7]] rfl (by first | rfl | (simp only [mA, mC, mN]; rfl)) ?_; (with_reducible refine (spec_l01Complement.calls k t150 _ _ t151 t154 t155 _ (rC HO153) ((Kd.R_reads' HO153.out).2.1) A4.out).mono ?_); rintro e w8 ⟨v156, rfl, ho0, hb⟩; refine ⟨_, rfl, ?_⟩; have HO157 := Fa.mk (Kd.R_lower (Kd.R_new' ho0 (Kd.R_lt (rU HO153))) (below_size (BU HB))); replace HO153 := Fa.mk (Kd.R_elder' (rU HO153) (Kd.R_base ho0) hb); replace BK149 := Fa.mk (blk_below (bU BK149) hb); replace HB := Fa.mk (below_step (BU HB) hb); obtain ⟨hcz9_0, hcz9_1, hfz9_0, hfz9_1⟩ := cz2 BK149.out; obtain ⟨Ao10, co10, eo10⟩ := Kd.R_slice HO157.out; subst eo10))
    refine bodyPost_ret (results_ct rfl _ _ gb149 26 #[.int .i64 t154, .slice Ao10 t155.length co10] (0, 0) _ rfl oo Tryd.underlying26 rfl (by kernel_rfl)) rfl ?_
    exact ⟨_, rfl, by (with_reducible repeat (first | apply Kd.R_alloc | apply Kd.R_drewN | apply Kd.R_drew)); exact Kd.R_mono (Kd.R_far (p := ⟨gb149, 1, none⟩) (Kd.R_far (p := ⟨gb149, 0, none⟩) (Kd.R_types HO157.out BK149.out (by decide)) (fun _ hk => hk.2) (.int .i64 t154)) (fun _ hk => hk.2) (.slice Ao10 t155.length co10)) (fun _ hk => trivial), BU HB⟩
  · rw [if_neg c2] at H
    have c2b0 := beq_eq_false_iff_ne.mpr c2
    have c2b1 := bne_iff_ne.mpr c2
    by_cases c11 : a0.toList = ([107, 53] : List UInt8)
    · rw [if_pos c11] at H
      have c11b0 := beq_iff_eq.mpr c11
      have c11b1 := bne_eq_false_iff_eq.mpr c11
      clear c11
      replace H := Option.bind_eq_some_iff.mp H
      obtain ⟨⟨t158, t159⟩, A120, H⟩ := H
      dsimp only at H
      have A12 := Fa.mk A120
      clear A120
      replace H := Option.bind_eq_some_iff.mp H
      obtain ⟨⟨t162, t163⟩, A130, H⟩ := H
      dsimp only at H
      have A13 := Fa.mk A130
      clear A130
      simp only [Option.some.injEq, Prod.mk.injEq] at H
      obtain ⟨rfl, rfl, rfl⟩ := H
      go_enter Tryd.func101, Tryd.ntmps101
      go_wp2_with (first | ((with_reducible refine gd 2 rfl ?_); refine box_event ?hg (N := 2) ?hd (cs := #[.int .i64 0, .slice none 0 0]) (t := 26) ?hr ?_; (case hd => rfl); (case hg => rfl); (case hr => first | (go_simp; done) | (go_simp; rfl)); intro gb149 hg w14 hbox hb; have BK149 := Fa.mk hbox; have GW149 := Fa.mk (bsz hg (BU HB) : w.heap.size ≤ gb149); have GE149 := GW149; replace HB := Fa.mk (below_step (BU HB) hb); clear hb hbox hg) | ((with_reducible refine gc 68 rfl ?_); refine gL 24 Tryd.func68 #[.int .i64 5] rfl (by first | rfl | (simp only [mA, mC, mN]; rfl)) ?_; (with_reducible refine (spec_l01Empty.calls 5 t158 t159 _ A12.out).mono ?_); rintro e w15 ⟨v160, rfl, ho0, hb⟩; refine ⟨_, rfl, ?_⟩; have HO161 := Fa.mk (Kd.R_lower ho0 (below_size (BU HB))); replace BK149 := Fa.mk (blk_below (bU BK149) hb); replace HB := Fa.mk (below_step (BU HB) hb); obtain ⟨Ao16, co16, eo16⟩ := Kd.R_slice HO161.out; subst eo16) | ((with_reducible refine gc 129 rfl ?_); refine gL 25 Tryd.func129 #[.agg #[.int .i64 t158, .slice Ao16 t159.length co16]] rfl (by first | rfl | (simp only [mA, mC, mN]; rfl)) ?_; (with_reducible refine (spec_l01Complement.calls k t158 _ _ t159 t162 t163 _ (rC HO161) ((Kd.R_reads' HO161.out).2.1) A13.out).mono ?_); rintro e w17 ⟨v164, rfl, ho0, hb⟩; refine ⟨_, rfl, ?_⟩; have HO165 := Fa.mk (Kd.R_lower (Kd.R_new' ho0 (Kd.R_lt (rU HO161))) (below_size (BU HB))); replace HO161 := Fa.mk (Kd.R_elder' (rU HO161) (Kd.R_base ho0) hb); replace BK149 := Fa.mk (blk_below (bU BK149) hb); replace HB := Fa.mk (below_step (BU HB) hb); obtain ⟨hcz18_0, hcz18_1, hfz18_0, hfz18_1⟩ := cz2 BK149.out; obtain ⟨Ao19, co19, eo19⟩ := Kd.R_slice HO165.out; subst eo19))
      refine bodyPost_ret (results_ct rfl _ _ gb149 26 #[.int .i64 t162, .slice Ao19 t163.length co19] (0, 0) _ rfl oo Tryd.underlying26 rfl (by kernel_rfl)) rfl ?_
      exact ⟨_, rfl, by (with_reducible repeat (first | apply Kd.R_alloc | apply Kd.R_drewN | apply Kd.R_drew)); exact Kd.R_mono (Kd.R_far (p := ⟨gb149, 1, none⟩) (Kd.R_far (p := ⟨gb149, 0, none⟩) (Kd.R_types HO165.out BK149.out (by decide)) (fun _ hk => hk.2) (.int .i64 t162)) (fun _ hk => hk.2) (.slice Ao19 t163.length co19)) (fun _ hk => trivial), BU HB⟩
    · rw [if_neg c11] at H
      have c11b0 := beq_eq_false_iff_ne.mpr c11
      have c11b1 := bne_iff_ne.mpr c11
      by_cases c20 : a0.toList = ([107, 51, 51] : List UInt8)
      · rw [if_pos c20] at H
        have c20b0 := beq_iff_eq.mpr c20
        have c20b1 := bne_eq_false_iff_eq.mpr c20
        clear c20
        replace H := Option.bind_eq_some_iff.mp H
        obtain ⟨⟨t166, t167⟩, A210, H⟩ := H
        dsimp only at H
        have A21 := Fa.mk A210
        clear A210
        replace H := Option.bind_eq_some_iff.mp H
        obtain ⟨⟨t170, t171⟩, A220, H⟩ := H
        dsimp only at H
        have A22 := Fa.mk A220
        clear A220
        replace H := Option.bind_eq_some_iff.mp H
        obtain ⟨⟨t174, t175⟩, A230, H⟩ := H
        dsimp only at H
        have A23 := Fa.mk A230
        clear A230
        replace H := Option.bind_eq_some_iff.mp H
        obtain ⟨⟨t178, t179⟩, A240, H⟩ := H
        dsimp only at H
        have A24 := Fa.mk A240
        clear A240
        replace H := Option.bind_eq_some_iff.mp H
        obtain ⟨⟨t182, t183⟩, A250, H⟩ := H
        dsimp only at H
        have A25 := Fa.mk A250
        clear A250
        replace H := Option.bind_eq_some_iff.mp H
        obtain ⟨⟨t186, t187⟩, A260, H⟩ := H
        dsimp only at H
        have A26 := Fa.mk A260
        clear A260
        simp only [Option.some.injEq, Prod.mk.injEq] at H
        obtain ⟨rfl, rfl, rfl⟩ := H
        go_enter Tryd.func101, Tryd.ntmps101
        go_wp2_with (first | ((with_reducible refine gd 2 rfl ?_); refine box_event ?hg (N := 2) ?hd (cs := #[.int .i64 0, .slice none 0 0]) (t := 26) ?hr ?_; (case hd => rfl); (case hg => rfl); (case hr => first | (go_simp; done) | (go_simp; rfl)); intro gb149 hg w27 hbox hb; have BK149 := Fa.mk hbox; have GW149 := Fa.mk (bsz hg (BU HB) : w.heap.size ≤ gb149); have GE149 := GW149; replace HB := Fa.mk (below_step (BU HB) hb); clear hb hbox hg) | ((with_reducible refine gc 68 rfl ?_); refine gL 28 Tryd.func68 #[.int .i64 3] rfl (by first | rfl | (simp only [mA, mC, mN]; rfl)) ?_; (with_reducible refine (spec_l01Empty.calls 3 t166 t167 _ A21.out).mono ?_); rintro e w28 ⟨v168, rfl, ho0, hb⟩; refine ⟨_, rfl, ?_⟩; have HO169 := Fa.mk (Kd.R_lower ho0 (below_size (BU HB))); replace BK149 := Fa.mk (blk_below (bU BK149) hb); replace HB := Fa.mk (below_step (BU HB) hb); obtain ⟨Ao29, co29, eo29⟩ := Kd.R_slice HO169.out; subst eo29) | ((with_reducible refine gc 129 rfl ?_); refine gL 29 Tryd.func129 #[.agg #[.int .i64 t166, .slice Ao29 t167.length co29]] rfl (by first | rfl | (simp only [mA, mC, mN]; rfl)) ?_; (with_reducible refine (spec_l01Complement.calls k t166 _ _ t167 t170 t171 _ (rC HO169) ((Kd.R_reads' HO169.out).2.1) A22.out).mono ?_); rintro e w30 ⟨v172, rfl, ho0, hb⟩; refine ⟨_, rfl, ?_⟩; have HO173 := Fa.mk (Kd.R_lower (Kd.R_new' ho0 (Kd.R_lt (rU HO169))) (below_size (BU HB))); replace HO169 := Fa.mk (Kd.R_elder' (rU HO169) (Kd.R_base ho0) hb); replace BK149 := Fa.mk (blk_below (bU BK149) hb); replace HB := Fa.mk (below_step (BU HB) hb)) | ((with_reducible refine gc 68 rfl ?_); refine gL 30 Tryd.func68 #[.int .i64 3] rfl (by first | rfl | (simp only [mA, mC, mN]; rfl)) ?_; (with_reducible refine (spec_l01Empty.calls 3 t174 t175 _ A23.out).mono ?_); rintro e w31 ⟨v176, rfl, ho0, hb⟩; refine ⟨_, rfl, ?_⟩; have HO177 := Fa.mk (Kd.R_lower (Kd.R_new' (Kd.R_new' ho0 (Kd.R_lt (rU HO169))) (Kd.R_lt (rU HO173))) (below_size (BU HB))); replace HO169 := Fa.mk (Kd.R_elder' (rU HO169) (Kd.R_base ho0) hb); replace HO173 := Fa.mk (Kd.R_elder' (rU HO173) (Kd.R_base ho0) hb); replace BK149 := Fa.mk (blk_below (bU BK149) hb); replace HB := Fa.mk (below_step (BU HB) hb); obtain ⟨Ao32, co32, eo32⟩ := Kd.R_slice HO177.out; subst eo32) | ((with_reducible refine gc 129 rfl ?_); refine gL 31 Tryd.func129 #[.agg #[.int .i64 t174, .slice Ao32 t175.length co32]] rfl (by first | rfl | (simp only [mA, mC, mN]; rfl)) ?_; (with_reducible refine (spec_l01Complement.calls k t174 _ _ t175 t178 t179 _ (rC HO177) ((Kd.R_reads' HO177.out).2.1) A24.out).mono ?_); rintro e w33 ⟨v180, rfl, ho0, hb⟩; refine ⟨_, rfl, ?_⟩; have HO181 := Fa.mk (Kd.R_lower (Kd.R_new' (Kd.R_new' (Kd.R_new' ho0 (Kd.R_lt (rU HO169))) (Kd.R_lt (rU HO173))) (Kd.R_lt (rU HO177))) (below_size (BU HB))); replace HO169 := Fa.mk (Kd.R_elder' (rU HO169) (Kd.R_base ho0) hb); replace HO173 := Fa.mk (Kd.R_elder' (rU HO173) (Kd.R_base ho0) hb); replace HO177 := Fa.mk (Kd.R_elder' (rU HO177) (Kd.R_base ho0) hb); replace BK149 := Fa.mk (blk_below (bU BK149) hb); replace HB := Fa.mk (below_step (BU HB) hb); obtain ⟨Ao34, co34, eo34⟩ := Kd.R_slice HO173.out; subst eo34; obtain ⟨Ao35, co35, eo35⟩ := Kd.R_slice HO181.out; subst eo35) | ((with_reducible refine gc 130 rfl ?_); refine gL 32 Tryd.func130 #[.agg #[.int .i64 t170, .slice Ao34 t171.length co34], .agg #[.int .i64 t178, .slice Ao35 t179.length co35]] rfl (by first | rfl | (simp only [mA, mC, mN]; rfl)) ?_; (with_reducible refine (spec_l01Beside.calls k t170 _ _ t171 t178 _ _ t179 t182 t183 _ (rC HO173) ((Kd.R_reads' HO173.out).2.1) (rC HO181) ((Kd.R_reads' HO181.out).2.1) A25.out).mono ?_); rintro e w36 ⟨v184, rfl, ho0, hb⟩; refine ⟨_, rfl, ?_⟩; have HO185 := Fa.mk (Kd.R_lower (Kd.R_new' (Kd.R_new' (Kd.R_new' (Kd.R_new' ho0 (Kd.R_lt (rU HO169))) (Kd.R_lt (rU HO173))) (Kd.R_lt (rU HO177))) (Kd.R_lt (rU HO181))) (below_size (BU HB))); replace HO169 := Fa.mk (Kd.R_elder' (rU HO169) (Kd.R_base ho0) hb); replace HO173 := Fa.mk (Kd.R_elder' (rU HO173) (Kd.R_base ho0) hb); replace HO177 := Fa.mk (Kd.R_elder' (rU HO177) (Kd.R_base ho0) hb); replace HO181 := Fa.mk (Kd.R_elder' (rU HO181) (Kd.R_base ho0) hb); replace BK149 := Fa.mk (blk_below (bU BK149) hb); replace HB := Fa.mk (below_step (BU HB) hb); obtain ⟨Ao37, co37, eo37⟩ := Kd.R_slice HO185.out; subst eo37) | ((with_reducible refine gc 129 rfl ?_); refine gL 33 Tryd.func129 #[.agg #[.int .i64 t182, .slice Ao37 t183.length co37]] rfl (by first | rfl | (simp only [mA, mC, mN]; rfl)) ?_; (with_reducible refine (spec_l01Complement.calls k t182 _ _ t183 t186 t187 _ (rC HO185) ((Kd.R_reads' HO185.out).2.1) A26.out).mono ?_); rintro e w38 ⟨v188, rfl, ho0, hb⟩; refine ⟨_, rfl, ?_⟩; have HO189 := Fa.mk (Kd.R_lower (Kd.R_new' (Kd.R_new' (Kd.R_new' (Kd.R_new' (Kd.R_new' ho0 (Kd.R_lt (rU HO169))) (Kd.R_lt (rU HO173))) (Kd.R_lt (rU HO177))) (Kd.R_lt (rU HO181))) (Kd.R_lt (rU HO185))) (below_size (BU HB))); replace HO169 := Fa.mk (Kd.R_elder' (rU HO169) (Kd.R_base ho0) hb); replace HO173 := Fa.mk (Kd.R_elder' (rU HO173) (Kd.R_base ho0) hb); replace HO177 := Fa.mk (Kd.R_elder' (rU HO177) (Kd.R_base ho0) hb); replace HO181 := Fa.mk (Kd.R_elder' (rU HO181) (Kd.R_base ho0) hb); replace HO185 := Fa.mk (Kd.R_elder' (rU HO185) (Kd.R_base ho0) hb); replace BK149 := Fa.mk (blk_below (bU BK149) hb); replace HB := Fa.mk (below_step (BU HB) hb); obtain ⟨hcz39_0, hcz39_1, hfz39_0, hfz39_1⟩ := cz2 BK149.out; obtain ⟨Ao40, co40, eo40⟩ := Kd.R_slice HO189.out; subst eo40))
        refine bodyPost_ret (results_ct rfl _ _ gb149 26 #[.int .i64 t186, .slice Ao40 t187.length co40] (0, 0) _ rfl oo Tryd.underlying26 rfl (by kernel_rfl)) rfl ?_
        exact ⟨_, rfl, by (with_reducible repeat (first | apply Kd.R_alloc | apply Kd.R_drewN | apply Kd.R_drew)); exact Kd.R_mono (Kd.R_far (p := ⟨gb149, 1, none⟩) (Kd.R_far (p := ⟨gb149, 0, none⟩) (Kd.R_types HO189.out BK149.out (by decide)) (fun _ hk => hk.2) (.int .i64 t186)) (fun _ hk => hk.2) (.slice Ao40 t187.length co40)) (fun _ hk => trivial), BU HB⟩
      · rw [if_neg c20] at H
        have c20b0 := beq_eq_false_iff_ne.mpr c20
        have c20b1 := bne_iff_ne.mpr c20
        have HC41 := Fa.mk H
        clear H
        go_enter Tryd.func101, Tryd.ntmps101
        go_upto_if 34 with (first | ((with_reducible refine gd 2 rfl ?_); refine box_event ?hg (N := 2) ?hd (cs := #[.int .i64 0, .slice none 0 0]) (t := 26) ?hr ?_; (case hd => rfl); (case hg => rfl); (case hr => first | (go_simp; done) | (go_simp; rfl)); intro gb149 hg w42 hbox hb; have BK149 := Fa.mk hbox; have GW149 := Fa.mk (bsz hg (BU HB) : w.heap.size ≤ gb149); have GE149 := GW149; replace HB := Fa.mk (below_step (BU HB) hb); clear hb hbox hg))
        (try simp only [Act.put, sA, sZ, sC])
        go_cut [34] (fun v34 wc => ∃ (kq : Nat) (x34_40 : Bool), v34 = .bool x34_40 ∧ Fa (spec_l01Named.j0 kq a0 a0 x34_40 = some (r1, r2, r3)) ∧ Fa (kq ≤ k) ∧ Fa (wc.heap[gb149]? = some (.cells #[.int .i64 0, (.slice none 0 0)] 26 (0, 0))) ∧ Fa (Below w.heap.size w wc))
        case first =>
          have H := HC41.out
          clear HC41
          by_cases c43 : a0.toList = ([99, 117, 98, 101] : List UInt8)
          · rw [if_pos c43] at H
            have c43b0 := beq_iff_eq.mpr c43
            have c43b1 := bne_eq_false_iff_eq.mpr c43
            clear c43
            (first | rw [c43b0] | (simp only [i64_w, i32_w]; rw [c43b0]) | skip)
            have H' := Fa.mk H
            clear H
            go_wp2
            go_meet
            case rel => exact ⟨_, ((a0.toList == ([99, 117, 98, 101] : List UInt8))), (by first | rfl | (simp; done) | (simp [*]; done)), H', ⟨by first | omega | exact Nat.le_refl _⟩, ⟨bU BK149⟩, ⟨BU HB⟩⟩
          · rw [if_neg c43] at H
            have c43b0 := beq_eq_false_iff_ne.mpr c43
            have c43b1 := bne_iff_ne.mpr c43
            (first | rw [c43b0] | (simp only [i64_w, i32_w]; rw [c43b0]) | skip)
            have H' := Fa.mk H
            clear H
            go_wp2
            go_meet
            case rel => exact ⟨_, ((a0.toList == ([99, 108, 101, 98, 115, 99, 104] : List UInt8))), rfl, H', ⟨by first | omega | exact Nat.le_refl _⟩, ⟨bU BK149⟩, ⟨BU HB⟩⟩
        case rest =>
          clear HC41
          obtain ⟨kq, x34_40, rfl, HA, HJ40, BK149, HB⟩ := hcut
          cases kq with
          | zero => exact absurd HA.out (by simp [spec_l01Named.j0])
          | succ kj40 =>
            have H := HA.out
            clear HA
            simp only [spec_l01Named.j0] at H
            by_cases c44 : x34_40 = true
            · subst c44
              have H1 : (if a0.toList = ([99, 108, 101, 98, 115, 99, 104] : List UInt8) then (spec_l01Named.j1 kj40 16) else (spec_l01Named.j1 kj40 8)) = some (r1, r2, r3) := by rw [if_pos rfl] at H; exact H
              clear H
              have H := H1
              clear H1
              have HC45 := Fa.mk H
              clear H
              go_upto_if 38 with (fail)
              go_cut [4] (fun v4 wc => ∃ (kq : Nat) (x4_44 : Int), v4 = .int .i64 x4_44 ∧ Fa (spec_l01Named.j1 kq x4_44 = some (r1, r2, r3)) ∧ Fa (kq ≤ kj40) ∧ Fa (wc.heap[gb149]? = some (.cells #[.int .i64 0, (.slice none 0 0)] 26 (0, 0))) ∧ Fa (Below w.heap.size w wc))
              case first =>
                have H := HC45.out
                clear HC45
                by_cases c46 : a0.toList = ([99, 108, 101, 98, 115, 99, 104] : List UInt8)
                · rw [if_pos c46] at H
                  have c46b0 := beq_iff_eq.mpr c46
                  have c46b1 := bne_eq_false_iff_eq.mpr c46
                  clear c46
                  (first | rw [c46b0] | (simp only [i64_w, i32_w]; rw [c46b0]) | skip)
                  have H' := Fa.mk H
                  clear H
                  go_wp2
                  go_meet
                  case rel => exact ⟨_, (16), rfl, H', ⟨by have := HJ40.out; first | omega | exact Nat.le_refl _⟩, ⟨bU BK149⟩, ⟨BU HB⟩⟩
                · rw [if_neg c46] at H
                  have c46b0 := beq_eq_false_iff_ne.mpr c46
                  have c46b1 := bne_iff_ne.mpr c46
                  (first | rw [c46b0] | (simp only [i64_w, i32_w]; rw [c46b0]) | skip)
                  have H' := Fa.mk H
                  clear H
                  go_wp2
                  go_meet
                  case rel => exact ⟨_, (8), rfl, H', ⟨by have := HJ40.out; first | omega | exact Nat.le_refl _⟩, ⟨bU BK149⟩, ⟨BU HB⟩⟩
              case rest =>
                clear HC45
                obtain ⟨kq, x4_44, rfl, HA, HJ44, BK149, HB⟩ := hcut
                cases kq with
                | zero => exact absurd HA.out (by simp [spec_l01Named.j1])
                | succ kj44 =>
                  have H := HA.out
                  clear HA
                  simp only [spec_l01Named.j1] at H
                  replace H := Option.bind_eq_some_iff.mp H
                  obtain ⟨⟨t190, t191⟩, A470, H⟩ := H
                  dsimp only at H
                  have A47 := Fa.mk A470
                  clear A470
                  have H' := Fa.mk H
                  clear H
                  go_wp2_with (first | ((with_reducible refine gc 68 rfl ?_); refine gL 40 Tryd.func68 #[.int .i64 x4_44] rfl (by first | rfl | (simp only [mA, mC, mN]; rfl)) ?_; (with_reducible refine (spec_l01Empty.calls x4_44 t190 t191 _ A47.out).mono ?_); rintro e w48 ⟨v192, rfl, ho0, hb⟩; refine ⟨_, rfl, ?_⟩; have HO193 := Fa.mk (Kd.R_lower ho0 (below_size (BU HB))); replace BK149 := Fa.mk (blk_below (bU BK149) hb); replace HB := Fa.mk (below_step (BU HB) hb)) | ((with_reducible refine gd 5 rfl ?_); refine box_event ?hg (N := 5) ?hd (cs := #[.int .i64 0, .slice none 0 0]) (t := 26) ?hr ?_; (case hd => rfl); (case hg => rfl); (case hr => first | (go_simp; done) | (go_simp; rfl)); intro gb194 hg w49 hbox hb; replace HO193 := Fa.mk (Kd.R_below (rU HO193) hb); have BK194 := Fa.mk hbox; have GW194 := Fa.mk (bsz hg (BU HB) : w.heap.size ≤ gb194); have GE194 := GW194; have NB149_194 := Fa.mk ((by rw [hg]; exact Nat.ne_of_lt (blk_lt (bU BK149)) : gb149 ≠ gb194)); have NB194_149 := Fa.mk ((by rw [hg]; exact Nat.ne_of_gt (blk_lt (bU BK149)) : gb194 ≠ gb149)); replace BK149 := Fa.mk (blk_below (bU BK149) hb); replace HB := Fa.mk (below_step (BU HB) hb); clear hb hbox hg; have hnb50 := NB194_149.out; have hnc50 := NB149_194.out; obtain ⟨hcz51_0, hcz51_1, hfz51_0, hfz51_1⟩ := cz2 BK194.out; obtain ⟨Ao52, co52, eo52⟩ := Kd.R_slice HO193.out; subst eo52))
                  go_loopg [6] kj44 (fun kq v6 w' => ∃ (x6_3 : Int) (x195001_3 : List Int) (u195001 : Value), v6 = .int .i64 x6_3 ∧ Fa (spec_l01Named.l0 kq x4_44 x6_3 t190 x195001_3 = some (r1, r2, r3)) ∧ Fa (kq ≤ kj44) ∧ Fa (Kd.R (Kd.int .i64) 2 w' w.heap.size (fun _ => True) u195001 x195001_3) ∧ Fa (w'.heap[gb149]? = some (.cells #[.int .i64 0, (.slice none 0 0)] 26 (0, 0))) ∧ Fa (w'.heap[gb194]? = some (.cells #[.int .i64 t190, u195001] 26 (0, 0))) ∧ Fa (Below w.heap.size w w'))
                  case atStart => exact ⟨(0), (t191), (.slice Ao52 t191.length co52), rfl, H', ⟨Nat.le_refl _⟩, ⟨by (with_reducible repeat (first | apply Kd.R_alloc | apply Kd.R_drewN | apply Kd.R_drew)); exact Kd.R_mono (Kd.R_far (p := ⟨gb194, 1, none⟩) (Kd.R_far (p := ⟨gb194, 0, none⟩) (Kd.R_types HO193.out BK194.out (by decide)) (fun _ hk => hk.2) (.int .i64 t190)) (fun _ hk => hk.2) (.slice Ao52 t191.length co52)) (fun _ hk => trivial)⟩, ⟨by (with_reducible repeat (first | refine blk_drewN ?_ _ | refine blk_drew ?_ | refine blk_alloc ?_ _)); refine blk_far ?_ NB149_194.out _; (with_reducible repeat (first | refine blk_drewN ?_ _ | refine blk_drew ?_ | refine blk_alloc ?_ _)); refine blk_far ?_ NB149_194.out _; (with_reducible repeat (first | refine blk_drewN ?_ _ | refine blk_drew ?_ | refine blk_alloc ?_ _)); exact BK149.out⟩, ⟨oo⟩, ⟨BU HB⟩⟩
                  case round =>
                    clear H'
                    obtain ⟨x6_3, x195001_3, u195001, rfl, HA, HK3, HO_195001, BK149, BK194, HB⟩ := hrel
                    cases gk with
                    | zero => exact absurd HA.out (by simp [spec_l01Named.l0])
                    | succ k3 =>
                      have H := HA.out
                      clear HA
                      simp only [spec_l01Named.l0] at H
                      by_cases c53 : x6_3 < x4_44
                      · rw [if_pos c53] at H
                        have c53b0 := decide_eq_true c53
                        clear c53
                        have H' := Fa.mk H
                        clear H
                        go_wp2
                        go_loopg [7] k3 (fun kq v7 w' => ∃ (x7_4 : Int) (x195001_4 : List Int) (u195001 : Value), v7 = .int .i64 x7_4 ∧ Fa (spec_l01Named.l1 kq x4_44 x6_3 x7_4 t190 x195001_4 = some (r1, r2, r3)) ∧ Fa (kq ≤ k3) ∧ Fa (Kd.R (Kd.int .i64) 2 w' w.heap.size (fun _ => True) u195001 x195001_4) ∧ Fa (w'.heap[gb149]? = some (.cells #[.int .i64 0, (.slice none 0 0)] 26 (0, 0))) ∧ Fa (w'.heap[gb194]? = some (.cells #[.int .i64 t190, u195001] 26 (0, 0))) ∧ Fa (Below w.heap.size w w'))
                        case atStart => exact ⟨(1), (x195001_3), (u195001), rfl, H', ⟨Nat.le_refl _⟩, ⟨rU HO_195001⟩, ⟨bU BK149⟩, ⟨bU BK194⟩, ⟨BU HB⟩⟩
                        case round =>
                          clear H'
                          obtain ⟨x7_4, x195001_4, u195001, rfl, HA, HK4, HO_195001, BK149, BK194, HB⟩ := hrel
                          cases gk with
                          | zero => exact absurd HA.out (by simp [spec_l01Named.l1])
                          | succ k4 =>
                            have H := HA.out
                            clear HA
                            simp only [spec_l01Named.l1] at H
                            by_cases c54 : x7_4 < x4_44
                            · rw [if_pos c54] at H
                              have c54b0 := decide_eq_true c54
                              clear c54
                              replace H := Option.bind_eq_some_iff.mp H
                              obtain ⟨t195, A550, H⟩ := H
                              replace H : (spec_l01Named.l1 k4 x4_44 x6_3 (wrap64 (2 * x7_4)) t190 t195) = some (r1, r2, r3) := H
                              have A55 := Fa.mk A550
                              clear A550
                              have H' := Fa.mk H
                              clear H
                              have hnb56 := NB194_149.out
                              have hnc56 := NB149_194.out
                              obtain ⟨hcz57_0, hcz57_1, hfz57_0, hfz57_1⟩ := cz2 BK194.out
                              obtain ⟨Ao58, co58, eo58⟩ := Kd.R_slice HO_195001.out
                              subst eo58
                              go_wp2_with (first | ((with_reducible refine gc 86 rfl ?_); refine gL 56 Tryd.func86 #[.agg #[.int .i64 t190, .slice Ao58 x195001_4.length co58], .int .i64 x6_3, .int .i64 (Go.bits .xor .i64 x6_3 x7_4)] rfl (by first | rfl | (simp only [mA, mC, mN]; rfl)) ?_; (with_reducible refine (spec_l01Put.calls t190 (fun k_ => some k_ = (.slice Ao58 x195001_4.length co58 : Value).ownBlock) (.slice Ao58 x195001_4.length co58) x195001_4 x6_3 (Go.bits .xor .i64 x6_3 x7_4) t195 w _ (BU HB) (Kd.R_tight rfl HO_195001.out) A55.out).mono ?_); rintro e w59 ⟨rfl, hy0, hb, hkp⟩; refine ⟨_, rfl, ?_⟩; replace BK149 := Fa.mk (blk_kept (bU BK149) hkp (fun hs_ => (fun e_ => (Kd.R_ne HO_195001.out BK149.out (by decide)) e_) hs_)); replace BK194 := Fa.mk (blk_kept (bU BK194) hkp (fun hs_ => (fun e_ => (Kd.R_ne HO_195001.out BK194.out (by decide)) e_) hs_)); replace HO_195001 := Fa.mk (Kd.R_reok rfl hy0 (fun k_ e_ => HO_195001.out.1 k_ e_)); replace HB := Fa.mk hb))
                              go_roundg k4
                              case measure => have := HJ40.out; have := HJ44.out; have := HK3.out; have := HK4.out; omega
                              case rel => exact ⟨(wrap64 (2 * x7_4)), (t195), (.slice Ao58 x195001_4.length co58), rfl, H', ⟨by have := HJ40.out; have := HJ44.out; have := HK3.out; have := HK4.out; omega⟩, ⟨rU HO_195001⟩, ⟨bU BK149⟩, ⟨bU BK194⟩, ⟨BU HB⟩⟩
                            · rw [if_neg c54] at H
                              have c54b0 := decide_eq_false c54
                              clear c54
                              by_cases c60 : x4_44 = 16
                              · rw [if_pos c60] at H
                                have c60b0 := beq_iff_eq.mpr c60
                                have c60b1 := bne_eq_false_iff_eq.mpr c60
                                clear c60
                                replace H := Option.bind_eq_some_iff.mp H
                                obtain ⟨t196, A610, H⟩ := H
                                replace H : (spec_l01Named.l0 k4 x4_44 (wrap64 (x6_3 + 1)) t190 t196) = some (r1, r2, r3) := H
                                have A61 := Fa.mk A610
                                clear A610
                                have H' := Fa.mk H
                                clear H
                                have hnb62 := NB194_149.out
                                have hnc62 := NB149_194.out
                                obtain ⟨hcz63_0, hcz63_1, hfz63_0, hfz63_1⟩ := cz2 BK194.out
                                obtain ⟨Ao64, co64, eo64⟩ := Kd.R_slice HO_195001.out
                                subst eo64
                                go_wp2_with (first | ((with_reducible refine gc 86 rfl ?_); refine gL 63 Tryd.func86 #[.agg #[.int .i64 t190, .slice Ao64 x195001_4.length co64], .int .i64 x6_3, .int .i64 (wrap64 (15 - x6_3))] rfl (by first | rfl | (simp only [mA, mC, mN]; rfl)) ?_; (with_reducible refine (spec_l01Put.calls t190 (fun k_ => some k_ = (.slice Ao64 x195001_4.length co64 : Value).ownBlock) (.slice Ao64 x195001_4.length co64) x195001_4 x6_3 (wrap64 (15 - x6_3)) t196 w _ (BU HB) (Kd.R_tight rfl HO_195001.out) A61.out).mono ?_); rintro e w65 ⟨rfl, hy0, hb, hkp⟩; refine ⟨_, rfl, ?_⟩; replace BK149 := Fa.mk (blk_kept (bU BK149) hkp (fun hs_ => (fun e_ => (Kd.R_ne HO_195001.out BK149.out (by decide)) e_) hs_)); replace BK194 := Fa.mk (blk_kept (bU BK194) hkp (fun hs_ => (fun e_ => (Kd.R_ne HO_195001.out BK194.out (by decide)) e_) hs_)); replace HO_195001 := Fa.mk (Kd.R_reok rfl hy0 (fun k_ e_ => HO_195001.out.1 k_ e_)); replace HB := Fa.mk hb))
                                go_roundg k4
                                case measure => have := HJ40.out; have := HJ44.out; have := HK3.out; have := HK4.out; omega
                                case rel => exact ⟨(wrap64 (x6_3 + 1)), (t196), (.slice Ao64 x195001_4.length co64), rfl, H', ⟨by have := HJ40.out; have := HJ44.out; have := HK3.out; have := HK4.out; omega⟩, ⟨rU HO_195001⟩, ⟨bU BK149⟩, ⟨bU BK194⟩, ⟨BU HB⟩⟩
                              · rw [if_neg c60] at H
                                have c60b0 := beq_eq_false_iff_ne.mpr c60
                                have c60b1 := bne_iff_ne.mpr c60
                                have H' := Fa.mk H
                                clear H
                                go_wp2
                                go_roundg k4
                                case measure => have := HJ40.out; have := HJ44.out; have := HK3.out; have := HK4.out; omega
                                case rel => exact ⟨(wrap64 (x6_3 + 1)), (x195001_4), (u195001), rfl, H', ⟨by have := HJ40.out; have := HJ44.out; have := HK3.out; have := HK4.out; omega⟩, ⟨rU HO_195001⟩, ⟨bU BK149⟩, ⟨bU BK194⟩, ⟨BU HB⟩⟩
                      · rw [if_neg c53] at H
                        have c53b0 := decide_eq_false c53
                        clear c53
                        simp only [Option.some.injEq, Prod.mk.injEq] at H
                        obtain ⟨rfl, rfl, rfl⟩ := H
                        have hnb66 := NB194_149.out
                        have hnc66 := NB149_194.out
                        obtain ⟨hcz67_0, hcz67_1, hfz67_0, hfz67_1⟩ := cz2 BK194.out
                        obtain ⟨hcz68_0, hcz68_1, hfz68_0, hfz68_1⟩ := cz2 BK149.out
                        obtain ⟨Ao69, co69, eo69⟩ := Kd.R_slice HO_195001.out
                        subst eo69
                        go_wp2
                        refine bodyPost_ret (results_ct rfl _ _ gb149 26 #[.int .i64 t190, .slice Ao69 x195001_3.length co69] (0, 0) _ rfl oo Tryd.underlying26 rfl (by kernel_rfl)) rfl ?_
                        exact ⟨_, rfl, by (with_reducible repeat (first | apply Kd.R_alloc | apply Kd.R_drewN | apply Kd.R_drew)); exact Kd.R_mono (Kd.R_far (p := ⟨gb149, 1, none⟩) (Kd.R_far (p := ⟨gb149, 0, none⟩) (Kd.R_types HO_195001.out BK149.out (by decide)) (fun _ hk => hk.2) (.int .i64 t190)) (fun _ hk => hk.2) (.slice Ao69 x195001_3.length co69)) (fun _ hk => trivial), BU HB⟩
            · replace c44 := Bool.eq_false_iff.mpr c44
              subst c44
              have H1 : (if a0.toList = ([112, 101, 116, 101, 114, 115, 101, 110] : List UInt8) then ((spec_l01Empty.f 10).bind fun bt197 => (spec_l01Named.l2 kj40 0 bt197.1 bt197.2)) else (if a0.toList = ([105, 99, 111, 115, 97, 104, 101, 100, 114, 111, 110] : List UInt8) then ((spec_l01Empty.f 12).bind fun bt205 => (spec_l01Named.l3 kj40 0 bt205.1 bt205.2)) else (if a0.toList = ([104, 111, 102, 102, 109, 97, 110, 115, 105, 110, 103, 108, 101, 116, 111, 110] : List UInt8) then ((spec_l01Empty.f 50).bind fun bt216 => (spec_l01Named.l4 kj40 0 bt216.1 bt216.2)) else (if a0.toList = ([104, 101, 97, 119, 111, 111, 100] : List UInt8) then ((spec_l01Jumps.f kj40 14 (([5, 9] : List Int))).bind fun bt227 => (some (bt227.1, bt227.2, true))) else (if a0.toList = ([109, 111, 101, 98, 105, 117, 115, 107, 97, 110, 116, 111, 114] : List UInt8) then ((spec_l01Jumps.f kj40 16 (([5, 11] : List Int))).bind fun bt234 => (some (bt234.1, bt234.2, true))) else (if a0.toList = ([112, 97, 112, 112, 117, 115] : List UInt8) then ((spec_l01Jumps.f kj40 18 (([5, 7, 11, 7, 11, 13] : List Int))).bind fun bt241 => (some (bt241.1, bt241.2, true))) else (if a0.toList = ([100, 101, 115, 97, 114, 103, 117, 101, 115] : List UInt8) then ((spec_l01Jumps.f kj40 20 (([5, 15, 9, 11] : List Int))).bind fun bt248 => (some (bt248.1, bt248.2, true))) else (if a0.toList = ([100, 111, 100, 101, 99, 97, 104, 101, 100, 114, 111, 110] : List UInt8) then ((spec_l01Jumps.f kj40 20 (([10, 7, 4, 16, 13, 10, 16, 7, 13, 4] : List Int))).bind fun bt255 => (some (bt255.1, bt255.2, true))) else (if a0.toList = ([109, 99, 103, 101, 101] : List UInt8) then ((spec_l01Jumps.f kj40 24 (([12, 7, 17] : List Int))).bind fun bt262 => (some (bt262.1, bt262.2, true))) else (if a0.toList = ([116, 117, 116, 116, 101, 99, 111, 120, 101, 116, 101, 114] : List UInt8) then ((spec_l01Jumps.f kj40 30 (([17, 21, 7, 23, 9, 13] : List Int))).bind fun bt269 => (some (bt269.1, bt269.2, true))) else (some (0, ([] : List Int), false)))))))))))) = some (r1, r2, r3) := by rw [if_neg (show ¬ (false = true) by decide)] at H; exact H
              clear H
              have H := H1
              clear H1
              by_cases c70 : a0.toList = ([112, 101, 116, 101, 114, 115, 101, 110] : List UInt8)
              · rw [if_pos c70] at H
                have c70b0 := beq_iff_eq.mpr c70
                have c70b1 := bne_eq_false_iff_eq.mpr c70
                clear c70
                replace H := Option.bind_eq_some_iff.mp H
                obtain ⟨⟨t197, t198⟩, A710, H⟩ := H
                dsimp only at H
                have A71 := Fa.mk A710
                clear A710
                have H' := Fa.mk H
                clear H
                go_wp2_with (first | ((with_reducible refine gc 68 rfl ?_); refine gL 67 Tryd.func68 #[.int .i64 10] rfl (by first | rfl | (simp only [mA, mC, mN]; rfl)) ?_; (with_reducible refine (spec_l01Empty.calls 10 t197 t198 _ A71.out).mono ?_); rintro e w72 ⟨v199, rfl, ho0, hb⟩; refine ⟨_, rfl, ?_⟩; have HO200 := Fa.mk (Kd.R_lower ho0 (below_size (BU HB))); replace BK149 := Fa.mk (blk_below (bU BK149) hb); replace HB := Fa.mk (below_step (BU HB) hb)) | ((with_reducible refine gd 8 rfl ?_); refine box_event ?hg (N := 8) ?hd (cs := #[.int .i64 0, .slice none 0 0]) (t := 26) ?hr ?_; (case hd => rfl); (case hg => rfl); (case hr => first | (go_simp; done) | (go_simp; rfl)); intro gb201 hg w73 hbox hb; replace HO200 := Fa.mk (Kd.R_below (rU HO200) hb); have BK201 := Fa.mk hbox; have GW201 := Fa.mk (bsz hg (BU HB) : w.heap.size ≤ gb201); have GE201 := GW201; have NB149_201 := Fa.mk ((by rw [hg]; exact Nat.ne_of_lt (blk_lt (bU BK149)) : gb149 ≠ gb201)); have NB201_149 := Fa.mk ((by rw [hg]; exact Nat.ne_of_gt (blk_lt (bU BK149)) : gb201 ≠ gb149)); replace BK149 := Fa.mk (blk_below (bU BK149) hb); replace HB := Fa.mk (below_step (BU HB) hb); clear hb hbox hg; have hnb74 := NB201_149.out; have hnc74 := NB149_201.out; obtain ⟨hcz75_0, hcz75_1, hfz75_0, hfz75_1⟩ := cz2 BK201.out; obtain ⟨Ao76, co76, eo76⟩ := Kd.R_slice HO200.out; subst eo76))
                go_loopg [9] kj40 (fun kq v9 w' => ∃ (x9_2 : Int) (x202001_2 : List Int) (u202001 : Value), v9 = .int .i64 x9_2 ∧ Fa (spec_l01Named.l2 kq x9_2 t197 x202001_2 = some (r1, r2, r3)) ∧ Fa (kq ≤ kj40) ∧ Fa (Kd.R (Kd.int .i64) 2 w' w.heap.size (fun _ => True) u202001 x202001_2) ∧ Fa (w'.heap[gb149]? = some (.cells #[.int .i64 0, (.slice none 0 0)] 26 (0, 0))) ∧ Fa (w'.heap[gb201]? = some (.cells #[.int .i64 t197, u202001] 26 (0, 0))) ∧ Fa (Below w.heap.size w w'))
                case atStart => exact ⟨(0), (t198), (.slice Ao76 t198.length co76), rfl, H', ⟨Nat.le_refl _⟩, ⟨by (with_reducible repeat (first | apply Kd.R_alloc | apply Kd.R_drewN | apply Kd.R_drew)); exact Kd.R_mono (Kd.R_far (p := ⟨gb201, 1, none⟩) (Kd.R_far (p := ⟨gb201, 0, none⟩) (Kd.R_types HO200.out BK201.out (by decide)) (fun _ hk => hk.2) (.int .i64 t197)) (fun _ hk => hk.2) (.slice Ao76 t198.length co76)) (fun _ hk => trivial)⟩, ⟨by (with_reducible repeat (first | refine blk_drewN ?_ _ | refine blk_drew ?_ | refine blk_alloc ?_ _)); refine blk_far ?_ NB149_201.out _; (with_reducible repeat (first | refine blk_drewN ?_ _ | refine blk_drew ?_ | refine blk_alloc ?_ _)); refine blk_far ?_ NB149_201.out _; (with_reducible repeat (first | refine blk_drewN ?_ _ | refine blk_drew ?_ | refine blk_alloc ?_ _)); exact BK149.out⟩, ⟨oo⟩, ⟨BU HB⟩⟩
                case round =>
                  clear H'
                  obtain ⟨x9_2, x202001_2, u202001, rfl, HA, HK2, HO_202001, BK149, BK201, HB⟩ := hrel
                  cases gk with
                  | zero => exact absurd HA.out (by simp [spec_l01Named.l2])
                  | succ k2 =>
                    have H := HA.out
                    clear HA
                    simp only [spec_l01Named.l2] at H
                    by_cases c77 : x9_2 < 5
                    · rw [if_pos c77] at H
                      have c77b0 := decide_eq_true c77
                      clear c77
                      replace H := Option.bind_eq_some_iff.mp H
                      obtain ⟨t202, A780, H⟩ := H
                      replace H : ((spec_l01Put.f t197 t202 x9_2 (wrap64 (x9_2 + 5))).bind fun t203 => ((spec_l01Put.f t197 t203 (wrap64 (x9_2 + 5)) (wrap64 ((Int.tmod (wrap64 (x9_2 + 2)) 5) + 5))).bind fun t204 => (spec_l01Named.l2 k2 (wrap64 (x9_2 + 1)) t197 t204))) = some (r1, r2, r3) := H
                      have A78 := Fa.mk A780
                      clear A780
                      replace H := Option.bind_eq_some_iff.mp H
                      obtain ⟨t203, A790, H⟩ := H
                      replace H : ((spec_l01Put.f t197 t203 (wrap64 (x9_2 + 5)) (wrap64 ((Int.tmod (wrap64 (x9_2 + 2)) 5) + 5))).bind fun t204 => (spec_l01Named.l2 k2 (wrap64 (x9_2 + 1)) t197 t204)) = some (r1, r2, r3) := H
                      have A79 := Fa.mk A790
                      clear A790
                      replace H := Option.bind_eq_some_iff.mp H
                      obtain ⟨t204, A800, H⟩ := H
                      replace H : (spec_l01Named.l2 k2 (wrap64 (x9_2 + 1)) t197 t204) = some (r1, r2, r3) := H
                      have A80 := Fa.mk A800
                      clear A800
                      have H' := Fa.mk H
                      clear H
                      have hnb81 := NB201_149.out
                      have hnc81 := NB149_201.out
                      obtain ⟨hcz82_0, hcz82_1, hfz82_0, hfz82_1⟩ := cz2 BK201.out
                      obtain ⟨Ao83, co83, eo83⟩ := Kd.R_slice HO_202001.out
                      subst eo83
                      go_wp2_with (first | ((with_reducible refine gc 86 rfl ?_); refine gL 77 Tryd.func86 #[.agg #[.int .i64 t197, .slice Ao83 x202001_2.length co83], .int .i64 x9_2, .int .i64 (Int.tmod (wrap64 (x9_2 + 1)) 5)] rfl (by first | rfl | (simp only [mA, mC, mN]; rfl)) ?_; (with_reducible refine (spec_l01Put.calls t197 (fun k_ => some k_ = (.slice Ao83 x202001_2.length co83 : Value).ownBlock) (.slice Ao83 x202001_2.length co83) x202001_2 x9_2 (Int.tmod (wrap64 (x9_2 + 1)) 5) t202 w _ (BU HB) (Kd.R_tight rfl HO_202001.out) A78.out).mono ?_); rintro e w84 ⟨rfl, hy0, hb, hkp⟩; refine ⟨_, rfl, ?_⟩; replace BK149 := Fa.mk (blk_kept (bU BK149) hkp (fun hs_ => (fun e_ => (Kd.R_ne HO_202001.out BK149.out (by decide)) e_) hs_)); replace BK201 := Fa.mk (blk_kept (bU BK201) hkp (fun hs_ => (fun e_ => (Kd.R_ne HO_202001.out BK201.out (by decide)) e_) hs_)); replace HO_202001 := Fa.mk (Kd.R_reok rfl hy0 (fun k_ e_ => HO_202001.out.1 k_ e_)); replace HB := Fa.mk hb; obtain ⟨hcz85_0, hcz85_1, hfz85_0, hfz85_1⟩ := cz2 BK201.out) | ((with_reducible refine gc 86 rfl ?_); refine gL 82 Tryd.func86 #[.agg #[.int .i64 t197, .slice Ao83 x202001_2.length co83], .int .i64 x9_2, .int .i64 (wrap64 (x9_2 + 5))] rfl (by first | rfl | (simp only [mA, mC, mN]; rfl)) ?_; (with_reducible refine (spec_l01Put.calls t197 (fun k_ => some k_ = (.slice Ao83 x202001_2.length co83 : Value).ownBlock) (.slice Ao83 x202001_2.length co83) t202 x9_2 (wrap64 (x9_2 + 5)) t203 w _ (BU HB) (Kd.R_tight rfl HO_202001.out) A79.out).mono ?_); rintro e w86 ⟨rfl, hy0, hb, hkp⟩; refine ⟨_, rfl, ?_⟩; replace BK149 := Fa.mk (blk_kept (bU BK149) hkp (fun hs_ => (fun e_ => (Kd.R_ne HO_202001.out BK149.out (by decide)) e_) hs_)); replace BK201 := Fa.mk (blk_kept (bU BK201) hkp (fun hs_ => (fun e_ => (Kd.R_ne HO_202001.out BK201.out (by decide)) e_) hs_)); replace HO_202001 := Fa.mk (Kd.R_reok rfl hy0 (fun k_ e_ => HO_202001.out.1 k_ e_)); replace HB := Fa.mk hb; obtain ⟨hcz87_0, hcz87_1, hfz87_0, hfz87_1⟩ := cz2 BK201.out) | ((with_reducible refine gc 86 rfl ?_); refine gL 90 Tryd.func86 #[.agg #[.int .i64 t197, .slice Ao83 x202001_2.length co83], .int .i64 (wrap64 (x9_2 + 5)), .int .i64 (wrap64 ((Int.tmod (wrap64 (x9_2 + 2)) 5) + 5))] rfl (by first | rfl | (simp only [mA, mC, mN]; rfl)) ?_; (with_reducible refine (spec_l01Put.calls t197 (fun k_ => some k_ = (.slice Ao83 x202001_2.length co83 : Value).ownBlock) (.slice Ao83 x202001_2.length co83) t203 (wrap64 (x9_2 + 5)) (wrap64 ((Int.tmod (wrap64 (x9_2 + 2)) 5) + 5)) t204 w _ (BU HB) (Kd.R_tight rfl HO_202001.out) A80.out).mono ?_); rintro e w88 ⟨rfl, hy0, hb, hkp⟩; refine ⟨_, rfl, ?_⟩; replace BK149 := Fa.mk (blk_kept (bU BK149) hkp (fun hs_ => (fun e_ => (Kd.R_ne HO_202001.out BK149.out (by decide)) e_) hs_)); replace BK201 := Fa.mk (blk_kept (bU BK201) hkp (fun hs_ => (fun e_ => (Kd.R_ne HO_202001.out BK201.out (by decide)) e_) hs_)); replace HO_202001 := Fa.mk (Kd.R_reok rfl hy0 (fun k_ e_ => HO_202001.out.1 k_ e_)); replace HB := Fa.mk hb))
                      go_roundg k2
                      case measure => have := HJ40.out; have := HK2.out; omega
                      case rel => exact ⟨(wrap64 (x9_2 + 1)), (t204), (.slice Ao83 x202001_2.length co83), rfl, H', ⟨by have := HJ40.out; have := HK2.out; omega⟩, ⟨rU HO_202001⟩, ⟨bU BK149⟩, ⟨bU BK201⟩, ⟨BU HB⟩⟩
                    · rw [if_neg c77] at H
                      have c77b0 := decide_eq_false c77
                      clear c77
                      simp only [Option.some.injEq, Prod.mk.injEq] at H
                      obtain ⟨rfl, rfl, rfl⟩ := H
                      have hnb89 := NB201_149.out
                      have hnc89 := NB149_201.out
                      obtain ⟨hcz90_0, hcz90_1, hfz90_0, hfz90_1⟩ := cz2 BK201.out
                      obtain ⟨hcz91_0, hcz91_1, hfz91_0, hfz91_1⟩ := cz2 BK149.out
                      obtain ⟨Ao92, co92, eo92⟩ := Kd.R_slice HO_202001.out
                      subst eo92
                      go_wp2
                      refine bodyPost_ret (results_ct rfl _ _ gb149 26 #[.int .i64 t197, .slice Ao92 x202001_2.length co92] (0, 0) _ rfl oo Tryd.underlying26 rfl (by kernel_rfl)) rfl ?_
                      exact ⟨_, rfl, by (with_reducible repeat (first | apply Kd.R_alloc | apply Kd.R_drewN | apply Kd.R_drew)); exact Kd.R_mono (Kd.R_far (p := ⟨gb149, 1, none⟩) (Kd.R_far (p := ⟨gb149, 0, none⟩) (Kd.R_types HO_202001.out BK149.out (by decide)) (fun _ hk => hk.2) (.int .i64 t197)) (fun _ hk => hk.2) (.slice Ao92 x202001_2.length co92)) (fun _ hk => trivial), BU HB⟩
              · rw [if_neg c70] at H
                have c70b0 := beq_eq_false_iff_ne.mpr c70
                have c70b1 := bne_iff_ne.mpr c70
                by_cases c93 : a0.toList = ([105, 99, 111, 115, 97, 104, 101, 100, 114, 111, 110] : List UInt8)
                · rw [if_pos c93] at H
                  have c93b0 := beq_iff_eq.mpr c93
                  have c93b1 := bne_eq_false_iff_eq.mpr c93
                  clear c93
                  replace H := Option.bind_eq_some_iff.mp H
                  obtain ⟨⟨t205, t206⟩, A940, H⟩ := H
                  dsimp only at H
                  have A94 := Fa.mk A940
                  clear A940
                  have H' := Fa.mk H
                  clear H
                  go_wp2_with (first | ((with_reducible refine gc 68 rfl ?_); refine gL 94 Tryd.func68 #[.int .i64 12] rfl (by first | rfl | (simp only [mA, mC, mN]; rfl)) ?_; (with_reducible refine (spec_l01Empty.calls 12 t205 t206 _ A94.out).mono ?_); rintro e w95 ⟨v207, rfl, ho0, hb⟩; refine ⟨_, rfl, ?_⟩; have HO208 := Fa.mk (Kd.R_lower ho0 (below_size (BU HB))); replace BK149 := Fa.mk (blk_below (bU BK149) hb); replace HB := Fa.mk (below_step (BU HB) hb)) | ((with_reducible refine gd 10 rfl ?_); refine box_event ?hg (N := 10) ?hd (cs := #[.int .i64 0, .slice none 0 0]) (t := 26) ?hr ?_; (case hd => rfl); (case hg => rfl); (case hr => first | (go_simp; done) | (go_simp; rfl)); intro gb209 hg w96 hbox hb; replace HO208 := Fa.mk (Kd.R_below (rU HO208) hb); have BK209 := Fa.mk hbox; have GW209 := Fa.mk (bsz hg (BU HB) : w.heap.size ≤ gb209); have GE209 := GW209; have NB149_209 := Fa.mk ((by rw [hg]; exact Nat.ne_of_lt (blk_lt (bU BK149)) : gb149 ≠ gb209)); have NB209_149 := Fa.mk ((by rw [hg]; exact Nat.ne_of_gt (blk_lt (bU BK149)) : gb209 ≠ gb149)); replace BK149 := Fa.mk (blk_below (bU BK149) hb); replace HB := Fa.mk (below_step (BU HB) hb); clear hb hbox hg; have hnb97 := NB209_149.out; have hnc97 := NB149_209.out; obtain ⟨hcz98_0, hcz98_1, hfz98_0, hfz98_1⟩ := cz2 BK209.out; obtain ⟨Ao99, co99, eo99⟩ := Kd.R_slice HO208.out; subst eo99))
                  go_loopg [11] kj40 (fun kq v11 w' => ∃ (x11_2 : Int) (x210001_2 : List Int) (u210001 : Value), v11 = .int .i64 x11_2 ∧ Fa (spec_l01Named.l3 kq x11_2 t205 x210001_2 = some (r1, r2, r3)) ∧ Fa (kq ≤ kj40) ∧ Fa (Kd.R (Kd.int .i64) 2 w' w.heap.size (fun _ => True) u210001 x210001_2) ∧ Fa (w'.heap[gb149]? = some (.cells #[.int .i64 0, (.slice none 0 0)] 26 (0, 0))) ∧ Fa (w'.heap[gb209]? = some (.cells #[.int .i64 t205, u210001] 26 (0, 0))) ∧ Fa (Below w.heap.size w w'))
                  case atStart => exact ⟨(0), (t206), (.slice Ao99 t206.length co99), rfl, H', ⟨Nat.le_refl _⟩, ⟨by (with_reducible repeat (first | apply Kd.R_alloc | apply Kd.R_drewN | apply Kd.R_drew)); exact Kd.R_mono (Kd.R_far (p := ⟨gb209, 1, none⟩) (Kd.R_far (p := ⟨gb209, 0, none⟩) (Kd.R_types HO208.out BK209.out (by decide)) (fun _ hk => hk.2) (.int .i64 t205)) (fun _ hk => hk.2) (.slice Ao99 t206.length co99)) (fun _ hk => trivial)⟩, ⟨by (with_reducible repeat (first | refine blk_drewN ?_ _ | refine blk_drew ?_ | refine blk_alloc ?_ _)); refine blk_far ?_ NB149_209.out _; (with_reducible repeat (first | refine blk_drewN ?_ _ | refine blk_drew ?_ | refine blk_alloc ?_ _)); refine blk_far ?_ NB149_209.out _; (with_reducible repeat (first | refine blk_drewN ?_ _ | refine blk_drew ?_ | refine blk_alloc ?_ _)); exact BK149.out⟩, ⟨oo⟩, ⟨BU HB⟩⟩
                  case round =>
                    clear H'
                    obtain ⟨x11_2, x210001_2, u210001, rfl, HA, HK2, HO_210001, BK149, BK209, HB⟩ := hrel
                    cases gk with
                    | zero => exact absurd HA.out (by simp [spec_l01Named.l3])
                    | succ k2 =>
                      have H := HA.out
                      clear HA
                      simp only [spec_l01Named.l3] at H
                      by_cases c100 : x11_2 < 5
                      · rw [if_pos c100] at H
                        have c100b0 := decide_eq_true c100
                        clear c100
                        replace H := Option.bind_eq_some_iff.mp H
                        obtain ⟨t210, A1010, H⟩ := H
                        replace H : ((spec_l01Put.f t205 t210 11 (wrap64 (6 + x11_2))).bind fun t211 => ((spec_l01Put.f t205 t211 (wrap64 (1 + x11_2)) (wrap64 (1 + (Int.tmod (wrap64 (x11_2 + 1)) 5)))).bind fun t212 => ((spec_l01Put.f t205 t212 (wrap64 (6 + x11_2)) (wrap64 (6 + (Int.tmod (wrap64 (x11_2 + 1)) 5)))).bind fun t213 => ((spec_l01Put.f t205 t213 (wrap64 (1 + x11_2)) (wrap64 (6 + x11_2))).bind fun t214 => ((spec_l01Put.f t205 t214 (wrap64 (1 + x11_2)) (wrap64 (6 + (Int.tmod (wrap64 (x11_2 + 1)) 5)))).bind fun t215 => (spec_l01Named.l3 k2 (wrap64 (x11_2 + 1)) t205 t215)))))) = some (r1, r2, r3) := H
                        have A101 := Fa.mk A1010
                        clear A1010
                        replace H := Option.bind_eq_some_iff.mp H
                        obtain ⟨t211, A1020, H⟩ := H
                        replace H : ((spec_l01Put.f t205 t211 (wrap64 (1 + x11_2)) (wrap64 (1 + (Int.tmod (wrap64 (x11_2 + 1)) 5)))).bind fun t212 => ((spec_l01Put.f t205 t212 (wrap64 (6 + x11_2)) (wrap64 (6 + (Int.tmod (wrap64 (x11_2 + 1)) 5)))).bind fun t213 => ((spec_l01Put.f t205 t213 (wrap64 (1 + x11_2)) (wrap64 (6 + x11_2))).bind fun t214 => ((spec_l01Put.f t205 t214 (wrap64 (1 + x11_2)) (wrap64 (6 + (Int.tmod (wrap64 (x11_2 + 1)) 5)))).bind fun t215 => (spec_l01Named.l3 k2 (wrap64 (x11_2 + 1)) t205 t215))))) = some (r1, r2, r3) := H
                        have A102 := Fa.mk A1020
                        clear A1020
                        replace H := Option.bind_eq_some_iff.mp H
                        obtain ⟨t212, A1030, H⟩ := H
                        replace H : ((spec_l01Put.f t205 t212 (wrap64 (6 + x11_2)) (wrap64 (6 + (Int.tmod (wrap64 (x11_2 + 1)) 5)))).bind fun t213 => ((spec_l01Put.f t205 t213 (wrap64 (1 + x11_2)) (wrap64 (6 + x11_2))).bind fun t214 => ((spec_l01Put.f t205 t214 (wrap64 (1 + x11_2)) (wrap64 (6 + (Int.tmod (wrap64 (x11_2 + 1)) 5)))).bind fun t215 => (spec_l01Named.l3 k2 (wrap64 (x11_2 + 1)) t205 t215)))) = some (r1, r2, r3) := H
                        have A103 := Fa.mk A1030
                        clear A1030
                        replace H := Option.bind_eq_some_iff.mp H
                        obtain ⟨t213, A1040, H⟩ := H
                        replace H : ((spec_l01Put.f t205 t213 (wrap64 (1 + x11_2)) (wrap64 (6 + x11_2))).bind fun t214 => ((spec_l01Put.f t205 t214 (wrap64 (1 + x11_2)) (wrap64 (6 + (Int.tmod (wrap64 (x11_2 + 1)) 5)))).bind fun t215 => (spec_l01Named.l3 k2 (wrap64 (x11_2 + 1)) t205 t215))) = some (r1, r2, r3) := H
                        have A104 := Fa.mk A1040
                        clear A1040
                        replace H := Option.bind_eq_some_iff.mp H
                        obtain ⟨t214, A1050, H⟩ := H
                        replace H : ((spec_l01Put.f t205 t214 (wrap64 (1 + x11_2)) (wrap64 (6 + (Int.tmod (wrap64 (x11_2 + 1)) 5)))).bind fun t215 => (spec_l01Named.l3 k2 (wrap64 (x11_2 + 1)) t205 t215)) = some (r1, r2, r3) := H
                        have A105 := Fa.mk A1050
                        clear A1050
                        replace H := Option.bind_eq_some_iff.mp H
                        obtain ⟨t215, A1060, H⟩ := H
                        replace H : (spec_l01Named.l3 k2 (wrap64 (x11_2 + 1)) t205 t215) = some (r1, r2, r3) := H
                        have A106 := Fa.mk A1060
                        clear A1060
                        have H' := Fa.mk H
                        clear H
                        have hnb107 := NB209_149.out
                        have hnc107 := NB149_209.out
                        obtain ⟨hcz108_0, hcz108_1, hfz108_0, hfz108_1⟩ := cz2 BK209.out
                        obtain ⟨Ao109, co109, eo109⟩ := Kd.R_slice HO_210001.out
                        subst eo109
                        go_wp2_with (first | ((with_reducible refine gc 86 rfl ?_); refine gL 105 Tryd.func86 #[.agg #[.int .i64 t205, .slice Ao109 x210001_2.length co109], .int .i64 0, .int .i64 (wrap64 (1 + x11_2))] rfl (by first | rfl | (simp only [mA, mC, mN]; rfl)) ?_; (with_reducible refine (spec_l01Put.calls t205 (fun k_ => some k_ = (.slice Ao109 x210001_2.length co109 : Value).ownBlock) (.slice Ao109 x210001_2.length co109) x210001_2 0 (wrap64 (1 + x11_2)) t210 w _ (BU HB) (Kd.R_tight rfl HO_210001.out) A101.out).mono ?_); rintro e w110 ⟨rfl, hy0, hb, hkp⟩; refine ⟨_, rfl, ?_⟩; replace BK149 := Fa.mk (blk_kept (bU BK149) hkp (fun hs_ => (fun e_ => (Kd.R_ne HO_210001.out BK149.out (by decide)) e_) hs_)); replace BK209 := Fa.mk (blk_kept (bU BK209) hkp (fun hs_ => (fun e_ => (Kd.R_ne HO_210001.out BK209.out (by decide)) e_) hs_)); replace HO_210001 := Fa.mk (Kd.R_reok rfl hy0 (fun k_ e_ => HO_210001.out.1 k_ e_)); replace HB := Fa.mk hb; obtain ⟨hcz111_0, hcz111_1, hfz111_0, hfz111_1⟩ := cz2 BK209.out) | ((with_reducible refine gc 86 rfl ?_); refine gL 109 Tryd.func86 #[.agg #[.int .i64 t205, .slice Ao109 x210001_2.length co109], .int .i64 11, .int .i64 (wrap64 (6 + x11_2))] rfl (by first | rfl | (simp only [mA, mC, mN]; rfl)) ?_; (with_reducible refine (spec_l01Put.calls t205 (fun k_ => some k_ = (.slice Ao109 x210001_2.length co109 : Value).ownBlock) (.slice Ao109 x210001_2.length co109) t210 11 (wrap64 (6 + x11_2)) t211 w _ (BU HB) (Kd.R_tight rfl HO_210001.out) A102.out).mono ?_); rintro e w112 ⟨rfl, hy0, hb, hkp⟩; refine ⟨_, rfl, ?_⟩; replace BK149 := Fa.mk (blk_kept (bU BK149) hkp (fun hs_ => (fun e_ => (Kd.R_ne HO_210001.out BK149.out (by decide)) e_) hs_)); replace BK209 := Fa.mk (blk_kept (bU BK209) hkp (fun hs_ => (fun e_ => (Kd.R_ne HO_210001.out BK209.out (by decide)) e_) hs_)); replace HO_210001 := Fa.mk (Kd.R_reok rfl hy0 (fun k_ e_ => HO_210001.out.1 k_ e_)); replace HB := Fa.mk hb; obtain ⟨hcz113_0, hcz113_1, hfz113_0, hfz113_1⟩ := cz2 BK209.out) | ((with_reducible refine gc 86 rfl ?_); refine gL 115 Tryd.func86 #[.agg #[.int .i64 t205, .slice Ao109 x210001_2.length co109], .int .i64 (wrap64 (1 + x11_2)), .int .i64 (wrap64 (1 + (Int.tmod (wrap64 (x11_2 + 1)) 5)))] rfl (by first | rfl | (simp only [mA, mC, mN]; rfl)) ?_; (with_reducible refine (spec_l01Put.calls t205 (fun k_ => some k_ = (.slice Ao109 x210001_2.length co109 : Value).ownBlock) (.slice Ao109 x210001_2.length co109) t211 (wrap64 (1 + x11_2)) (wrap64 (1 + (Int.tmod (wrap64 (x11_2 + 1)) 5))) t212 w _ (BU HB) (Kd.R_tight rfl HO_210001.out) A103.out).mono ?_); rintro e w114 ⟨rfl, hy0, hb, hkp⟩; refine ⟨_, rfl, ?_⟩; replace BK149 := Fa.mk (blk_kept (bU BK149) hkp (fun hs_ => (fun e_ => (Kd.R_ne HO_210001.out BK149.out (by decide)) e_) hs_)); replace BK209 := Fa.mk (blk_kept (bU BK209) hkp (fun hs_ => (fun e_ => (Kd.R_ne HO_210001.out BK209.out (by decide)) e_) hs_)); replace HO_210001 := Fa.mk (Kd.R_reok rfl hy0 (fun k_ e_ => HO_210001.out.1 k_ e_)); replace HB := Fa.mk hb; obtain ⟨hcz115_0, hcz115_1, hfz115_0, hfz115_1⟩ := cz2 BK209.out) | ((with_reducible refine gc 86 rfl ?_); refine gL 121 Tryd.func86 #[.agg #[.int .i64 t205, .slice Ao109 x210001_2.length co109], .int .i64 (wrap64 (6 + x11_2)), .int .i64 (wrap64 (6 + (Int.tmod (wrap64 (x11_2 + 1)) 5)))] rfl (by first | rfl | (simp only [mA, mC, mN]; rfl)) ?_; (with_reducible refine (spec_l01Put.calls t205 (fun k_ => some k_ = (.slice Ao109 x210001_2.length co109 : Value).ownBlock) (.slice Ao109 x210001_2.length co109) t212 (wrap64 (6 + x11_2)) (wrap64 (6 + (Int.tmod (wrap64 (x11_2 + 1)) 5))) t213 w _ (BU HB) (Kd.R_tight rfl HO_210001.out) A104.out).mono ?_); rintro e w116 ⟨rfl, hy0, hb, hkp⟩; refine ⟨_, rfl, ?_⟩; replace BK149 := Fa.mk (blk_kept (bU BK149) hkp (fun hs_ => (fun e_ => (Kd.R_ne HO_210001.out BK149.out (by decide)) e_) hs_)); replace BK209 := Fa.mk (blk_kept (bU BK209) hkp (fun hs_ => (fun e_ => (Kd.R_ne HO_210001.out BK209.out (by decide)) e_) hs_)); replace HO_210001 := Fa.mk (Kd.R_reok rfl hy0 (fun k_ e_ => HO_210001.out.1 k_ e_)); replace HB := Fa.mk hb; obtain ⟨hcz117_0, hcz117_1, hfz117_0, hfz117_1⟩ := cz2 BK209.out) | ((with_reducible refine gc 86 rfl ?_); refine gL 127 Tryd.func86 #[.agg #[.int .i64 t205, .slice Ao109 x210001_2.length co109], .int .i64 (wrap64 (1 + x11_2)), .int .i64 (wrap64 (6 + x11_2))] rfl (by first | rfl | (simp only [mA, mC, mN]; rfl)) ?_; (with_reducible refine (spec_l01Put.calls t205 (fun k_ => some k_ = (.slice Ao109 x210001_2.length co109 : Value).ownBlock) (.slice Ao109 x210001_2.length co109) t213 (wrap64 (1 + x11_2)) (wrap64 (6 + x11_2)) t214 w _ (BU HB) (Kd.R_tight rfl HO_210001.out) A105.out).mono ?_); rintro e w118 ⟨rfl, hy0, hb, hkp⟩; refine ⟨_, rfl, ?_⟩; replace BK149 := Fa.mk (blk_kept (bU BK149) hkp (fun hs_ => (fun e_ => (Kd.R_ne HO_210001.out BK149.out (by decide)) e_) hs_)); replace BK209 := Fa.mk (blk_kept (bU BK209) hkp (fun hs_ => (fun e_ => (Kd.R_ne HO_210001.out BK209.out (by decide)) e_) hs_)); replace HO_210001 := Fa.mk (Kd.R_reok rfl hy0 (fun k_ e_ => HO_210001.out.1 k_ e_)); replace HB := Fa.mk hb; obtain ⟨hcz119_0, hcz119_1, hfz119_0, hfz119_1⟩ := cz2 BK209.out) | ((with_reducible refine gc 86 rfl ?_); refine gL 133 Tryd.func86 #[.agg #[.int .i64 t205, .slice Ao109 x210001_2.length co109], .int .i64 (wrap64 (1 + x11_2)), .int .i64 (wrap64 (6 + (Int.tmod (wrap64 (x11_2 + 1)) 5)))] rfl (by first | rfl | (simp only [mA, mC, mN]; rfl)) ?_; (with_reducible refine (spec_l01Put.calls t205 (fun k_ => some k_ = (.slice Ao109 x210001_2.length co109 : Value).ownBlock) (.slice Ao109 x210001_2.length co109) t214 (wrap64 (1 + x11_2)) (wrap64 (6 + (Int.tmod (wrap64 (x11_2 + 1)) 5))) t215 w _ (BU HB) (Kd.R_tight rfl HO_210001.out) A106.out).mono ?_); rintro e w120 ⟨rfl, hy0, hb, hkp⟩; refine ⟨_, rfl, ?_⟩; replace BK149 := Fa.mk (blk_kept (bU BK149) hkp (fun hs_ => (fun e_ => (Kd.R_ne HO_210001.out BK149.out (by decide)) e_) hs_)); replace BK209 := Fa.mk (blk_kept (bU BK209) hkp (fun hs_ => (fun e_ => (Kd.R_ne HO_210001.out BK209.out (by decide)) e_) hs_)); replace HO_210001 := Fa.mk (Kd.R_reok rfl hy0 (fun k_ e_ => HO_210001.out.1 k_ e_)); replace HB := Fa.mk hb))
                        go_roundg k2
                        case measure => have := HJ40.out; have := HK2.out; omega
                        case rel => exact ⟨(wrap64 (x11_2 + 1)), (t215), (.slice Ao109 x210001_2.length co109), rfl, H', ⟨by have := HJ40.out; have := HK2.out; omega⟩, ⟨rU HO_210001⟩, ⟨bU BK149⟩, ⟨bU BK209⟩, ⟨BU HB⟩⟩
                      · rw [if_neg c100] at H
                        have c100b0 := decide_eq_false c100
                        clear c100
                        simp only [Option.some.injEq, Prod.mk.injEq] at H
                        obtain ⟨rfl, rfl, rfl⟩ := H
                        have hnb121 := NB209_149.out
                        have hnc121 := NB149_209.out
                        obtain ⟨hcz122_0, hcz122_1, hfz122_0, hfz122_1⟩ := cz2 BK209.out
                        obtain ⟨hcz123_0, hcz123_1, hfz123_0, hfz123_1⟩ := cz2 BK149.out
                        obtain ⟨Ao124, co124, eo124⟩ := Kd.R_slice HO_210001.out
                        subst eo124
                        go_wp2
                        refine bodyPost_ret (results_ct rfl _ _ gb149 26 #[.int .i64 t205, .slice Ao124 x210001_2.length co124] (0, 0) _ rfl oo Tryd.underlying26 rfl (by kernel_rfl)) rfl ?_
                        exact ⟨_, rfl, by (with_reducible repeat (first | apply Kd.R_alloc | apply Kd.R_drewN | apply Kd.R_drew)); exact Kd.R_mono (Kd.R_far (p := ⟨gb149, 1, none⟩) (Kd.R_far (p := ⟨gb149, 0, none⟩) (Kd.R_types HO_210001.out BK149.out (by decide)) (fun _ hk => hk.2) (.int .i64 t205)) (fun _ hk => hk.2) (.slice Ao124 x210001_2.length co124)) (fun _ hk => trivial), BU HB⟩
                · rw [if_neg c93] at H
                  have c93b0 := beq_eq_false_iff_ne.mpr c93
                  have c93b1 := bne_iff_ne.mpr c93
                  by_cases c125 : a0.toList = ([104, 111, 102, 102, 109, 97, 110, 115, 105, 110, 103, 108, 101, 116, 111, 110] : List UInt8)
                  · rw [if_pos c125] at H
                    have c125b0 := beq_iff_eq.mpr c125
                    have c125b1 := bne_eq_false_iff_eq.mpr c125
                    clear c125
                    replace H := Option.bind_eq_some_iff.mp H
                    obtain ⟨⟨t216, t217⟩, A1260, H⟩ := H
                    dsimp only at H
                    have A126 := Fa.mk A1260
                    clear A1260
                    have H' := Fa.mk H
                    clear H
                    go_wp2_with (first | ((with_reducible refine gc 68 rfl ?_); refine gL 137 Tryd.func68 #[.int .i64 50] rfl (by first | rfl | (simp only [mA, mC, mN]; rfl)) ?_; (with_reducible refine (spec_l01Empty.calls 50 t216 t217 _ A126.out).mono ?_); rintro e w127 ⟨v218, rfl, ho0, hb⟩; refine ⟨_, rfl, ?_⟩; have HO219 := Fa.mk (Kd.R_lower ho0 (below_size (BU HB))); replace BK149 := Fa.mk (blk_below (bU BK149) hb); replace HB := Fa.mk (below_step (BU HB) hb)) | ((with_reducible refine gd 13 rfl ?_); refine box_event ?hg (N := 13) ?hd (cs := #[.int .i64 0, .slice none 0 0]) (t := 26) ?hr ?_; (case hd => rfl); (case hg => rfl); (case hr => first | (go_simp; done) | (go_simp; rfl)); intro gb220 hg w128 hbox hb; replace HO219 := Fa.mk (Kd.R_below (rU HO219) hb); have BK220 := Fa.mk hbox; have GW220 := Fa.mk (bsz hg (BU HB) : w.heap.size ≤ gb220); have GE220 := GW220; have NB149_220 := Fa.mk ((by rw [hg]; exact Nat.ne_of_lt (blk_lt (bU BK149)) : gb149 ≠ gb220)); have NB220_149 := Fa.mk ((by rw [hg]; exact Nat.ne_of_gt (blk_lt (bU BK149)) : gb220 ≠ gb149)); replace BK149 := Fa.mk (blk_below (bU BK149) hb); replace HB := Fa.mk (below_step (BU HB) hb); clear hb hbox hg; have hnb129 := NB220_149.out; have hnc129 := NB149_220.out; obtain ⟨hcz130_0, hcz130_1, hfz130_0, hfz130_1⟩ := cz2 BK220.out; obtain ⟨Ao131, co131, eo131⟩ := Kd.R_slice HO219.out; subst eo131))
                    go_loopg [14] kj40 (fun kq v14 w' => ∃ (x14_2 : Int) (x221001_2 : List Int) (u221001 : Value), v14 = .int .i64 x14_2 ∧ Fa (spec_l01Named.l4 kq x14_2 t216 x221001_2 = some (r1, r2, r3)) ∧ Fa (kq ≤ kj40) ∧ Fa (Kd.R (Kd.int .i64) 2 w' w.heap.size (fun _ => True) u221001 x221001_2) ∧ Fa (w'.heap[gb149]? = some (.cells #[.int .i64 0, (.slice none 0 0)] 26 (0, 0))) ∧ Fa (w'.heap[gb220]? = some (.cells #[.int .i64 t216, u221001] 26 (0, 0))) ∧ Fa (Below w.heap.size w w'))
                    case atStart => exact ⟨(0), (t217), (.slice Ao131 t217.length co131), rfl, H', ⟨Nat.le_refl _⟩, ⟨by (with_reducible repeat (first | apply Kd.R_alloc | apply Kd.R_drewN | apply Kd.R_drew)); exact Kd.R_mono (Kd.R_far (p := ⟨gb220, 1, none⟩) (Kd.R_far (p := ⟨gb220, 0, none⟩) (Kd.R_types HO219.out BK220.out (by decide)) (fun _ hk => hk.2) (.int .i64 t216)) (fun _ hk => hk.2) (.slice Ao131 t217.length co131)) (fun _ hk => trivial)⟩, ⟨by (with_reducible repeat (first | refine blk_drewN ?_ _ | refine blk_drew ?_ | refine blk_alloc ?_ _)); refine blk_far ?_ NB149_220.out _; (with_reducible repeat (first | refine blk_drewN ?_ _ | refine blk_drew ?_ | refine blk_alloc ?_ _)); refine blk_far ?_ NB149_220.out _; (with_reducible repeat (first | refine blk_drewN ?_ _ | refine blk_drew ?_ | refine blk_alloc ?_ _)); exact BK149.out⟩, ⟨oo⟩, ⟨BU HB⟩⟩
                    case round =>
                      clear H'
                      obtain ⟨x14_2, x221001_2, u221001, rfl, HA, HK2, HO_221001, BK149, BK220, HB⟩ := hrel
                      cases gk with
                      | zero => exact absurd HA.out (by simp [spec_l01Named.l4])
                      | succ k2 =>
                        have H := HA.out
                        clear HA
                        simp only [spec_l01Named.l4] at H
                        by_cases c132 : x14_2 < 5
                        · rw [if_pos c132] at H
                          have c132b0 := decide_eq_true c132
                          clear c132
                          have H' := Fa.mk H
                          clear H
                          go_wp2
                          go_loopg [15] k2 (fun kq v15 w' => ∃ (x15_3 : Int) (x221001_3 : List Int) (u221001 : Value), v15 = .int .i64 x15_3 ∧ Fa (spec_l01Named.l5 kq x14_2 x15_3 t216 x221001_3 = some (r1, r2, r3)) ∧ Fa (kq ≤ k2) ∧ Fa (Kd.R (Kd.int .i64) 2 w' w.heap.size (fun _ => True) u221001 x221001_3) ∧ Fa (w'.heap[gb149]? = some (.cells #[.int .i64 0, (.slice none 0 0)] 26 (0, 0))) ∧ Fa (w'.heap[gb220]? = some (.cells #[.int .i64 t216, u221001] 26 (0, 0))) ∧ Fa (Below w.heap.size w w'))
                          case atStart => exact ⟨(0), (x221001_2), (u221001), rfl, H', ⟨Nat.le_refl _⟩, ⟨rU HO_221001⟩, ⟨bU BK149⟩, ⟨bU BK220⟩, ⟨BU HB⟩⟩
                          case round =>
                            clear H'
                            obtain ⟨x15_3, x221001_3, u221001, rfl, HA, HK3, HO_221001, BK149, BK220, HB⟩ := hrel
                            cases gk with
                            | zero => exact absurd HA.out (by simp [spec_l01Named.l5])
                            | succ k3 =>
                              have H := HA.out
                              clear HA
                              simp only [spec_l01Named.l5] at H
                              by_cases c133 : x15_3 < 5
                              · rw [if_pos c133] at H
                                have c133b0 := decide_eq_true c133
                                clear c133
                                replace H := Option.bind_eq_some_iff.mp H
                                obtain ⟨t221, A1340, H⟩ := H
                                replace H : ((spec_l01Put.f t216 t221 (wrap64 ((wrap64 (25 + (wrap64 (5 * x14_2)))) + x15_3)) (wrap64 ((wrap64 (25 + (wrap64 (5 * x14_2)))) + (Int.tmod (wrap64 (x15_3 + 2)) 5)))).bind fun t222 => (spec_l01Named.l6 k3 x14_2 x15_3 0 t216 t222)) = some (r1, r2, r3) := H
                                have A134 := Fa.mk A1340
                                clear A1340
                                replace H := Option.bind_eq_some_iff.mp H
                                obtain ⟨t222, A1350, H⟩ := H
                                replace H : (spec_l01Named.l6 k3 x14_2 x15_3 0 t216 t222) = some (r1, r2, r3) := H
                                have A135 := Fa.mk A1350
                                clear A1350
                                have H' := Fa.mk H
                                clear H
                                have hnb136 := NB220_149.out
                                have hnc136 := NB149_220.out
                                obtain ⟨hcz137_0, hcz137_1, hfz137_0, hfz137_1⟩ := cz2 BK220.out
                                obtain ⟨Ao138, co138, eo138⟩ := Kd.R_slice HO_221001.out
                                subst eo138
                                go_wp2_with (first | ((with_reducible refine gc 86 rfl ?_); refine gL 157 Tryd.func86 #[.agg #[.int .i64 t216, .slice Ao138 x221001_3.length co138], .int .i64 (wrap64 ((wrap64 (5 * x14_2)) + x15_3)), .int .i64 (wrap64 ((wrap64 (5 * x14_2)) + (Int.tmod (wrap64 (x15_3 + 1)) 5)))] rfl (by first | rfl | (simp only [mA, mC, mN]; rfl)) ?_; (with_reducible refine (spec_l01Put.calls t216 (fun k_ => some k_ = (.slice Ao138 x221001_3.length co138 : Value).ownBlock) (.slice Ao138 x221001_3.length co138) x221001_3 (wrap64 ((wrap64 (5 * x14_2)) + x15_3)) (wrap64 ((wrap64 (5 * x14_2)) + (Int.tmod (wrap64 (x15_3 + 1)) 5))) t221 w _ (BU HB) (Kd.R_tight rfl HO_221001.out) A134.out).mono ?_); rintro e w139 ⟨rfl, hy0, hb, hkp⟩; refine ⟨_, rfl, ?_⟩; replace BK149 := Fa.mk (blk_kept (bU BK149) hkp (fun hs_ => (fun e_ => (Kd.R_ne HO_221001.out BK149.out (by decide)) e_) hs_)); replace BK220 := Fa.mk (blk_kept (bU BK220) hkp (fun hs_ => (fun e_ => (Kd.R_ne HO_221001.out BK220.out (by decide)) e_) hs_)); replace HO_221001 := Fa.mk (Kd.R_reok rfl hy0 (fun k_ e_ => HO_221001.out.1 k_ e_)); replace HB := Fa.mk hb; obtain ⟨hcz140_0, hcz140_1, hfz140_0, hfz140_1⟩ := cz2 BK220.out) | ((with_reducible refine gc 86 rfl ?_); refine gL 171 Tryd.func86 #[.agg #[.int .i64 t216, .slice Ao138 x221001_3.length co138], .int .i64 (wrap64 ((wrap64 (25 + (wrap64 (5 * x14_2)))) + x15_3)), .int .i64 (wrap64 ((wrap64 (25 + (wrap64 (5 * x14_2)))) + (Int.tmod (wrap64 (x15_3 + 2)) 5)))] rfl (by first | rfl | (simp only [mA, mC, mN]; rfl)) ?_; (with_reducible refine (spec_l01Put.calls t216 (fun k_ => some k_ = (.slice Ao138 x221001_3.length co138 : Value).ownBlock) (.slice Ao138 x221001_3.length co138) t221 (wrap64 ((wrap64 (25 + (wrap64 (5 * x14_2)))) + x15_3)) (wrap64 ((wrap64 (25 + (wrap64 (5 * x14_2)))) + (Int.tmod (wrap64 (x15_3 + 2)) 5))) t222 w _ (BU HB) (Kd.R_tight rfl HO_221001.out) A135.out).mono ?_); rintro e w141 ⟨rfl, hy0, hb, hkp⟩; refine ⟨_, rfl, ?_⟩; replace BK149 := Fa.mk (blk_kept (bU BK149) hkp (fun hs_ => (fun e_ => (Kd.R_ne HO_221001.out BK149.out (by decide)) e_) hs_)); replace BK220 := Fa.mk (blk_kept (bU BK220) hkp (fun hs_ => (fun e_ => (Kd.R_ne HO_221001.out BK220.out (by decide)) e_) hs_)); replace HO_221001 := Fa.mk (Kd.R_reok rfl hy0 (fun k_ e_ => HO_221001.out.1 k_ e_)); replace HB := Fa.mk hb))
                                go_loopg [16] k3 (fun kq v16 w' => ∃ (x16_4 : Int) (x221001_4 : List Int) (u221001 : Value), v16 = .int .i64 x16_4 ∧ Fa (spec_l01Named.l6 kq x14_2 x15_3 x16_4 t216 x221001_4 = some (r1, r2, r3)) ∧ Fa (kq ≤ k3) ∧ Fa (Kd.R (Kd.int .i64) 2 w' w.heap.size (fun _ => True) u221001 x221001_4) ∧ Fa (w'.heap[gb149]? = some (.cells #[.int .i64 0, (.slice none 0 0)] 26 (0, 0))) ∧ Fa (w'.heap[gb220]? = some (.cells #[.int .i64 t216, u221001] 26 (0, 0))) ∧ Fa (Below w.heap.size w w'))
                                case atStart => exact ⟨(0), (t222), (.slice Ao138 x221001_3.length co138), rfl, H', ⟨Nat.le_refl _⟩, ⟨rU HO_221001⟩, ⟨bU BK149⟩, ⟨bU BK220⟩, ⟨BU HB⟩⟩
                                case round =>
                                  clear H'
                                  obtain ⟨x16_4, x221001_4, u221001, rfl, HA, HK4, HO_221001, BK149, BK220, HB⟩ := hrel
                                  cases gk with
                                  | zero => exact absurd HA.out (by simp [spec_l01Named.l6])
                                  | succ k4 =>
                                    have H := HA.out
                                    clear HA
                                    simp only [spec_l01Named.l6] at H
                                    by_cases c142 : x16_4 < 5
                                    · rw [if_pos c142] at H
                                      have c142b0 := decide_eq_true c142
                                      clear c142
                                      replace H := Option.bind_eq_some_iff.mp H
                                      obtain ⟨t223, A1430, H⟩ := H
                                      replace H : (spec_l01Named.l6 k4 x14_2 x15_3 (wrap64 (x16_4 + 1)) t216 t223) = some (r1, r2, r3) := H
                                      have A143 := Fa.mk A1430
                                      clear A1430
                                      have H' := Fa.mk H
                                      clear H
                                      have hnb144 := NB220_149.out
                                      have hnc144 := NB149_220.out
                                      obtain ⟨hcz145_0, hcz145_1, hfz145_0, hfz145_1⟩ := cz2 BK220.out
                                      obtain ⟨Ao146, co146, eo146⟩ := Kd.R_slice HO_221001.out
                                      subst eo146
                                      go_wp2_with (first | ((with_reducible refine gc 86 rfl ?_); refine gL 191 Tryd.func86 #[.agg #[.int .i64 t216, .slice Ao146 x221001_4.length co146], .int .i64 (wrap64 ((wrap64 (5 * x14_2)) + x15_3)), .int .i64 (wrap64 ((wrap64 (25 + (wrap64 (5 * x16_4)))) + (Int.tmod (wrap64 ((wrap64 (x14_2 * x16_4)) + x15_3)) 5)))] rfl (by first | rfl | (simp only [mA, mC, mN]; rfl)) ?_; (with_reducible refine (spec_l01Put.calls t216 (fun k_ => some k_ = (.slice Ao146 x221001_4.length co146 : Value).ownBlock) (.slice Ao146 x221001_4.length co146) x221001_4 (wrap64 ((wrap64 (5 * x14_2)) + x15_3)) (wrap64 ((wrap64 (25 + (wrap64 (5 * x16_4)))) + (Int.tmod (wrap64 ((wrap64 (x14_2 * x16_4)) + x15_3)) 5))) t223 w _ (BU HB) (Kd.R_tight rfl HO_221001.out) A143.out).mono ?_); rintro e w147 ⟨rfl, hy0, hb, hkp⟩; refine ⟨_, rfl, ?_⟩; replace BK149 := Fa.mk (blk_kept (bU BK149) hkp (fun hs_ => (fun e_ => (Kd.R_ne HO_221001.out BK149.out (by decide)) e_) hs_)); replace BK220 := Fa.mk (blk_kept (bU BK220) hkp (fun hs_ => (fun e_ => (Kd.R_ne HO_221001.out BK220.out (by decide)) e_) hs_)); replace HO_221001 := Fa.mk (Kd.R_reok rfl hy0 (fun k_ e_ => HO_221001.out.1 k_ e_)); replace HB := Fa.mk hb))
                                      go_roundg k4
                                      case measure => have := HJ40.out; have := HK2.out; have := HK3.out; have := HK4.out; omega
                                      case rel => exact ⟨(wrap64 (x16_4 + 1)), (t223), (.slice Ao146 x221001_4.length co146), rfl, H', ⟨by have := HJ40.out; have := HK2.out; have := HK3.out; have := HK4.out; omega⟩, ⟨rU HO_221001⟩, ⟨bU BK149⟩, ⟨bU BK220⟩, ⟨BU HB⟩⟩
                                    · rw [if_neg c142] at H
                                      have c142b0 := decide_eq_false c142
                                      clear c142
                                      have H' := Fa.mk H
                                      clear H
                                      go_wp2
                                      go_roundg k4
                                      case measure => have := HJ40.out; have := HK2.out; have := HK3.out; have := HK4.out; omega
                                      case rel => exact ⟨(wrap64 (x15_3 + 1)), (x221001_4), (u221001), rfl, H', ⟨by have := HJ40.out; have := HK2.out; have := HK3.out; have := HK4.out; omega⟩, ⟨rU HO_221001⟩, ⟨bU BK149⟩, ⟨bU BK220⟩, ⟨BU HB⟩⟩
                              · rw [if_neg c133] at H
                                have c133b0 := decide_eq_false c133
                                clear c133
                                have H' := Fa.mk H
                                clear H
                                go_wp2
                                go_roundg k3
                                case measure => have := HJ40.out; have := HK2.out; have := HK3.out; omega
                                case rel => exact ⟨(wrap64 (x14_2 + 1)), (x221001_3), (u221001), rfl, H', ⟨by have := HJ40.out; have := HK2.out; have := HK3.out; omega⟩, ⟨rU HO_221001⟩, ⟨bU BK149⟩, ⟨bU BK220⟩, ⟨BU HB⟩⟩
                        · rw [if_neg c132] at H
                          have c132b0 := decide_eq_false c132
                          clear c132
                          simp only [Option.some.injEq, Prod.mk.injEq] at H
                          obtain ⟨rfl, rfl, rfl⟩ := H
                          have hnb148 := NB220_149.out
                          have hnc148 := NB149_220.out
                          obtain ⟨hcz149_0, hcz149_1, hfz149_0, hfz149_1⟩ := cz2 BK220.out
                          obtain ⟨hcz150_0, hcz150_1, hfz150_0, hfz150_1⟩ := cz2 BK149.out
                          obtain ⟨Ao151, co151, eo151⟩ := Kd.R_slice HO_221001.out
                          subst eo151
                          go_wp2
                          refine bodyPost_ret (results_ct rfl _ _ gb149 26 #[.int .i64 t216, .slice Ao151 x221001_2.length co151] (0, 0) _ rfl oo Tryd.underlying26 rfl (by kernel_rfl)) rfl ?_
                          exact ⟨_, rfl, by (with_reducible repeat (first | apply Kd.R_alloc | apply Kd.R_drewN | apply Kd.R_drew)); exact Kd.R_mono (Kd.R_far (p := ⟨gb149, 1, none⟩) (Kd.R_far (p := ⟨gb149, 0, none⟩) (Kd.R_types HO_221001.out BK149.out (by decide)) (fun _ hk => hk.2) (.int .i64 t216)) (fun _ hk => hk.2) (.slice Ao151 x221001_2.length co151)) (fun _ hk => trivial), BU HB⟩
                  · rw [if_neg c125] at H
                    have c125b0 := beq_eq_false_iff_ne.mpr c125
                    have c125b1 := bne_iff_ne.mpr c125
                    by_cases c152 : a0.toList = ([104, 101, 97, 119, 111, 111, 100] : List UInt8)
                    · rw [if_pos c152] at H
                      have c152b0 := beq_iff_eq.mpr c152
                      have c152b1 := bne_eq_false_iff_eq.mpr c152
                      clear c152
                      obtain ⟨y224, hy224⟩ : ∃ y_ : List Int, y_ = (([5, 9] : List Int)) := ⟨_, rfl⟩
                      first | replace H := bs_ hy224 H | rw [← hy224] at H
                      have Ny224 := Fa.mk hy224
                      clear hy224
                      replace H := Option.bind_eq_some_iff.mp H
                      obtain ⟨⟨t227, t228⟩, A1530, H⟩ := H
                      dsimp only at H
                      have A153 := Fa.mk A1530
                      clear A1530
                      simp only [Option.some.injEq, Prod.mk.injEq] at H
                      obtain ⟨rfl, rfl, rfl⟩ := H
                      go_wp2_with (first | ((with_reducible refine gd 195 rfl ?_); refine Kd.R_lit (Kd.int .i64) _ 2 ?hg (N := 195) ?hd (xs := ([5, 9] : List Int)) (inner := [.int .i64 5, .int .i64 9]) (ok := fun _ => True) (okp := fun _ => True) ?hr ?hp (fun _ hk => hk) trivial (Below.refl _ _) (Nat.le_refl _) (by simp) ?_; (case hd => rfl); (case hg => rfl); (case hr => first | (go_simp; done) | (go_simp; rfl)); (case hp => exact (Reps.one (show Kd.M (Kd.int .i64) _ _ _ 5 [.int .i64 5] from rfl) (Reps.one (show Kd.M (Kd.int .i64) _ _ _ 9 [.int .i64 9] from rfl) (Reps.none _ _)))); intro v225 w154 ho155 hb hg_ hnew_; clear hg_ hnew_; (first | rw [← Ny224.out] at ho155 | (simp only [Int.reduceToNat] at ho155; rw [← Ny224.out] at ho155)); have HO226 := Fa.mk (Kd.R_lower ho155 (below_size (BU HB))); replace BK149 := Fa.mk (blk_below (bU BK149) hb); replace HB := Fa.mk (below_step (BU HB) hb); clear hb ho155; obtain ⟨Ao156, co156, eo156⟩ := Kd.R_slice HO226.out; subst eo156) | ((with_reducible refine gc 103 rfl ?_); refine gL 196 Tryd.func103 #[.int .i64 14, .slice Ao156 y224.length co156] rfl (by first | rfl | (simp only [mA, mC, mN]; rfl)) ?_; (with_reducible refine (spec_l01Jumps.calls kj40 14 _ _ y224 t227 t228 _ (rC HO226) ((Kd.R_reads' HO226.out).2.1) A153.out).mono ?_); rintro e w157 ⟨v229, rfl, ho0, hb⟩; refine ⟨_, rfl, ?_⟩; have HO230 := Fa.mk (Kd.R_lower (Kd.R_new' ho0 (Kd.R_lt (rU HO226))) (below_size (BU HB))); replace HO226 := Fa.mk (Kd.R_elder' (rU HO226) (Kd.R_base ho0) hb); replace BK149 := Fa.mk (blk_below (bU BK149) hb); replace HB := Fa.mk (below_step (BU HB) hb); obtain ⟨hcz158_0, hcz158_1, hfz158_0, hfz158_1⟩ := cz2 BK149.out; obtain ⟨Ao159, co159, eo159⟩ := Kd.R_slice HO230.out; subst eo159))
                      refine bodyPost_ret (results_ct rfl _ _ gb149 26 #[.int .i64 t227, .slice Ao159 t228.length co159] (0, 0) _ rfl oo Tryd.underlying26 rfl (by kernel_rfl)) rfl ?_
                      exact ⟨_, rfl, by (with_reducible repeat (first | apply Kd.R_alloc | apply Kd.R_drewN | apply Kd.R_drew)); exact Kd.R_mono (Kd.R_far (p := ⟨gb149, 1, none⟩) (Kd.R_far (p := ⟨gb149, 0, none⟩) (Kd.R_types HO230.out BK149.out (by decide)) (fun _ hk => hk.2) (.int .i64 t227)) (fun _ hk => hk.2) (.slice Ao159 t228.length co159)) (fun _ hk => trivial), BU HB⟩
                    · rw [if_neg c152] at H
                      have c152b0 := beq_eq_false_iff_ne.mpr c152
                      have c152b1 := bne_iff_ne.mpr c152
                      by_cases c160 : a0.toList = ([109, 111, 101, 98, 105, 117, 115, 107, 97, 110, 116, 111, 114] : List UInt8)
                      · rw [if_pos c160] at H
                        have c160b0 := beq_iff_eq.mpr c160
                        have c160b1 := bne_eq_false_iff_eq.mpr c160
                        clear c160
                        obtain ⟨y231, hy231⟩ : ∃ y_ : List Int, y_ = (([5, 11] : List Int)) := ⟨_, rfl⟩
                        first | replace H := bs_ hy231 H | rw [← hy231] at H
                        have Ny231 := Fa.mk hy231
                        clear hy231
                        replace H := Option.bind_eq_some_iff.mp H
                        obtain ⟨⟨t234, t235⟩, A1610, H⟩ := H
                        dsimp only at H
                        have A161 := Fa.mk A1610
                        clear A1610
                        simp only [Option.some.injEq, Prod.mk.injEq] at H
                        obtain ⟨rfl, rfl, rfl⟩ := H
                        go_wp2_with (first | ((with_reducible refine gd 199 rfl ?_); refine Kd.R_lit (Kd.int .i64) _ 2 ?hg (N := 199) ?hd (xs := ([5, 11] : List Int)) (inner := [.int .i64 5, .int .i64 11]) (ok := fun _ => True) (okp := fun _ => True) ?hr ?hp (fun _ hk => hk) trivial (Below.refl _ _) (Nat.le_refl _) (by simp) ?_; (case hd => rfl); (case hg => rfl); (case hr => first | (go_simp; done) | (go_simp; rfl)); (case hp => exact (Reps.one (show Kd.M (Kd.int .i64) _ _ _ 5 [.int .i64 5] from rfl) (Reps.one (show Kd.M (Kd.int .i64) _ _ _ 11 [.int .i64 11] from rfl) (Reps.none _ _)))); intro v232 w162 ho163 hb hg_ hnew_; clear hg_ hnew_; (first | rw [← Ny231.out] at ho163 | (simp only [Int.reduceToNat] at ho163; rw [← Ny231.out] at ho163)); have HO233 := Fa.mk (Kd.R_lower ho163 (below_size (BU HB))); replace BK149 := Fa.mk (blk_below (bU BK149) hb); replace HB := Fa.mk (below_step (BU HB) hb); clear hb ho163; obtain ⟨Ao164, co164, eo164⟩ := Kd.R_slice HO233.out; subst eo164) | ((with_reducible refine gc 103 rfl ?_); refine gL 200 Tryd.func103 #[.int .i64 16, .slice Ao164 y231.length co164] rfl (by first | rfl | (simp only [mA, mC, mN]; rfl)) ?_; (with_reducible refine (spec_l01Jumps.calls kj40 16 _ _ y231 t234 t235 _ (rC HO233) ((Kd.R_reads' HO233.out).2.1) A161.out).mono ?_); rintro e w165 ⟨v236, rfl, ho0, hb⟩; refine ⟨_, rfl, ?_⟩; have HO237 := Fa.mk (Kd.R_lower (Kd.R_new' ho0 (Kd.R_lt (rU HO233))) (below_size (BU HB))); replace HO233 := Fa.mk (Kd.R_elder' (rU HO233) (Kd.R_base ho0) hb); replace BK149 := Fa.mk (blk_below (bU BK149) hb); replace HB := Fa.mk (below_step (BU HB) hb); obtain ⟨hcz166_0, hcz166_1, hfz166_0, hfz166_1⟩ := cz2 BK149.out; obtain ⟨Ao167, co167, eo167⟩ := Kd.R_slice HO237.out; subst eo167))
                        refine bodyPost_ret (results_ct rfl _ _ gb149 26 #[.int .i64 t234, .slice Ao167 t235.length co167] (0, 0) _ rfl oo Tryd.underlying26 rfl (by kernel_rfl)) rfl ?_
                        exact ⟨_, rfl, by (with_reducible repeat (first | apply Kd.R_alloc | apply Kd.R_drewN | apply Kd.R_drew)); exact Kd.R_mono (Kd.R_far (p := ⟨gb149, 1, none⟩) (Kd.R_far (p := ⟨gb149, 0, none⟩) (Kd.R_types HO237.out BK149.out (by decide)) (fun _ hk => hk.2) (.int .i64 t234)) (fun _ hk => hk.2) (.slice Ao167 t235.length co167)) (fun _ hk => trivial), BU HB⟩
                      · rw [if_neg c160] at H
                        have c160b0 := beq_eq_false_iff_ne.mpr c160
                        have c160b1 := bne_iff_ne.mpr c160
                        by_cases c168 : a0.toList = ([112, 97, 112, 112, 117, 115] : List UInt8)
                        · rw [if_pos c168] at H
                          have c168b0 := beq_iff_eq.mpr c168
                          have c168b1 := bne_eq_false_iff_eq.mpr c168
                          clear c168
                          obtain ⟨y238, hy238⟩ : ∃ y_ : List Int, y_ = (([5, 7, 11, 7, 11, 13] : List Int)) := ⟨_, rfl⟩
                          first | replace H := bs_ hy238 H | rw [← hy238] at H
                          have Ny238 := Fa.mk hy238
                          clear hy238
                          replace H := Option.bind_eq_some_iff.mp H
                          obtain ⟨⟨t241, t242⟩, A1690, H⟩ := H
                          dsimp only at H
                          have A169 := Fa.mk A1690
                          clear A1690
                          simp only [Option.some.injEq, Prod.mk.injEq] at H
                          obtain ⟨rfl, rfl, rfl⟩ := H
                          go_wp2_with (first | ((with_reducible refine gd 203 rfl ?_); refine Kd.R_lit (Kd.int .i64) _ 2 ?hg (N := 203) ?hd (xs := ([5, 7, 11, 7, 11, 13] : List Int)) (inner := [.int .i64 5, .int .i64 7, .int .i64 11, .int .i64 7, .int .i64 11, .int .i64 13]) (ok := fun _ => True) (okp := fun _ => True) ?hr ?hp (fun _ hk => hk) trivial (Below.refl _ _) (Nat.le_refl _) (by simp) ?_; (case hd => rfl); (case hg => rfl); (case hr => first | (go_simp; done) | (go_simp; rfl)); (case hp => exact (Reps.one (show Kd.M (Kd.int .i64) _ _ _ 5 [.int .i64 5] from rfl) (Reps.one (show Kd.M (Kd.int .i64) _ _ _ 7 [.int .i64 7] from rfl) (Reps.one (show Kd.M (Kd.int .i64) _ _ _ 11 [.int .i64 11] from rfl) (Reps.one (show Kd.M (Kd.int .i64) _ _ _ 7 [.int .i64 7] from rfl) (Reps.one (show Kd.M (Kd.int .i64) _ _ _ 11 [.int .i64 11] from rfl) (Reps.one (show Kd.M (Kd.int .i64) _ _ _ 13 [.int .i64 13] from rfl) (Reps.none _ _)))))))); intro v239 w170 ho171 hb hg_ hnew_; clear hg_ hnew_; (first | rw [← Ny238.out] at ho171 | (simp only [Int.reduceToNat] at ho171; rw [← Ny238.out] at ho171)); have HO240 := Fa.mk (Kd.R_lower ho171 (below_size (BU HB))); replace BK149 := Fa.mk (blk_below (bU BK149) hb); replace HB := Fa.mk (below_step (BU HB) hb); clear hb ho171; obtain ⟨Ao172, co172, eo172⟩ := Kd.R_slice HO240.out; subst eo172) | ((with_reducible refine gc 103 rfl ?_); refine gL 204 Tryd.func103 #[.int .i64 18, .slice Ao172 y238.length co172] rfl (by first | rfl | (simp only [mA, mC, mN]; rfl)) ?_; (with_reducible refine (spec_l01Jumps.calls kj40 18 _ _ y238 t241 t242 _ (rC HO240) ((Kd.R_reads' HO240.out).2.1) A169.out).mono ?_); rintro e w173 ⟨v243, rfl, ho0, hb⟩; refine ⟨_, rfl, ?_⟩; have HO244 := Fa.mk (Kd.R_lower (Kd.R_new' ho0 (Kd.R_lt (rU HO240))) (below_size (BU HB))); replace HO240 := Fa.mk (Kd.R_elder' (rU HO240) (Kd.R_base ho0) hb); replace BK149 := Fa.mk (blk_below (bU BK149) hb); replace HB := Fa.mk (below_step (BU HB) hb); obtain ⟨hcz174_0, hcz174_1, hfz174_0, hfz174_1⟩ := cz2 BK149.out; obtain ⟨Ao175, co175, eo175⟩ := Kd.R_slice HO244.out; subst eo175))
                          refine bodyPost_ret (results_ct rfl _ _ gb149 26 #[.int .i64 t241, .slice Ao175 t242.length co175] (0, 0) _ rfl oo Tryd.underlying26 rfl (by kernel_rfl)) rfl ?_
                          exact ⟨_, rfl, by (with_reducible repeat (first | apply Kd.R_alloc | apply Kd.R_drewN | apply Kd.R_drew)); exact Kd.R_mono (Kd.R_far (p := ⟨gb149, 1, none⟩) (Kd.R_far (p := ⟨gb149, 0, none⟩) (Kd.R_types HO244.out BK149.out (by decide)) (fun _ hk => hk.2) (.int .i64 t241)) (fun _ hk => hk.2) (.slice Ao175 t242.length co175)) (fun _ hk => trivial), BU HB⟩
                        · rw [if_neg c168] at H
                          have c168b0 := beq_eq_false_iff_ne.mpr c168
                          have c168b1 := bne_iff_ne.mpr c168
                          by_cases c176 : a0.toList = ([100, 101, 115, 97, 114, 103, 117, 101, 115] : List UInt8)
                          · rw [if_pos c176] at H
                            have c176b0 := beq_iff_eq.mpr c176
                            have c176b1 := bne_eq_false_iff_eq.mpr c176
                            clear c176
                            obtain ⟨y245, hy245⟩ : ∃ y_ : List Int, y_ = (([5, 15, 9, 11] : List Int)) := ⟨_, rfl⟩
                            first | replace H := bs_ hy245 H | rw [← hy245] at H
                            have Ny245 := Fa.mk hy245
                            clear hy245
                            replace H := Option.bind_eq_some_iff.mp H
                            obtain ⟨⟨t248, t249⟩, A1770, H⟩ := H
                            dsimp only at H
                            have A177 := Fa.mk A1770
                            clear A1770
                            simp only [Option.some.injEq, Prod.mk.injEq] at H
                            obtain ⟨rfl, rfl, rfl⟩ := H
                            go_wp2_with (first | ((with_reducible refine gd 207 rfl ?_); refine Kd.R_lit (Kd.int .i64) _ 2 ?hg (N := 207) ?hd (xs := ([5, 15, 9, 11] : List Int)) (inner := [.int .i64 5, .int .i64 15, .int .i64 9, .int .i64 11]) (ok := fun _ => True) (okp := fun _ => True) ?hr ?hp (fun _ hk => hk) trivial (Below.refl _ _) (Nat.le_refl _) (by simp) ?_; (case hd => rfl); (case hg => rfl); (case hr => first | (go_simp; done) | (go_simp; rfl)); (case hp => exact (Reps.one (show Kd.M (Kd.int .i64) _ _ _ 5 [.int .i64 5] from rfl) (Reps.one (show Kd.M (Kd.int .i64) _ _ _ 15 [.int .i64 15] from rfl) (Reps.one (show Kd.M (Kd.int .i64) _ _ _ 9 [.int .i64 9] from rfl) (Reps.one (show Kd.M (Kd.int .i64) _ _ _ 11 [.int .i64 11] from rfl) (Reps.none _ _)))))); intro v246 w178 ho179 hb hg_ hnew_; clear hg_ hnew_; (first | rw [← Ny245.out] at ho179 | (simp only [Int.reduceToNat] at ho179; rw [← Ny245.out] at ho179)); have HO247 := Fa.mk (Kd.R_lower ho179 (below_size (BU HB))); replace BK149 := Fa.mk (blk_below (bU BK149) hb); replace HB := Fa.mk (below_step (BU HB) hb); clear hb ho179; obtain ⟨Ao180, co180, eo180⟩ := Kd.R_slice HO247.out; subst eo180) | ((with_reducible refine gc 103 rfl ?_); refine gL 208 Tryd.func103 #[.int .i64 20, .slice Ao180 y245.length co180] rfl (by first | rfl | (simp only [mA, mC, mN]; rfl)) ?_; (with_reducible refine (spec_l01Jumps.calls kj40 20 _ _ y245 t248 t249 _ (rC HO247) ((Kd.R_reads' HO247.out).2.1) A177.out).mono ?_); rintro e w181 ⟨v250, rfl, ho0, hb⟩; refine ⟨_, rfl, ?_⟩; have HO251 := Fa.mk (Kd.R_lower (Kd.R_new' ho0 (Kd.R_lt (rU HO247))) (below_size (BU HB))); replace HO247 := Fa.mk (Kd.R_elder' (rU HO247) (Kd.R_base ho0) hb); replace BK149 := Fa.mk (blk_below (bU BK149) hb); replace HB := Fa.mk (below_step (BU HB) hb); obtain ⟨hcz182_0, hcz182_1, hfz182_0, hfz182_1⟩ := cz2 BK149.out; obtain ⟨Ao183, co183, eo183⟩ := Kd.R_slice HO251.out; subst eo183))
                            refine bodyPost_ret (results_ct rfl _ _ gb149 26 #[.int .i64 t248, .slice Ao183 t249.length co183] (0, 0) _ rfl oo Tryd.underlying26 rfl (by kernel_rfl)) rfl ?_
                            exact ⟨_, rfl, by (with_reducible repeat (first | apply Kd.R_alloc | apply Kd.R_drewN | apply Kd.R_drew)); exact Kd.R_mono (Kd.R_far (p := ⟨gb149, 1, none⟩) (Kd.R_far (p := ⟨gb149, 0, none⟩) (Kd.R_types HO251.out BK149.out (by decide)) (fun _ hk => hk.2) (.int .i64 t248)) (fun _ hk => hk.2) (.slice Ao183 t249.length co183)) (fun _ hk => trivial), BU HB⟩
                          · rw [if_neg c176] at H
                            have c176b0 := beq_eq_false_iff_ne.mpr c176
                            have c176b1 := bne_iff_ne.mpr c176
                            by_cases c184 : a0.toList = ([100, 111, 100, 101, 99, 97, 104, 101, 100, 114, 111, 110] : List UInt8)
                            · rw [if_pos c184] at H
                              have c184b0 := beq_iff_eq.mpr c184
                              have c184b1 := bne_eq_false_iff_eq.mpr c184
                              clear c184
                              obtain ⟨y252, hy252⟩ : ∃ y_ : List Int, y_ = (([10, 7, 4, 16, 13, 10, 16, 7, 13, 4] : List Int)) := ⟨_, rfl⟩
                              first | replace H := bs_ hy252 H | rw [← hy252] at H
                              have Ny252 := Fa.mk hy252
                              clear hy252
                              replace H := Option.bind_eq_some_iff.mp H
                              obtain ⟨⟨t255, t256⟩, A1850, H⟩ := H
                              dsimp only at H
                              have A185 := Fa.mk A1850
                              clear A1850
                              simp only [Option.some.injEq, Prod.mk.injEq] at H
                              obtain ⟨rfl, rfl, rfl⟩ := H
                              go_wp2_with (first | ((with_reducible refine gd 211 rfl ?_); refine Kd.R_lit (Kd.int .i64) _ 2 ?hg (N := 211) ?hd (xs := ([10, 7, 4, 16, 13, 10, 16, 7, 13, 4] : List Int)) (inner := [.int .i64 10, .int .i64 7, .int .i64 4, .int .i64 16, .int .i64 13, .int .i64 10, .int .i64 16, .int .i64 7, .int .i64 13, .int .i64 4]) (ok := fun _ => True) (okp := fun _ => True) ?hr ?hp (fun _ hk => hk) trivial (Below.refl _ _) (Nat.le_refl _) (by simp) ?_; (case hd => rfl); (case hg => rfl); (case hr => first | (go_simp; done) | (go_simp; rfl)); (case hp => exact (Reps.one (show Kd.M (Kd.int .i64) _ _ _ 10 [.int .i64 10] from rfl) (Reps.one (show Kd.M (Kd.int .i64) _ _ _ 7 [.int .i64 7] from rfl) (Reps.one (show Kd.M (Kd.int .i64) _ _ _ 4 [.int .i64 4] from rfl) (Reps.one (show Kd.M (Kd.int .i64) _ _ _ 16 [.int .i64 16] from rfl) (Reps.one (show Kd.M (Kd.int .i64) _ _ _ 13 [.int .i64 13] from rfl) (Reps.one (show Kd.M (Kd.int .i64) _ _ _ 10 [.int .i64 10] from rfl) (Reps.one (show Kd.M (Kd.int .i64) _ _ _ 16 [.int .i64 16] from rfl) (Reps.one (show Kd.M (Kd.int .i64) _ _ _ 7 [.int .i64 7] from rfl) (Reps.one (show Kd.M (Kd.int .i64) _ _ _ 13 [.int .i64 13] from rfl) (Reps.one (show Kd.M (Kd.int .i64) _ _ _ 4 [.int .i64 4] from rfl) (Reps.none _ _)))))))))))); intro v253 w186 ho187 hb hg_ hnew_; clear hg_ hnew_; (first | rw [← Ny252.out] at ho187 | (simp only [Int.reduceToNat] at ho187; rw [← Ny252.out] at ho187)); have HO254 := Fa.mk (Kd.R_lower ho187 (below_size (BU HB))); replace BK149 := Fa.mk (blk_below (bU BK149) hb); replace HB := Fa.mk (below_step (BU HB) hb); clear hb ho187; obtain ⟨Ao188, co188, eo188⟩ := Kd.R_slice HO254.out; subst eo188) | ((with_reducible refine gc 103 rfl ?_); refine gL 212 Tryd.func103 #[.int .i64 20, .slice Ao188 y252.length co188] rfl (by first | rfl | (simp only [mA, mC, mN]; rfl)) ?_; (with_reducible refine (spec_l01Jumps.calls kj40 20 _ _ y252 t255 t256 _ (rC HO254) ((Kd.R_reads' HO254.out).2.1) A185.out).mono ?_); rintro e w189 ⟨v257, rfl, ho0, hb⟩; refine ⟨_, rfl, ?_⟩; have HO258 := Fa.mk (Kd.R_lower (Kd.R_new' ho0 (Kd.R_lt (rU HO254))) (below_size (BU HB))); replace HO254 := Fa.mk (Kd.R_elder' (rU HO254) (Kd.R_base ho0) hb); replace BK149 := Fa.mk (blk_below (bU BK149) hb); replace HB := Fa.mk (below_step (BU HB) hb); obtain ⟨hcz190_0, hcz190_1, hfz190_0, hfz190_1⟩ := cz2 BK149.out; obtain ⟨Ao191, co191, eo191⟩ := Kd.R_slice HO258.out; subst eo191))
                              refine bodyPost_ret (results_ct rfl _ _ gb149 26 #[.int .i64 t255, .slice Ao191 t256.length co191] (0, 0) _ rfl oo Tryd.underlying26 rfl (by kernel_rfl)) rfl ?_
                              exact ⟨_, rfl, by (with_reducible repeat (first | apply Kd.R_alloc | apply Kd.R_drewN | apply Kd.R_drew)); exact Kd.R_mono (Kd.R_far (p := ⟨gb149, 1, none⟩) (Kd.R_far (p := ⟨gb149, 0, none⟩) (Kd.R_types HO258.out BK149.out (by decide)) (fun _ hk => hk.2) (.int .i64 t255)) (fun _ hk => hk.2) (.slice Ao191 t256.length co191)) (fun _ hk => trivial), BU HB⟩
                            · rw [if_neg c184] at H
                              have c184b0 := beq_eq_false_iff_ne.mpr c184
                              have c184b1 := bne_iff_ne.mpr c184
                              by_cases c192 : a0.toList = ([109, 99, 103, 101, 101] : List UInt8)
                              · rw [if_pos c192] at H
                                have c192b0 := beq_iff_eq.mpr c192
                                have c192b1 := bne_eq_false_iff_eq.mpr c192
                                clear c192
                                obtain ⟨y259, hy259⟩ : ∃ y_ : List Int, y_ = (([12, 7, 17] : List Int)) := ⟨_, rfl⟩
                                first | replace H := bs_ hy259 H | rw [← hy259] at H
                                have Ny259 := Fa.mk hy259
                                clear hy259
                                replace H := Option.bind_eq_some_iff.mp H
                                obtain ⟨⟨t262, t263⟩, A1930, H⟩ := H
                                dsimp only at H
                                have A193 := Fa.mk A1930
                                clear A1930
                                simp only [Option.some.injEq, Prod.mk.injEq] at H
                                obtain ⟨rfl, rfl, rfl⟩ := H
                                go_wp2_with (first | ((with_reducible refine gd 215 rfl ?_); refine Kd.R_lit (Kd.int .i64) _ 2 ?hg (N := 215) ?hd (xs := ([12, 7, 17] : List Int)) (inner := [.int .i64 12, .int .i64 7, .int .i64 17]) (ok := fun _ => True) (okp := fun _ => True) ?hr ?hp (fun _ hk => hk) trivial (Below.refl _ _) (Nat.le_refl _) (by simp) ?_; (case hd => rfl); (case hg => rfl); (case hr => first | (go_simp; done) | (go_simp; rfl)); (case hp => exact (Reps.one (show Kd.M (Kd.int .i64) _ _ _ 12 [.int .i64 12] from rfl) (Reps.one (show Kd.M (Kd.int .i64) _ _ _ 7 [.int .i64 7] from rfl) (Reps.one (show Kd.M (Kd.int .i64) _ _ _ 17 [.int .i64 17] from rfl) (Reps.none _ _))))); intro v260 w194 ho195 hb hg_ hnew_; clear hg_ hnew_; (first | rw [← Ny259.out] at ho195 | (simp only [Int.reduceToNat] at ho195; rw [← Ny259.out] at ho195)); have HO261 := Fa.mk (Kd.R_lower ho195 (below_size (BU HB))); replace BK149 := Fa.mk (blk_below (bU BK149) hb); replace HB := Fa.mk (below_step (BU HB) hb); clear hb ho195; obtain ⟨Ao196, co196, eo196⟩ := Kd.R_slice HO261.out; subst eo196) | ((with_reducible refine gc 103 rfl ?_); refine gL 216 Tryd.func103 #[.int .i64 24, .slice Ao196 y259.length co196] rfl (by first | rfl | (simp only [mA, mC, mN]; rfl)) ?_; (with_reducible refine (spec_l01Jumps.calls kj40 24 _ _ y259 t262 t263 _ (rC HO261) ((Kd.R_reads' HO261.out).2.1) A193.out).mono ?_); rintro e w197 ⟨v264, rfl, ho0, hb⟩; refine ⟨_, rfl, ?_⟩; have HO265 := Fa.mk (Kd.R_lower (Kd.R_new' ho0 (Kd.R_lt (rU HO261))) (below_size (BU HB))); replace HO261 := Fa.mk (Kd.R_elder' (rU HO261) (Kd.R_base ho0) hb); replace BK149 := Fa.mk (blk_below (bU BK149) hb); replace HB := Fa.mk (below_step (BU HB) hb); obtain ⟨hcz198_0, hcz198_1, hfz198_0, hfz198_1⟩ := cz2 BK149.out; obtain ⟨Ao199, co199, eo199⟩ := Kd.R_slice HO265.out; subst eo199))
                                refine bodyPost_ret (results_ct rfl _ _ gb149 26 #[.int .i64 t262, .slice Ao199 t263.length co199] (0, 0) _ rfl oo Tryd.underlying26 rfl (by kernel_rfl)) rfl ?_
                                exact ⟨_, rfl, by (with_reducible repeat (first | apply Kd.R_alloc | apply Kd.R_drewN | apply Kd.R_drew)); exact Kd.R_mono (Kd.R_far (p := ⟨gb149, 1, none⟩) (Kd.R_far (p := ⟨gb149, 0, none⟩) (Kd.R_types HO265.out BK149.out (by decide)) (fun _ hk => hk.2) (.int .i64 t262)) (fun _ hk => hk.2) (.slice Ao199 t263.length co199)) (fun _ hk => trivial), BU HB⟩
                              · rw [if_neg c192] at H
                                have c192b0 := beq_eq_false_iff_ne.mpr c192
                                have c192b1 := bne_iff_ne.mpr c192
                                by_cases c200 : a0.toList = ([116, 117, 116, 116, 101, 99, 111, 120, 101, 116, 101, 114] : List UInt8)
                                · rw [if_pos c200] at H
                                  have c200b0 := beq_iff_eq.mpr c200
                                  have c200b1 := bne_eq_false_iff_eq.mpr c200
                                  clear c200
                                  obtain ⟨y266, hy266⟩ : ∃ y_ : List Int, y_ = (([17, 21, 7, 23, 9, 13] : List Int)) := ⟨_, rfl⟩
                                  first | replace H := bs_ hy266 H | rw [← hy266] at H
                                  have Ny266 := Fa.mk hy266
                                  clear hy266
                                  replace H := Option.bind_eq_some_iff.mp H
                                  obtain ⟨⟨t269, t270⟩, A2010, H⟩ := H
                                  dsimp only at H
                                  have A201 := Fa.mk A2010
                                  clear A2010
                                  simp only [Option.some.injEq, Prod.mk.injEq] at H
                                  obtain ⟨rfl, rfl, rfl⟩ := H
                                  go_wp2_with (first | ((with_reducible refine gd 219 rfl ?_); refine Kd.R_lit (Kd.int .i64) _ 2 ?hg (N := 219) ?hd (xs := ([17, 21, 7, 23, 9, 13] : List Int)) (inner := [.int .i64 17, .int .i64 21, .int .i64 7, .int .i64 23, .int .i64 9, .int .i64 13]) (ok := fun _ => True) (okp := fun _ => True) ?hr ?hp (fun _ hk => hk) trivial (Below.refl _ _) (Nat.le_refl _) (by simp) ?_; (case hd => rfl); (case hg => rfl); (case hr => first | (go_simp; done) | (go_simp; rfl)); (case hp => exact (Reps.one (show Kd.M (Kd.int .i64) _ _ _ 17 [.int .i64 17] from rfl) (Reps.one (show Kd.M (Kd.int .i64) _ _ _ 21 [.int .i64 21] from rfl) (Reps.one (show Kd.M (Kd.int .i64) _ _ _ 7 [.int .i64 7] from rfl) (Reps.one (show Kd.M (Kd.int .i64) _ _ _ 23 [.int .i64 23] from rfl) (Reps.one (show Kd.M (Kd.int .i64) _ _ _ 9 [.int .i64 9] from rfl) (Reps.one (show Kd.M (Kd.int .i64) _ _ _ 13 [.int .i64 13] from rfl) (Reps.none _ _)))))))); intro v267 w202 ho203 hb hg_ hnew_; clear hg_ hnew_; (first | rw [← Ny266.out] at ho203 | (simp only [Int.reduceToNat] at ho203; rw [← Ny266.out] at ho203)); have HO268 := Fa.mk (Kd.R_lower ho203 (below_size (BU HB))); replace BK149 := Fa.mk (blk_below (bU BK149) hb); replace HB := Fa.mk (below_step (BU HB) hb); clear hb ho203; obtain ⟨Ao204, co204, eo204⟩ := Kd.R_slice HO268.out; subst eo204) | ((with_reducible refine gc 103 rfl ?_); refine gL 220 Tryd.func103 #[.int .i64 30, .slice Ao204 y266.length co204] rfl (by first | rfl | (simp only [mA, mC, mN]; rfl)) ?_; (with_reducible refine (spec_l01Jumps.calls kj40 30 _ _ y266 t269 t270 _ (rC HO268) ((Kd.R_reads' HO268.out).2.1) A201.out).mono ?_); rintro e w205 ⟨v271, rfl, ho0, hb⟩; refine ⟨_, rfl, ?_⟩; have HO272 := Fa.mk (Kd.R_lower (Kd.R_new' ho0 (Kd.R_lt (rU HO268))) (below_size (BU HB))); replace HO268 := Fa.mk (Kd.R_elder' (rU HO268) (Kd.R_base ho0) hb); replace BK149 := Fa.mk (blk_below (bU BK149) hb); replace HB := Fa.mk (below_step (BU HB) hb); obtain ⟨hcz206_0, hcz206_1, hfz206_0, hfz206_1⟩ := cz2 BK149.out; obtain ⟨Ao207, co207, eo207⟩ := Kd.R_slice HO272.out; subst eo207))
                                  refine bodyPost_ret (results_ct rfl _ _ gb149 26 #[.int .i64 t269, .slice Ao207 t270.length co207] (0, 0) _ rfl oo Tryd.underlying26 rfl (by kernel_rfl)) rfl ?_
                                  exact ⟨_, rfl, by (with_reducible repeat (first | apply Kd.R_alloc | apply Kd.R_drewN | apply Kd.R_drew)); exact Kd.R_mono (Kd.R_far (p := ⟨gb149, 1, none⟩) (Kd.R_far (p := ⟨gb149, 0, none⟩) (Kd.R_types HO272.out BK149.out (by decide)) (fun _ hk => hk.2) (.int .i64 t269)) (fun _ hk => hk.2) (.slice Ao207 t270.length co207)) (fun _ hk => trivial), BU HB⟩
                                · rw [if_neg c200] at H
                                  have c200b0 := beq_eq_false_iff_ne.mpr c200
                                  have c200b1 := bne_iff_ne.mpr c200
                                  simp only [Option.some.injEq, Prod.mk.injEq] at H
                                  obtain ⟨rfl, rfl, rfl⟩ := H
                                  obtain ⟨hcz208_0, hcz208_1, hfz208_0, hfz208_1⟩ := cz2 BK149.out
                                  go_wp2
                                  refine bodyPost_ret (results_ct rfl _ _ gb149 26 #[.int .i64 0, .slice none 0 0] (0, 0) _ rfl oo Tryd.underlying26 rfl (by kernel_rfl)) rfl ?_
                                  exact ⟨_, rfl, by first | exact Kd.R_nil _ _ _ _ _ | exact Kd.N_nil _ _ _ _ _ | exact Kd.V_nil _ _ _ _ _ | exact Kd.Q_nil _ _ _ _ _ | exact Kd.S_nil _ _ _ _ _, BU HB⟩

end Go.Proofs.YtockngphfpedkaaDoor.XFnDistances
