-- Written by this project's own program (mprint.py) by means of the kit's printer: with contracts of its own for the functions that the printer leaves out.
import Derived.Test.YthnjnhdalpcfpaaXFnExactNamedGraphx0
import Derived.Test.YthnjnhdalpcfpaaXFnExactNamedGraphx1
import Derived.Test.YthnjnhdalpcfpaaXFnExactNamedGraphx2
import Derived.Test.YthnjnhdalpcfpaaXFnExactNamedGraphx3
import Derived.Test.YthnjnhdalpcfpaaXFnExactNamedGraphx4
import Derived.Test.YthnjnhdalpcfpaaXFnExactNamedGraphx5
namespace Go.Proofs.Ythnjnhdalpcfpaa.XFnExactNamedGraph
open Go.RowKit Go.Proofs.YthnjnhdalpcfpaaW.PrintWords Go.Proofs.YthnjnhdalpcfpaaW.PrintLast Go.Proofs.YthnjnhdalpcfpaaW.PrintMore
attribute [local go_sem] max2_int min2_int max_two min_two max_three min_three max_four min_four   -- for this text's walks alone
set_option linter.unusedVariables false
set_option linter.unusedSimpArgs false

/-! ### spec_l01Named: function 64 -/
mutual
def spec_l01Named.j0 : Nat → ByteArray → ByteArray → Bool → Option (Int × List Int × Bool)
  | 0, _, _, _ => none
  | k + 1, x0, x17, x34 => if x34 = true then (if x0.toList = ([99, 108, 101, 98, 115, 99, 104] : List UInt8) then (spec_l01Named.j1 k 16) else (spec_l01Named.j1 k 8)) else (if x17.toList = ([112, 101, 116, 101, 114, 115, 101, 110] : List UInt8) then ((spec_l01Empty.f 10).bind fun bt205 => (spec_l01Named.l2 k 0 bt205.1 bt205.2)) else (if x17.toList = ([105, 99, 111, 115, 97, 104, 101, 100, 114, 111, 110] : List UInt8) then ((spec_l01Empty.f 12).bind fun bt213 => (spec_l01Named.l3 k 0 bt213.1 bt213.2)) else (if x17.toList = ([104, 111, 102, 102, 109, 97, 110, 115, 105, 110, 103, 108, 101, 116, 111, 110] : List UInt8) then ((spec_l01Empty.f 50).bind fun bt224 => (spec_l01Named.l4 k 0 bt224.1 bt224.2)) else (if x17.toList = ([104, 101, 97, 119, 111, 111, 100] : List UInt8) then ((spec_l01Jumps.f k 14 (([5, 9] : List Int))).bind fun bt235 => (some (bt235.1, bt235.2, true))) else (if x17.toList = ([109, 111, 101, 98, 105, 117, 115, 107, 97, 110, 116, 111, 114] : List UInt8) then ((spec_l01Jumps.f k 16 (([5, 11] : List Int))).bind fun bt242 => (some (bt242.1, bt242.2, true))) else (if x17.toList = ([112, 97, 112, 112, 117, 115] : List UInt8) then ((spec_l01Jumps.f k 18 (([5, 7, 11, 7, 11, 13] : List Int))).bind fun bt249 => (some (bt249.1, bt249.2, true))) else (if x17.toList = ([100, 101, 115, 97, 114, 103, 117, 101, 115] : List UInt8) then ((spec_l01Jumps.f k 20 (([5, 15, 9, 11] : List Int))).bind fun bt256 => (some (bt256.1, bt256.2, true))) else (if x17.toList = ([100, 111, 100, 101, 99, 97, 104, 101, 100, 114, 111, 110] : List UInt8) then ((spec_l01Jumps.f k 20 (([10, 7, 4, 16, 13, 10, 16, 7, 13, 4] : List Int))).bind fun bt263 => (some (bt263.1, bt263.2, true))) else (if x17.toList = ([109, 99, 103, 101, 101] : List UInt8) then ((spec_l01Jumps.f k 24 (([12, 7, 17] : List Int))).bind fun bt270 => (some (bt270.1, bt270.2, true))) else (if x17.toList = ([116, 117, 116, 116, 101, 99, 111, 120, 101, 116, 101, 114] : List UInt8) then ((spec_l01Jumps.f k 30 (([17, 21, 7, 23, 9, 13] : List Int))).bind fun bt277 => (some (bt277.1, bt277.2, true))) else (some (0, ([] : List Int), false))))))))))))
def spec_l01Named.j1 : Nat → Int → Option (Int × List Int × Bool)
  | 0, _ => none
  | k + 1, x4 => (spec_l01Empty.f x4).bind fun bt198 => (spec_l01Named.l0 k x4 0 bt198.1 bt198.2)
def spec_l01Named.l0 : Nat → Int → Int → Int → List Int → Option (Int × List Int × Bool)
  | 0, _, _, _, _ => none
  | k + 1, x4, x6, x203000, x203001 => if x6 < x4 then (spec_l01Named.l1 k x4 x6 1 x203000 x203001) else (some (x203000, x203001, true))
def spec_l01Named.l1 : Nat → Int → Int → Int → Int → List Int → Option (Int × List Int × Bool)
  | 0, _, _, _, _, _ => none
  | k + 1, x4, x6, x7, x203000, x203001 => if x7 < x4 then ((spec_l01Put.f x203000 x203001 x6 (Go.bits .xor .i64 x6 x7)).bind fun t203 => (spec_l01Named.l1 k x4 x6 (wrap64 (2 * x7)) x203000 t203)) else (if x4 = 16 then ((spec_l01Put.f x203000 x203001 x6 (wrap64 (15 - x6))).bind fun t204 => (spec_l01Named.l0 k x4 (wrap64 (x6 + 1)) x203000 t204)) else (spec_l01Named.l0 k x4 (wrap64 (x6 + 1)) x203000 x203001))
def spec_l01Named.l2 : Nat → Int → Int → List Int → Option (Int × List Int × Bool)
  | 0, _, _, _ => none
  | k + 1, x9, x210000, x210001 => if x9 < 5 then ((spec_l01Put.f x210000 x210001 x9 (Int.tmod (wrap64 (x9 + 1)) 5)).bind fun t210 => ((spec_l01Put.f x210000 t210 x9 (wrap64 (x9 + 5))).bind fun t211 => ((spec_l01Put.f x210000 t211 (wrap64 (x9 + 5)) (wrap64 ((Int.tmod (wrap64 (x9 + 2)) 5) + 5))).bind fun t212 => (spec_l01Named.l2 k (wrap64 (x9 + 1)) x210000 t212)))) else (some (x210000, x210001, true))
def spec_l01Named.l3 : Nat → Int → Int → List Int → Option (Int × List Int × Bool)
  | 0, _, _, _ => none
  | k + 1, x11, x218000, x218001 => if x11 < 5 then ((spec_l01Put.f x218000 x218001 0 (wrap64 (1 + x11))).bind fun t218 => ((spec_l01Put.f x218000 t218 11 (wrap64 (6 + x11))).bind fun t219 => ((spec_l01Put.f x218000 t219 (wrap64 (1 + x11)) (wrap64 (1 + (Int.tmod (wrap64 (x11 + 1)) 5)))).bind fun t220 => ((spec_l01Put.f x218000 t220 (wrap64 (6 + x11)) (wrap64 (6 + (Int.tmod (wrap64 (x11 + 1)) 5)))).bind fun t221 => ((spec_l01Put.f x218000 t221 (wrap64 (1 + x11)) (wrap64 (6 + x11))).bind fun t222 => ((spec_l01Put.f x218000 t222 (wrap64 (1 + x11)) (wrap64 (6 + (Int.tmod (wrap64 (x11 + 1)) 5)))).bind fun t223 => (spec_l01Named.l3 k (wrap64 (x11 + 1)) x218000 t223))))))) else (some (x218000, x218001, true))
def spec_l01Named.l4 : Nat → Int → Int → List Int → Option (Int × List Int × Bool)
  | 0, _, _, _ => none
  | k + 1, x14, x229000, x229001 => if x14 < 5 then (spec_l01Named.l5 k x14 0 x229000 x229001) else (some (x229000, x229001, true))
def spec_l01Named.l5 : Nat → Int → Int → Int → List Int → Option (Int × List Int × Bool)
  | 0, _, _, _, _ => none
  | k + 1, x14, x15, x229000, x229001 => if x15 < 5 then ((spec_l01Put.f x229000 x229001 (wrap64 ((wrap64 (5 * x14)) + x15)) (wrap64 ((wrap64 (5 * x14)) + (Int.tmod (wrap64 (x15 + 1)) 5)))).bind fun t229 => ((spec_l01Put.f x229000 t229 (wrap64 ((wrap64 (25 + (wrap64 (5 * x14)))) + x15)) (wrap64 ((wrap64 (25 + (wrap64 (5 * x14)))) + (Int.tmod (wrap64 (x15 + 2)) 5)))).bind fun t230 => (spec_l01Named.l6 k x14 x15 0 x229000 t230))) else (spec_l01Named.l4 k (wrap64 (x14 + 1)) x229000 x229001)
def spec_l01Named.l6 : Nat → Int → Int → Int → Int → List Int → Option (Int × List Int × Bool)
  | 0, _, _, _, _, _ => none
  | k + 1, x14, x15, x16, x229000, x229001 => if x16 < 5 then ((spec_l01Put.f x229000 x229001 (wrap64 ((wrap64 (5 * x14)) + x15)) (wrap64 ((wrap64 (25 + (wrap64 (5 * x16)))) + (Int.tmod (wrap64 ((wrap64 (x14 * x16)) + x15)) 5)))).bind fun t231 => (spec_l01Named.l6 k x14 x15 (wrap64 (x16 + 1)) x229000 t231)) else (spec_l01Named.l5 k x14 (wrap64 (x15 + 1)) x229000 x229001)
end
def spec_l01Named.f (k : Nat) (a0 : ByteArray) : Option (Int × List Int × Bool) := if a0.toList = ([107, 52] : List UInt8) then ((spec_l01Empty.f 4).bind fun bt158 => ((spec_l01Complement.f k bt158.1 bt158.2).bind fun bt162 => (some (bt162.1, bt162.2, true)))) else (if a0.toList = ([107, 53] : List UInt8) then ((spec_l01Empty.f 5).bind fun bt166 => ((spec_l01Complement.f k bt166.1 bt166.2).bind fun bt170 => (some (bt170.1, bt170.2, true)))) else (if a0.toList = ([107, 51, 51] : List UInt8) then ((spec_l01Empty.f 3).bind fun bt174 => ((spec_l01Complement.f k bt174.1 bt174.2).bind fun bt178 => ((spec_l01Empty.f 3).bind fun bt182 => ((spec_l01Complement.f k bt182.1 bt182.2).bind fun bt186 => ((spec_l01Beside.f k bt178.1 bt178.2 bt186.1 bt186.2).bind fun bt190 => ((spec_l01Complement.f k bt190.1 bt190.2).bind fun bt194 => (some (bt194.1, bt194.2, true)))))))) else (if a0.toList = ([99, 117, 98, 101] : List UInt8) then (spec_l01Named.j0 k a0 a0 (a0.toList == ([99, 117, 98, 101] : List UInt8))) else (spec_l01Named.j0 k a0 a0 (a0.toList == ([99, 108, 101, 98, 115, 99, 104] : List UInt8))))))
theorem spec_l01Named.mono_l : ∀ k, (∀ y0 y1 y2, LeO (spec_l01Named.j0 k y0 y1 y2) (spec_l01Named.j0 (k + 1) y0 y1 y2)) ∧ (∀ y0, LeO (spec_l01Named.j1 k y0) (spec_l01Named.j1 (k + 1) y0)) ∧ (∀ y0 y1 y2 y3, LeO (spec_l01Named.l0 k y0 y1 y2 y3) (spec_l01Named.l0 (k + 1) y0 y1 y2 y3)) ∧ (∀ y0 y1 y2 y3 y4, LeO (spec_l01Named.l1 k y0 y1 y2 y3 y4) (spec_l01Named.l1 (k + 1) y0 y1 y2 y3 y4)) ∧ (∀ y0 y1 y2, LeO (spec_l01Named.l2 k y0 y1 y2) (spec_l01Named.l2 (k + 1) y0 y1 y2)) ∧ (∀ y0 y1 y2, LeO (spec_l01Named.l3 k y0 y1 y2) (spec_l01Named.l3 (k + 1) y0 y1 y2)) ∧ (∀ y0 y1 y2, LeO (spec_l01Named.l4 k y0 y1 y2) (spec_l01Named.l4 (k + 1) y0 y1 y2)) ∧ (∀ y0 y1 y2 y3, LeO (spec_l01Named.l5 k y0 y1 y2 y3) (spec_l01Named.l5 (k + 1) y0 y1 y2 y3)) ∧ (∀ y0 y1 y2 y3 y4, LeO (spec_l01Named.l6 k y0 y1 y2 y3 y4) (spec_l01Named.l6 (k + 1) y0 y1 y2 y3 y4))
  | 0 => ⟨fun _ _ _ r h => by simp [spec_l01Named.j0] at h, fun _ r h => by simp [spec_l01Named.j1] at h, fun _ _ _ _ r h => by simp [spec_l01Named.l0] at h, fun _ _ _ _ _ r h => by simp [spec_l01Named.l1] at h, fun _ _ _ r h => by simp [spec_l01Named.l2] at h, fun _ _ _ r h => by simp [spec_l01Named.l3] at h, fun _ _ _ r h => by simp [spec_l01Named.l4] at h, fun _ _ _ _ r h => by simp [spec_l01Named.l5] at h, fun _ _ _ _ _ r h => by simp [spec_l01Named.l6] at h⟩
  | k + 1 => by
    obtain ⟨ih0, ih1, ih2, ih3, ih4, ih5, ih6, ih7, ih8⟩ := spec_l01Named.mono_l k
    refine ⟨?_, ?_, ?_, ?_, ?_, ?_, ?_, ?_, ?_⟩
    · intro y0 y1 y2
      unfold spec_l01Named.j0
      repeat' first
      | (with_reducible exact ih0 _ _ _)
      | (with_reducible exact ih1 _)
      | (with_reducible exact ih2 _ _ _ _)
      | (with_reducible exact ih3 _ _ _ _ _)
      | (with_reducible exact ih4 _ _ _)
      | (with_reducible exact ih5 _ _ _)
      | (with_reducible exact ih6 _ _ _)
      | (with_reducible exact ih7 _ _ _ _)
      | (with_reducible exact ih8 _ _ _ _ _)
      | (with_reducible exact spec_l01Beside.mono _ _ _ _ _)
      | (with_reducible exact spec_l01Complement.mono _ _ _)
      | (with_reducible exact spec_l01Jumps.mono _ _ _)
      | (with_reducible exact LeO.refl _)
      | (with_reducible exact LeO.none _)
      | (with_reducible refine LeO.ite ?_ ?_)
      | (with_reducible refine LeO.bind ?_ (fun _ => ?_))
      | exact ih0 _ _ _
      | exact ih1 _
      | exact ih2 _ _ _ _
      | exact ih3 _ _ _ _ _
      | exact ih4 _ _ _
      | exact ih5 _ _ _
      | exact ih6 _ _ _
      | exact ih7 _ _ _ _
      | exact ih8 _ _ _ _ _
      | exact spec_l01Beside.mono _ _ _ _ _
      | exact spec_l01Complement.mono _ _ _
      | exact spec_l01Jumps.mono _ _ _
      | exact LeO.none _
      | refine LeO.ite ?_ ?_
      | refine LeO.bind ?_ (fun _ => ?_)
    · intro y0
      unfold spec_l01Named.j1
      repeat' first
      | (with_reducible exact ih0 _ _ _)
      | (with_reducible exact ih1 _)
      | (with_reducible exact ih2 _ _ _ _)
      | (with_reducible exact ih3 _ _ _ _ _)
      | (with_reducible exact ih4 _ _ _)
      | (with_reducible exact ih5 _ _ _)
      | (with_reducible exact ih6 _ _ _)
      | (with_reducible exact ih7 _ _ _ _)
      | (with_reducible exact ih8 _ _ _ _ _)
      | (with_reducible exact spec_l01Beside.mono _ _ _ _ _)
      | (with_reducible exact spec_l01Complement.mono _ _ _)
      | (with_reducible exact spec_l01Jumps.mono _ _ _)
      | (with_reducible exact LeO.refl _)
      | (with_reducible exact LeO.none _)
      | (with_reducible refine LeO.ite ?_ ?_)
      | (with_reducible refine LeO.bind ?_ (fun _ => ?_))
      | exact ih0 _ _ _
      | exact ih1 _
      | exact ih2 _ _ _ _
      | exact ih3 _ _ _ _ _
      | exact ih4 _ _ _
      | exact ih5 _ _ _
      | exact ih6 _ _ _
      | exact ih7 _ _ _ _
      | exact ih8 _ _ _ _ _
      | exact spec_l01Beside.mono _ _ _ _ _
      | exact spec_l01Complement.mono _ _ _
      | exact spec_l01Jumps.mono _ _ _
      | exact LeO.none _
      | refine LeO.ite ?_ ?_
      | refine LeO.bind ?_ (fun _ => ?_)
    · intro y0 y1 y2 y3
      unfold spec_l01Named.l0
      repeat' first
      | (with_reducible exact ih0 _ _ _)
      | (with_reducible exact ih1 _)
      | (with_reducible exact ih2 _ _ _ _)
      | (with_reducible exact ih3 _ _ _ _ _)
      | (with_reducible exact ih4 _ _ _)
      | (with_reducible exact ih5 _ _ _)
      | (with_reducible exact ih6 _ _ _)
      | (with_reducible exact ih7 _ _ _ _)
      | (with_reducible exact ih8 _ _ _ _ _)
      | (with_reducible exact spec_l01Beside.mono _ _ _ _ _)
      | (with_reducible exact spec_l01Complement.mono _ _ _)
      | (with_reducible exact spec_l01Jumps.mono _ _ _)
      | (with_reducible exact LeO.refl _)
      | (with_reducible exact LeO.none _)
      | (with_reducible refine LeO.ite ?_ ?_)
      | (with_reducible refine LeO.bind ?_ (fun _ => ?_))
      | exact ih0 _ _ _
      | exact ih1 _
      | exact ih2 _ _ _ _
      | exact ih3 _ _ _ _ _
      | exact ih4 _ _ _
      | exact ih5 _ _ _
      | exact ih6 _ _ _
      | exact ih7 _ _ _ _
      | exact ih8 _ _ _ _ _
      | exact spec_l01Beside.mono _ _ _ _ _
      | exact spec_l01Complement.mono _ _ _
      | exact spec_l01Jumps.mono _ _ _
      | exact LeO.none _
      | refine LeO.ite ?_ ?_
      | refine LeO.bind ?_ (fun _ => ?_)
    · intro y0 y1 y2 y3 y4
      unfold spec_l01Named.l1
      repeat' first
      | (with_reducible exact ih0 _ _ _)
      | (with_reducible exact ih1 _)
      | (with_reducible exact ih2 _ _ _ _)
      | (with_reducible exact ih3 _ _ _ _ _)
      | (with_reducible exact ih4 _ _ _)
      | (with_reducible exact ih5 _ _ _)
      | (with_reducible exact ih6 _ _ _)
      | (with_reducible exact ih7 _ _ _ _)
      | (with_reducible exact ih8 _ _ _ _ _)
      | (with_reducible exact spec_l01Beside.mono _ _ _ _ _)
      | (with_reducible exact spec_l01Complement.mono _ _ _)
      | (with_reducible exact spec_l01Jumps.mono _ _ _)
      | (with_reducible exact LeO.refl _)
      | (with_reducible exact LeO.none _)
      | (with_reducible refine LeO.ite ?_ ?_)
      | (with_reducible refine LeO.bind ?_ (fun _ => ?_))
      | exact ih0 _ _ _
      | exact ih1 _
      | exact ih2 _ _ _ _
      | exact ih3 _ _ _ _ _
      | exact ih4 _ _ _
      | exact ih5 _ _ _
      | exact ih6 _ _ _
      | exact ih7 _ _ _ _
      | exact ih8 _ _ _ _ _
      | exact spec_l01Beside.mono _ _ _ _ _
      | exact spec_l01Complement.mono _ _ _
      | exact spec_l01Jumps.mono _ _ _
      | exact LeO.none _
      | refine LeO.ite ?_ ?_
      | refine LeO.bind ?_ (fun _ => ?_)
    · intro y0 y1 y2
      unfold spec_l01Named.l2
      repeat' first
      | (with_reducible exact ih0 _ _ _)
      | (with_reducible exact ih1 _)
      | (with_reducible exact ih2 _ _ _ _)
      | (with_reducible exact ih3 _ _ _ _ _)
      | (with_reducible exact ih4 _ _ _)
      | (with_reducible exact ih5 _ _ _)
      | (with_reducible exact ih6 _ _ _)
      | (with_reducible exact ih7 _ _ _ _)
      | (with_reducible exact ih8 _ _ _ _ _)
      | (with_reducible exact spec_l01Beside.mono _ _ _ _ _)
      | (with_reducible exact spec_l01Complement.mono _ _ _)
      | (with_reducible exact spec_l01Jumps.mono _ _ _)
      | (with_reducible exact LeO.refl _)
      | (with_reducible exact LeO.none _)
      | (with_reducible refine LeO.ite ?_ ?_)
      | (with_reducible refine LeO.bind ?_ (fun _ => ?_))
      | exact ih0 _ _ _
      | exact ih1 _
      | exact ih2 _ _ _ _
      | exact ih3 _ _ _ _ _
      | exact ih4 _ _ _
      | exact ih5 _ _ _
      | exact ih6 _ _ _
      | exact ih7 _ _ _ _
      | exact ih8 _ _ _ _ _
      | exact spec_l01Beside.mono _ _ _ _ _
      | exact spec_l01Complement.mono _ _ _
      | exact spec_l01Jumps.mono _ _ _
      | exact LeO.none _
      | refine LeO.ite ?_ ?_
      | refine LeO.bind ?_ (fun _ => ?_)
    · intro y0 y1 y2
      unfold spec_l01Named.l3
      repeat' first
      | (with_reducible exact ih0 _ _ _)
      | (with_reducible exact ih1 _)
      | (with_reducible exact ih2 _ _ _ _)
      | (with_reducible exact ih3 _ _ _ _ _)
      | (with_reducible exact ih4 _ _ _)
      | (with_reducible exact ih5 _ _ _)
      | (with_reducible exact ih6 _ _ _)
      | (with_reducible exact ih7 _ _ _ _)
      | (with_reducible exact ih8 _ _ _ _ _)
      | (with_reducible exact spec_l01Beside.mono _ _ _ _ _)
      | (with_reducible exact spec_l01Complement.mono _ _ _)
      | (with_reducible exact spec_l01Jumps.mono _ _ _)
      | (with_reducible exact LeO.refl _)
      | (with_reducible exact LeO.none _)
      | (with_reducible refine LeO.ite ?_ ?_)
      | (with_reducible refine LeO.bind ?_ (fun _ => ?_))
      | exact ih0 _ _ _
      | exact ih1 _
      | exact ih2 _ _ _ _
      | exact ih3 _ _ _ _ _
      | exact ih4 _ _ _
      | exact ih5 _ _ _
      | exact ih6 _ _ _
      | exact ih7 _ _ _ _
      | exact ih8 _ _ _ _ _
      | exact spec_l01Beside.mono _ _ _ _ _
      | exact spec_l01Complement.mono _ _ _
      | exact spec_l01Jumps.mono _ _ _
      | exact LeO.none _
      | refine LeO.ite ?_ ?_
      | refine LeO.bind ?_ (fun _ => ?_)
    · intro y0 y1 y2
      unfold spec_l01Named.l4
      repeat' first
      | (with_reducible exact ih0 _ _ _)
      | (with_reducible exact ih1 _)
      | (with_reducible exact ih2 _ _ _ _)
      | (with_reducible exact ih3 _ _ _ _ _)
      | (with_reducible exact ih4 _ _ _)
      | (with_reducible exact ih5 _ _ _)
      | (with_reducible exact ih6 _ _ _)
      | (with_reducible exact ih7 _ _ _ _)
      | (with_reducible exact ih8 _ _ _ _ _)
      | (with_reducible exact spec_l01Beside.mono _ _ _ _ _)
      | (with_reducible exact spec_l01Complement.mono _ _ _)
      | (with_reducible exact spec_l01Jumps.mono _ _ _)
      | (with_reducible exact LeO.refl _)
      | (with_reducible exact LeO.none _)
      | (with_reducible refine LeO.ite ?_ ?_)
      | (with_reducible refine LeO.bind ?_ (fun _ => ?_))
      | exact ih0 _ _ _
      | exact ih1 _
      | exact ih2 _ _ _ _
      | exact ih3 _ _ _ _ _
      | exact ih4 _ _ _
      | exact ih5 _ _ _
      | exact ih6 _ _ _
      | exact ih7 _ _ _ _
      | exact ih8 _ _ _ _ _
      | exact spec_l01Beside.mono _ _ _ _ _
      | exact spec_l01Complement.mono _ _ _
      | exact spec_l01Jumps.mono _ _ _
      | exact LeO.none _
      | refine LeO.ite ?_ ?_
      | refine LeO.bind ?_ (fun _ => ?_)
    · intro y0 y1 y2 y3
      unfold spec_l01Named.l5
      repeat' first
      | (with_reducible exact ih0 _ _ _)
      | (with_reducible exact ih1 _)
      | (with_reducible exact ih2 _ _ _ _)
      | (with_reducible exact ih3 _ _ _ _ _)
      | (with_reducible exact ih4 _ _ _)
      | (with_reducible exact ih5 _ _ _)
      | (with_reducible exact ih6 _ _ _)
      | (with_reducible exact ih7 _ _ _ _)
      | (with_reducible exact ih8 _ _ _ _ _)
      | (with_reducible exact spec_l01Beside.mono _ _ _ _ _)
      | (with_reducible exact spec_l01Complement.mono _ _ _)
      | (with_reducible exact spec_l01Jumps.mono _ _ _)
      | (with_reducible exact LeO.refl _)
      | (with_reducible exact LeO.none _)
      | (with_reducible refine LeO.ite ?_ ?_)
      | (with_reducible refine LeO.bind ?_ (fun _ => ?_))
      | exact ih0 _ _ _
      | exact ih1 _
      | exact ih2 _ _ _ _
      | exact ih3 _ _ _ _ _
      | exact ih4 _ _ _
      | exact ih5 _ _ _
      | exact ih6 _ _ _
      | exact ih7 _ _ _ _
      | exact ih8 _ _ _ _ _
      | exact spec_l01Beside.mono _ _ _ _ _
      | exact spec_l01Complement.mono _ _ _
      | exact spec_l01Jumps.mono _ _ _
      | exact LeO.none _
      | refine LeO.ite ?_ ?_
      | refine LeO.bind ?_ (fun _ => ?_)
    · intro y0 y1 y2 y3 y4
      unfold spec_l01Named.l6
      repeat' first
      | (with_reducible exact ih0 _ _ _)
      | (with_reducible exact ih1 _)
      | (with_reducible exact ih2 _ _ _ _)
      | (with_reducible exact ih3 _ _ _ _ _)
      | (with_reducible exact ih4 _ _ _)
      | (with_reducible exact ih5 _ _ _)
      | (with_reducible exact ih6 _ _ _)
      | (with_reducible exact ih7 _ _ _ _)
      | (with_reducible exact ih8 _ _ _ _ _)
      | (with_reducible exact spec_l01Beside.mono _ _ _ _ _)
      | (with_reducible exact spec_l01Complement.mono _ _ _)
      | (with_reducible exact spec_l01Jumps.mono _ _ _)
      | (with_reducible exact LeO.refl _)
      | (with_reducible exact LeO.none _)
      | (with_reducible refine LeO.ite ?_ ?_)
      | (with_reducible refine LeO.bind ?_ (fun _ => ?_))
      | exact ih0 _ _ _
      | exact ih1 _
      | exact ih2 _ _ _ _
      | exact ih3 _ _ _ _ _
      | exact ih4 _ _ _
      | exact ih5 _ _ _
      | exact ih6 _ _ _
      | exact ih7 _ _ _ _
      | exact ih8 _ _ _ _ _
      | exact spec_l01Beside.mono _ _ _ _ _
      | exact spec_l01Complement.mono _ _ _
      | exact spec_l01Jumps.mono _ _ _
      | exact LeO.none _
      | refine LeO.ite ?_ ?_
      | refine LeO.bind ?_ (fun _ => ?_)
theorem spec_l01Named.mono : ∀ a0 k, LeO (spec_l01Named.f k a0) (spec_l01Named.f (k + 1) a0) := by
  intro a0 k
  obtain ⟨ih0, ih1, ih2, ih3, ih4, ih5, ih6, ih7, ih8⟩ := spec_l01Named.mono_l k
  unfold spec_l01Named.f
  repeat' first
      | (with_reducible exact ih0 _ _ _)
      | (with_reducible exact ih1 _)
      | (with_reducible exact ih2 _ _ _ _)
      | (with_reducible exact ih3 _ _ _ _ _)
      | (with_reducible exact ih4 _ _ _)
      | (with_reducible exact ih5 _ _ _)
      | (with_reducible exact ih6 _ _ _)
      | (with_reducible exact ih7 _ _ _ _)
      | (with_reducible exact ih8 _ _ _ _ _)
      | (with_reducible exact spec_l01Beside.mono _ _ _ _ _)
      | (with_reducible exact spec_l01Complement.mono _ _ _)
      | (with_reducible exact spec_l01Jumps.mono _ _ _)
      | (with_reducible exact LeO.refl _)
      | (with_reducible exact LeO.none _)
      | (with_reducible refine LeO.ite ?_ ?_)
      | (with_reducible refine LeO.bind ?_ (fun _ => ?_))
      | exact ih0 _ _ _
      | exact ih1 _
      | exact ih2 _ _ _ _
      | exact ih3 _ _ _ _ _
      | exact ih4 _ _ _
      | exact ih5 _ _ _
      | exact ih6 _ _ _
      | exact ih7 _ _ _ _
      | exact ih8 _ _ _ _ _
      | exact spec_l01Beside.mono _ _ _ _ _
      | exact spec_l01Complement.mono _ _ _
      | exact spec_l01Jumps.mono _ _ _
      | exact LeO.none _
      | refine LeO.ite ?_ ?_
      | refine LeO.bind ?_ (fun _ => ?_)
set_option maxHeartbeats 8000000 in
set_option maxRecDepth 100000 in
theorem spec_l01Named.calls (k : Nat) (a0 : ByteArray) (r1 : Int) (r2 : List Int) (r3 : Bool) (w : World) (h : spec_l01Named.f k a0 = some (r1, r2, r3)) :
    Calls Try.prog 64 #[.string a0] w fun e w' => ∃ v1_ : Value, e = .returned (.tuple #[.agg #[.int .i64 r1, v1_], .bool r3]) ∧ Kd.R (Kd.int .i64) 2 w' w.heap.size (fun _ => True) v1_ r2 ∧ Below w.heap.size w w' := by
  have hu34 := Try.underlying34
  have HB := Aside0.mk (Below.refl w.heap.size w)
  have H : (if a0.toList = ([107, 52] : List UInt8) then ((spec_l01Empty.f 4).bind fun bt158 => ((spec_l01Complement.f k bt158.1 bt158.2).bind fun bt162 => (some (bt162.1, bt162.2, true)))) else (if a0.toList = ([107, 53] : List UInt8) then ((spec_l01Empty.f 5).bind fun bt166 => ((spec_l01Complement.f k bt166.1 bt166.2).bind fun bt170 => (some (bt170.1, bt170.2, true)))) else (if a0.toList = ([107, 51, 51] : List UInt8) then ((spec_l01Empty.f 3).bind fun bt174 => ((spec_l01Complement.f k bt174.1 bt174.2).bind fun bt178 => ((spec_l01Empty.f 3).bind fun bt182 => ((spec_l01Complement.f k bt182.1 bt182.2).bind fun bt186 => ((spec_l01Beside.f k bt178.1 bt178.2 bt186.1 bt186.2).bind fun bt190 => ((spec_l01Complement.f k bt190.1 bt190.2).bind fun bt194 => (some (bt194.1, bt194.2, true)))))))) else (if a0.toList = ([99, 117, 98, 101] : List UInt8) then (spec_l01Named.j0 k a0 a0 (a0.toList == ([99, 117, 98, 101] : List UInt8))) else (spec_l01Named.j0 k a0 a0 (a0.toList == ([99, 108, 101, 98, 115, 99, 104] : List UInt8))))))) = some (r1, r2, r3) := h
  clear h
  by_cases c2 : a0.toList = ([107, 52] : List UInt8)
  · rw [if_pos c2] at H
    have c2b0 : (a0.toList == ([107, 52] : List UInt8)) = true := beq_iff_eq.mpr c2
    have c2b1 : (a0.toList != ([107, 52] : List UInt8)) = false := bne_eq_false_iff_eq.mpr c2
    clear c2
    replace H := Option.bind_eq_some_iff.mp H
    obtain ⟨⟨t158, t159⟩, A30, H⟩ := H
    replace H : ((spec_l01Complement.f k t158 t159).bind fun bt162 => (some (bt162.1, bt162.2, true))) = some (r1, r2, r3) := H
    have A3 := Aside0.mk A30
    clear A30
    replace H := Option.bind_eq_some_iff.mp H
    obtain ⟨⟨t162, t163⟩, A40, H⟩ := H
    replace H : (some (t162, t163, true)) = some (r1, r2, r3) := H
    have A4 := Aside0.mk A40
    clear A40
    simp only [Option.some.injEq, Prod.mk.injEq] at H
    obtain ⟨rfl, rfl, rfl⟩ := H
    go_enter Try.func64, Try.ntmps64
    go_wp2_with (first | ((with_reducible refine gate_dst (N := 2) rfl ?_); refine box_event ?hg (N := 2) ?hd (cs := #[.int .i64 0, .slice none 0 0]) (t := 34) ?hr ?_; (case hd => rfl); (case hg => rfl); (case hr => first | (go_simp; done) | (go_simp; rfl)); intro gb157 hg w5 hbox hb; have n0_ := Aside0.mk (below_step (by repeat (first | (with_reducible first | exact HB.out | apply below_alloc | apply pw_below_drewN | apply below_drew1) | exact HB.out)) hb); have n1_ := Aside0.mk (hbox); have n2_ := Aside0.mk ((by rw [hg]; exact (below_size (by repeat (first | (with_reducible first | exact HB.out | apply below_alloc | apply pw_below_drewN | apply below_drew1) | exact HB.out))) : w.heap.size ≤ gb157)); have n3_ := Aside0.mk ((by rw [hg]; exact (below_size (by repeat (first | (with_reducible first | exact HB.out | apply below_alloc | apply pw_below_drewN | apply below_drew1) | exact HB.out))) : w.heap.size ≤ gb157)); clear HB; have HB := n0_; have BK157 := n1_; have GW157 := n2_; have GE157 := n3_; clear n0_ n1_ n2_ n3_; clear hb hbox hg) | ((with_reducible refine gate_callee (f := 48) rfl ?_); refine goesL_ (some 20) rfl rfl Try.func48 (by kernel_rfl) rfl #[.int .i64 4] rfl (by (try simp only [List.map_toArray, List.map_cons, List.map_nil]); first | done | rfl | (simp only [List.length_drop, List.length_take]; rfl)) ?_; (with_reducible refine (spec_l01Empty.calls 4 t158 t159 _ A3.out).mono ?_); rintro e w6 ⟨v160, rfl, ho0, hb⟩; refine ⟨_, rfl, ?_⟩; have n0_ := Aside0.mk (Kd.R_lower ho0 (below_size (by repeat (first | (with_reducible first | exact HB.out | apply below_alloc | apply pw_below_drewN | apply below_drew1 | refine below_set ?_ GE157.out) | exact HB.out)))); have n1_ := Aside0.mk (blk_below (g := gb157) (o := .cells #[.int .i64 0, .slice none 0 0] 34 (0, 0)) (by (with_reducible repeat (first | refine blk_drewN ?_ _ | refine blk_drew ?_ | refine blk_alloc ?_ _)); exact BK157.out) hb); have n2_ := Aside0.mk (below_step (by repeat (first | (with_reducible first | exact HB.out | apply below_alloc | apply pw_below_drewN | apply below_drew1 | refine below_set ?_ GE157.out) | exact HB.out)) hb); clear BK157; clear HB; have HO161 := n0_; have BK157 := n1_; have HB := n2_; clear n0_ n1_ n2_; (try clear hb); (try clear hb2); (try clear hk); (try clear hi); (try clear ho0); obtain ⟨Ao7, co7, eo7⟩ := Kd.R_slice HO161.out; subst eo7) | ((with_reducible refine gate_callee (f := 83) rfl ?_); refine goesL_ (some 21) rfl rfl Try.func83 (by kernel_rfl) rfl #[.agg #[.int .i64 t158, .slice Ao7 t159.length co7]] rfl (by (try simp only [List.map_toArray, List.map_cons, List.map_nil]); first | done | rfl | (simp only [List.length_drop, List.length_take]; rfl)) ?_; (with_reducible refine (spec_l01Complement.calls k t158 _ _ t159 t162 t163 _ ?side1 ?side2 A4.out).mono ?_); (case side1 => repeat (first | exact (Kd.R_reads' HO161.out).2.2 | (with_reducible refine Kd.C_alloc ?_ _) | (with_reducible refine Kd.C_drewN ?_ _) | (with_reducible refine Kd.C_drew ?_))); (case side2 => exact (Kd.R_reads' HO161.out).2.1); rintro e w8 ⟨v164, rfl, ho0, hb⟩; refine ⟨_, rfl, ?_⟩; have n0_ := Aside0.mk (Kd.R_elder' (by (with_reducible repeat (first | apply Kd.R_alloc | apply Kd.R_drewN | apply Kd.R_drew)); exact HO161.out) (Kd.R_base ho0) hb); have n1_ := Aside0.mk (Kd.R_lower (Kd.R_new' ho0 (Kd.R_lt (by (with_reducible repeat (first | apply Kd.R_alloc | apply Kd.R_drewN | apply Kd.R_drew)); exact HO161.out))) (below_size (by repeat (first | (with_reducible first | exact HB.out | apply below_alloc | apply pw_below_drewN | apply below_drew1 | refine below_set ?_ GE157.out) | exact HB.out)))); have n2_ := Aside0.mk (blk_below (g := gb157) (o := .cells #[.int .i64 0, .slice none 0 0] 34 (0, 0)) (by (with_reducible repeat (first | refine blk_drewN ?_ _ | refine blk_drew ?_ | refine blk_alloc ?_ _)); exact BK157.out) hb); have n3_ := Aside0.mk (below_step (by repeat (first | (with_reducible first | exact HB.out | apply below_alloc | apply pw_below_drewN | apply below_drew1 | refine below_set ?_ GE157.out) | exact HB.out)) hb); clear HO161; clear BK157; clear HB; have HO161 := n0_; have HO165 := n1_; have BK157 := n2_; have HB := n3_; clear n0_ n1_ n2_ n3_; (try clear hb); (try clear hb2); (try clear hk); (try clear hi); (try clear ho0); have hcz9_0 : w8.cell? ⟨gb157, 0, none⟩ = some (.int .i64 0) := (blk_cell BK157.out 0).trans rfl; have hcz9_1 : w8.cell? ⟨gb157, 1, none⟩ = some (.slice none 0 0) := (blk_cell BK157.out 1).trans rfl; have hfz9_0 := blk_frozen BK157.out 0; have hfz9_1 := blk_frozen BK157.out 1; obtain ⟨Ao10, co10, eo10⟩ := Kd.R_slice HO165.out; subst eo10))
    refine bodyPost_ret (results_ct rfl _ _ gb157 34 #[.int .i64 t162, .slice Ao10 t163.length co10] (0, 0) _ rfl (by (with_reducible repeat (first | refine blk_drewN ?_ _ | refine blk_drew ?_ | refine blk_alloc ?_ _)); refine blk_put (cs := #[.int .i64 t162, .slice none 0 0]) ?_ 1 _ rfl; (with_reducible repeat (first | refine blk_drewN ?_ _ | refine blk_drew ?_ | refine blk_alloc ?_ _)); refine blk_put (cs := #[.int .i64 0, .slice none 0 0]) ?_ 0 _ rfl; (with_reducible repeat (first | refine blk_drewN ?_ _ | refine blk_drew ?_ | refine blk_alloc ?_ _)); exact BK157.out) Try.underlying34 rfl (by kernel_rfl)) rfl ?_
    exact ⟨_, by first | rfl | (simp [errW_none, errW_some] <;> rfl) | (simp [*, errW_none, errW_some] <;> rfl), by (with_reducible repeat (first | apply Kd.R_alloc | apply Kd.R_drewN | apply Kd.R_drew)); exact Kd.R_mono (Kd.R_far (p := ⟨gb157, 1, none⟩) (Kd.R_far (p := ⟨gb157, 0, none⟩) (Kd.R_types HO165.out BK157.out (by decide)) (fun _ hk => hk.2) (.int .i64 t162)) (fun _ hk => hk.2) (.slice Ao10 t163.length co10)) (fun _ hk => trivial), by repeat (first | (with_reducible first | exact HB.out | apply below_alloc | apply pw_below_drewN | apply below_drew1 | refine below_set ?_ GE157.out) | exact HB.out)⟩
  · rw [if_neg c2] at H
    have c2b0 : (a0.toList == ([107, 52] : List UInt8)) = false := beq_eq_false_iff_ne.mpr c2
    have c2b1 : (a0.toList != ([107, 52] : List UInt8)) = true := bne_iff_ne.mpr c2
    by_cases c11 : a0.toList = ([107, 53] : List UInt8)
    · rw [if_pos c11] at H
      have c11b0 : (a0.toList == ([107, 53] : List UInt8)) = true := beq_iff_eq.mpr c11
      have c11b1 : (a0.toList != ([107, 53] : List UInt8)) = false := bne_eq_false_iff_eq.mpr c11
      clear c11
      replace H := Option.bind_eq_some_iff.mp H
      obtain ⟨⟨t166, t167⟩, A120, H⟩ := H
      replace H : ((spec_l01Complement.f k t166 t167).bind fun bt170 => (some (bt170.1, bt170.2, true))) = some (r1, r2, r3) := H
      have A12 := Aside0.mk A120
      clear A120
      replace H := Option.bind_eq_some_iff.mp H
      obtain ⟨⟨t170, t171⟩, A130, H⟩ := H
      replace H : (some (t170, t171, true)) = some (r1, r2, r3) := H
      have A13 := Aside0.mk A130
      clear A130
      simp only [Option.some.injEq, Prod.mk.injEq] at H
      obtain ⟨rfl, rfl, rfl⟩ := H
      go_enter Try.func64, Try.ntmps64
      go_wp2_with (first | ((with_reducible refine gate_dst (N := 2) rfl ?_); refine box_event ?hg (N := 2) ?hd (cs := #[.int .i64 0, .slice none 0 0]) (t := 34) ?hr ?_; (case hd => rfl); (case hg => rfl); (case hr => first | (go_simp; done) | (go_simp; rfl)); intro gb157 hg w14 hbox hb; have n0_ := Aside0.mk (below_step (by repeat (first | (with_reducible first | exact HB.out | apply below_alloc | apply pw_below_drewN | apply below_drew1) | exact HB.out)) hb); have n1_ := Aside0.mk (hbox); have n2_ := Aside0.mk ((by rw [hg]; exact (below_size (by repeat (first | (with_reducible first | exact HB.out | apply below_alloc | apply pw_below_drewN | apply below_drew1) | exact HB.out))) : w.heap.size ≤ gb157)); have n3_ := Aside0.mk ((by rw [hg]; exact (below_size (by repeat (first | (with_reducible first | exact HB.out | apply below_alloc | apply pw_below_drewN | apply below_drew1) | exact HB.out))) : w.heap.size ≤ gb157)); clear HB; have HB := n0_; have BK157 := n1_; have GW157 := n2_; have GE157 := n3_; clear n0_ n1_ n2_ n3_; clear hb hbox hg) | ((with_reducible refine gate_callee (f := 48) rfl ?_); refine goesL_ (some 24) rfl rfl Try.func48 (by kernel_rfl) rfl #[.int .i64 5] rfl (by (try simp only [List.map_toArray, List.map_cons, List.map_nil]); first | done | rfl | (simp only [List.length_drop, List.length_take]; rfl)) ?_; (with_reducible refine (spec_l01Empty.calls 5 t166 t167 _ A12.out).mono ?_); rintro e w15 ⟨v168, rfl, ho0, hb⟩; refine ⟨_, rfl, ?_⟩; have n0_ := Aside0.mk (Kd.R_lower ho0 (below_size (by repeat (first | (with_reducible first | exact HB.out | apply below_alloc | apply pw_below_drewN | apply below_drew1 | refine below_set ?_ GE157.out) | exact HB.out)))); have n1_ := Aside0.mk (blk_below (g := gb157) (o := .cells #[.int .i64 0, .slice none 0 0] 34 (0, 0)) (by (with_reducible repeat (first | refine blk_drewN ?_ _ | refine blk_drew ?_ | refine blk_alloc ?_ _)); exact BK157.out) hb); have n2_ := Aside0.mk (below_step (by repeat (first | (with_reducible first | exact HB.out | apply below_alloc | apply pw_below_drewN | apply below_drew1 | refine below_set ?_ GE157.out) | exact HB.out)) hb); clear BK157; clear HB; have HO169 := n0_; have BK157 := n1_; have HB := n2_; clear n0_ n1_ n2_; (try clear hb); (try clear hb2); (try clear hk); (try clear hi); (try clear ho0); obtain ⟨Ao16, co16, eo16⟩ := Kd.R_slice HO169.out; subst eo16) | ((with_reducible refine gate_callee (f := 83) rfl ?_); refine goesL_ (some 25) rfl rfl Try.func83 (by kernel_rfl) rfl #[.agg #[.int .i64 t166, .slice Ao16 t167.length co16]] rfl (by (try simp only [List.map_toArray, List.map_cons, List.map_nil]); first | done | rfl | (simp only [List.length_drop, List.length_take]; rfl)) ?_; (with_reducible refine (spec_l01Complement.calls k t166 _ _ t167 t170 t171 _ ?side1 ?side2 A13.out).mono ?_); (case side1 => repeat (first | exact (Kd.R_reads' HO169.out).2.2 | (with_reducible refine Kd.C_alloc ?_ _) | (with_reducible refine Kd.C_drewN ?_ _) | (with_reducible refine Kd.C_drew ?_))); (case side2 => exact (Kd.R_reads' HO169.out).2.1); rintro e w17 ⟨v172, rfl, ho0, hb⟩; refine ⟨_, rfl, ?_⟩; have n0_ := Aside0.mk (Kd.R_elder' (by (with_reducible repeat (first | apply Kd.R_alloc | apply Kd.R_drewN | apply Kd.R_drew)); exact HO169.out) (Kd.R_base ho0) hb); have n1_ := Aside0.mk (Kd.R_lower (Kd.R_new' ho0 (Kd.R_lt (by (with_reducible repeat (first | apply Kd.R_alloc | apply Kd.R_drewN | apply Kd.R_drew)); exact HO169.out))) (below_size (by repeat (first | (with_reducible first | exact HB.out | apply below_alloc | apply pw_below_drewN | apply below_drew1 | refine below_set ?_ GE157.out) | exact HB.out)))); have n2_ := Aside0.mk (blk_below (g := gb157) (o := .cells #[.int .i64 0, .slice none 0 0] 34 (0, 0)) (by (with_reducible repeat (first | refine blk_drewN ?_ _ | refine blk_drew ?_ | refine blk_alloc ?_ _)); exact BK157.out) hb); have n3_ := Aside0.mk (below_step (by repeat (first | (with_reducible first | exact HB.out | apply below_alloc | apply pw_below_drewN | apply below_drew1 | refine below_set ?_ GE157.out) | exact HB.out)) hb); clear HO169; clear BK157; clear HB; have HO169 := n0_; have HO173 := n1_; have BK157 := n2_; have HB := n3_; clear n0_ n1_ n2_ n3_; (try clear hb); (try clear hb2); (try clear hk); (try clear hi); (try clear ho0); have hcz18_0 : w17.cell? ⟨gb157, 0, none⟩ = some (.int .i64 0) := (blk_cell BK157.out 0).trans rfl; have hcz18_1 : w17.cell? ⟨gb157, 1, none⟩ = some (.slice none 0 0) := (blk_cell BK157.out 1).trans rfl; have hfz18_0 := blk_frozen BK157.out 0; have hfz18_1 := blk_frozen BK157.out 1; obtain ⟨Ao19, co19, eo19⟩ := Kd.R_slice HO173.out; subst eo19))
      refine bodyPost_ret (results_ct rfl _ _ gb157 34 #[.int .i64 t170, .slice Ao19 t171.length co19] (0, 0) _ rfl (by (with_reducible repeat (first | refine blk_drewN ?_ _ | refine blk_drew ?_ | refine blk_alloc ?_ _)); refine blk_put (cs := #[.int .i64 t170, .slice none 0 0]) ?_ 1 _ rfl; (with_reducible repeat (first | refine blk_drewN ?_ _ | refine blk_drew ?_ | refine blk_alloc ?_ _)); refine blk_put (cs := #[.int .i64 0, .slice none 0 0]) ?_ 0 _ rfl; (with_reducible repeat (first | refine blk_drewN ?_ _ | refine blk_drew ?_ | refine blk_alloc ?_ _)); exact BK157.out) Try.underlying34 rfl (by kernel_rfl)) rfl ?_
      exact ⟨_, by first | rfl | (simp [errW_none, errW_some] <;> rfl) | (simp [*, errW_none, errW_some] <;> rfl), by (with_reducible repeat (first | apply Kd.R_alloc | apply Kd.R_drewN | apply Kd.R_drew)); exact Kd.R_mono (Kd.R_far (p := ⟨gb157, 1, none⟩) (Kd.R_far (p := ⟨gb157, 0, none⟩) (Kd.R_types HO173.out BK157.out (by decide)) (fun _ hk => hk.2) (.int .i64 t170)) (fun _ hk => hk.2) (.slice Ao19 t171.length co19)) (fun _ hk => trivial), by repeat (first | (with_reducible first | exact HB.out | apply below_alloc | apply pw_below_drewN | apply below_drew1 | refine below_set ?_ GE157.out) | exact HB.out)⟩
    · rw [if_neg c11] at H
      have c11b0 : (a0.toList == ([107, 53] : List UInt8)) = false := beq_eq_false_iff_ne.mpr c11
      have c11b1 : (a0.toList != ([107, 53] : List UInt8)) = true := bne_iff_ne.mpr c11
      by_cases c20 : a0.toList = ([107, 51, 51] : List UInt8)
      · rw [if_pos c20] at H
        have c20b0 : (a0.toList == ([107, 51, 51] : List UInt8)) = true := beq_iff_eq.mpr c20
        have c20b1 : (a0.toList != ([107, 51, 51] : List UInt8)) = false := bne_eq_false_iff_eq.mpr c20
        clear c20
        replace H := Option.bind_eq_some_iff.mp H
        obtain ⟨⟨t174, t175⟩, A210, H⟩ := H
        replace H : ((spec_l01Complement.f k t174 t175).bind fun bt178 => ((spec_l01Empty.f 3).bind fun bt182 => ((spec_l01Complement.f k bt182.1 bt182.2).bind fun bt186 => ((spec_l01Beside.f k bt178.1 bt178.2 bt186.1 bt186.2).bind fun bt190 => ((spec_l01Complement.f k bt190.1 bt190.2).bind fun bt194 => (some (bt194.1, bt194.2, true))))))) = some (r1, r2, r3) := H
        have A21 := Aside0.mk A210
        clear A210
        replace H := Option.bind_eq_some_iff.mp H
        obtain ⟨⟨t178, t179⟩, A220, H⟩ := H
        replace H : ((spec_l01Empty.f 3).bind fun bt182 => ((spec_l01Complement.f k bt182.1 bt182.2).bind fun bt186 => ((spec_l01Beside.f k t178 t179 bt186.1 bt186.2).bind fun bt190 => ((spec_l01Complement.f k bt190.1 bt190.2).bind fun bt194 => (some (bt194.1, bt194.2, true)))))) = some (r1, r2, r3) := H
        have A22 := Aside0.mk A220
        clear A220
        replace H := Option.bind_eq_some_iff.mp H
        obtain ⟨⟨t182, t183⟩, A230, H⟩ := H
        replace H : ((spec_l01Complement.f k t182 t183).bind fun bt186 => ((spec_l01Beside.f k t178 t179 bt186.1 bt186.2).bind fun bt190 => ((spec_l01Complement.f k bt190.1 bt190.2).bind fun bt194 => (some (bt194.1, bt194.2, true))))) = some (r1, r2, r3) := H
        have A23 := Aside0.mk A230
        clear A230
        replace H := Option.bind_eq_some_iff.mp H
        obtain ⟨⟨t186, t187⟩, A240, H⟩ := H
        replace H : ((spec_l01Beside.f k t178 t179 t186 t187).bind fun bt190 => ((spec_l01Complement.f k bt190.1 bt190.2).bind fun bt194 => (some (bt194.1, bt194.2, true)))) = some (r1, r2, r3) := H
        have A24 := Aside0.mk A240
        clear A240
        replace H := Option.bind_eq_some_iff.mp H
        obtain ⟨⟨t190, t191⟩, A250, H⟩ := H
        replace H : ((spec_l01Complement.f k t190 t191).bind fun bt194 => (some (bt194.1, bt194.2, true))) = some (r1, r2, r3) := H
        have A25 := Aside0.mk A250
        clear A250
        replace H := Option.bind_eq_some_iff.mp H
        obtain ⟨⟨t194, t195⟩, A260, H⟩ := H
        replace H : (some (t194, t195, true)) = some (r1, r2, r3) := H
        have A26 := Aside0.mk A260
        clear A260
        simp only [Option.some.injEq, Prod.mk.injEq] at H
        obtain ⟨rfl, rfl, rfl⟩ := H
        go_enter Try.func64, Try.ntmps64
        go_wp2_with (first | ((with_reducible refine gate_dst (N := 2) rfl ?_); refine box_event ?hg (N := 2) ?hd (cs := #[.int .i64 0, .slice none 0 0]) (t := 34) ?hr ?_; (case hd => rfl); (case hg => rfl); (case hr => first | (go_simp; done) | (go_simp; rfl)); intro gb157 hg w27 hbox hb; have n0_ := Aside0.mk (below_step (by repeat (first | (with_reducible first | exact HB.out | apply below_alloc | apply pw_below_drewN | apply below_drew1) | exact HB.out)) hb); have n1_ := Aside0.mk (hbox); have n2_ := Aside0.mk ((by rw [hg]; exact (below_size (by repeat (first | (with_reducible first | exact HB.out | apply below_alloc | apply pw_below_drewN | apply below_drew1) | exact HB.out))) : w.heap.size ≤ gb157)); have n3_ := Aside0.mk ((by rw [hg]; exact (below_size (by repeat (first | (with_reducible first | exact HB.out | apply below_alloc | apply pw_below_drewN | apply below_drew1) | exact HB.out))) : w.heap.size ≤ gb157)); clear HB; have HB := n0_; have BK157 := n1_; have GW157 := n2_; have GE157 := n3_; clear n0_ n1_ n2_ n3_; clear hb hbox hg) | ((with_reducible refine gate_callee (f := 48) rfl ?_); refine goesL_ (some 28) rfl rfl Try.func48 (by kernel_rfl) rfl #[.int .i64 3] rfl (by (try simp only [List.map_toArray, List.map_cons, List.map_nil]); first | done | rfl | (simp only [List.length_drop, List.length_take]; rfl)) ?_; (with_reducible refine (spec_l01Empty.calls 3 t174 t175 _ A21.out).mono ?_); rintro e w28 ⟨v176, rfl, ho0, hb⟩; refine ⟨_, rfl, ?_⟩; have n0_ := Aside0.mk (Kd.R_lower ho0 (below_size (by repeat (first | (with_reducible first | exact HB.out | apply below_alloc | apply pw_below_drewN | apply below_drew1 | refine below_set ?_ GE157.out) | exact HB.out)))); have n1_ := Aside0.mk (blk_below (g := gb157) (o := .cells #[.int .i64 0, .slice none 0 0] 34 (0, 0)) (by (with_reducible repeat (first | refine blk_drewN ?_ _ | refine blk_drew ?_ | refine blk_alloc ?_ _)); exact BK157.out) hb); have n2_ := Aside0.mk (below_step (by repeat (first | (with_reducible first | exact HB.out | apply below_alloc | apply pw_below_drewN | apply below_drew1 | refine below_set ?_ GE157.out) | exact HB.out)) hb); clear BK157; clear HB; have HO177 := n0_; have BK157 := n1_; have HB := n2_; clear n0_ n1_ n2_; (try clear hb); (try clear hb2); (try clear hk); (try clear hi); (try clear ho0); obtain ⟨Ao29, co29, eo29⟩ := Kd.R_slice HO177.out; subst eo29) | ((with_reducible refine gate_callee (f := 83) rfl ?_); refine goesL_ (some 29) rfl rfl Try.func83 (by kernel_rfl) rfl #[.agg #[.int .i64 t174, .slice Ao29 t175.length co29]] rfl (by (try simp only [List.map_toArray, List.map_cons, List.map_nil]); first | done | rfl | (simp only [List.length_drop, List.length_take]; rfl)) ?_; (with_reducible refine (spec_l01Complement.calls k t174 _ _ t175 t178 t179 _ ?side1 ?side2 A22.out).mono ?_); (case side1 => repeat (first | exact (Kd.R_reads' HO177.out).2.2 | (with_reducible refine Kd.C_alloc ?_ _) | (with_reducible refine Kd.C_drewN ?_ _) | (with_reducible refine Kd.C_drew ?_))); (case side2 => exact (Kd.R_reads' HO177.out).2.1); rintro e w30 ⟨v180, rfl, ho0, hb⟩; refine ⟨_, rfl, ?_⟩; have n0_ := Aside0.mk (Kd.R_elder' (by (with_reducible repeat (first | apply Kd.R_alloc | apply Kd.R_drewN | apply Kd.R_drew)); exact HO177.out) (Kd.R_base ho0) hb); have n1_ := Aside0.mk (Kd.R_lower (Kd.R_new' ho0 (Kd.R_lt (by (with_reducible repeat (first | apply Kd.R_alloc | apply Kd.R_drewN | apply Kd.R_drew)); exact HO177.out))) (below_size (by repeat (first | (with_reducible first | exact HB.out | apply below_alloc | apply pw_below_drewN | apply below_drew1 | refine below_set ?_ GE157.out) | exact HB.out)))); have n2_ := Aside0.mk (blk_below (g := gb157) (o := .cells #[.int .i64 0, .slice none 0 0] 34 (0, 0)) (by (with_reducible repeat (first | refine blk_drewN ?_ _ | refine blk_drew ?_ | refine blk_alloc ?_ _)); exact BK157.out) hb); have n3_ := Aside0.mk (below_step (by repeat (first | (with_reducible first | exact HB.out | apply below_alloc | apply pw_below_drewN | apply below_drew1 | refine below_set ?_ GE157.out) | exact HB.out)) hb); clear HO177; clear BK157; clear HB; have HO177 := n0_; have HO181 := n1_; have BK157 := n2_; have HB := n3_; clear n0_ n1_ n2_ n3_; (try clear hb); (try clear hb2); (try clear hk); (try clear hi); (try clear ho0)) | ((with_reducible refine gate_callee (f := 48) rfl ?_); refine goesL_ (some 30) rfl rfl Try.func48 (by kernel_rfl) rfl #[.int .i64 3] rfl (by (try simp only [List.map_toArray, List.map_cons, List.map_nil]); first | done | rfl | (simp only [List.length_drop, List.length_take]; rfl)) ?_; (with_reducible refine (spec_l01Empty.calls 3 t182 t183 _ A23.out).mono ?_); rintro e w31 ⟨v184, rfl, ho0, hb⟩; refine ⟨_, rfl, ?_⟩; have n0_ := Aside0.mk (Kd.R_elder' (by (with_reducible repeat (first | apply Kd.R_alloc | apply Kd.R_drewN | apply Kd.R_drew)); exact HO177.out) (Kd.R_base ho0) hb); have n1_ := Aside0.mk (Kd.R_elder' (by (with_reducible repeat (first | apply Kd.R_alloc | apply Kd.R_drewN | apply Kd.R_drew)); exact HO181.out) (Kd.R_base ho0) hb); have n2_ := Aside0.mk (Kd.R_lower (Kd.R_new' (Kd.R_new' ho0 (Kd.R_lt (by (with_reducible repeat (first | apply Kd.R_alloc | apply Kd.R_drewN | apply Kd.R_drew)); exact HO177.out))) (Kd.R_lt (by (with_reducible repeat (first | apply Kd.R_alloc | apply Kd.R_drewN | apply Kd.R_drew)); exact HO181.out))) (below_size (by repeat (first | (with_reducible first | exact HB.out | apply below_alloc | apply pw_below_drewN | apply below_drew1 | refine below_set ?_ GE157.out) | exact HB.out)))); have n3_ := Aside0.mk (blk_below (g := gb157) (o := .cells #[.int .i64 0, .slice none 0 0] 34 (0, 0)) (by (with_reducible repeat (first | refine blk_drewN ?_ _ | refine blk_drew ?_ | refine blk_alloc ?_ _)); exact BK157.out) hb); have n4_ := Aside0.mk (below_step (by repeat (first | (with_reducible first | exact HB.out | apply below_alloc | apply pw_below_drewN | apply below_drew1 | refine below_set ?_ GE157.out) | exact HB.out)) hb); clear HO177; clear HO181; clear BK157; clear HB; have HO177 := n0_; have HO181 := n1_; have HO185 := n2_; have BK157 := n3_; have HB := n4_; clear n0_ n1_ n2_ n3_ n4_; (try clear hb); (try clear hb2); (try clear hk); (try clear hi); (try clear ho0); obtain ⟨Ao32, co32, eo32⟩ := Kd.R_slice HO185.out; subst eo32) | ((with_reducible refine gate_callee (f := 83) rfl ?_); refine goesL_ (some 31) rfl rfl Try.func83 (by kernel_rfl) rfl #[.agg #[.int .i64 t182, .slice Ao32 t183.length co32]] rfl (by (try simp only [List.map_toArray, List.map_cons, List.map_nil]); first | done | rfl | (simp only [List.length_drop, List.length_take]; rfl)) ?_; (with_reducible refine (spec_l01Complement.calls k t182 _ _ t183 t186 t187 _ ?side1 ?side2 A24.out).mono ?_); (case side1 => repeat (first | exact (Kd.R_reads' HO185.out).2.2 | (with_reducible refine Kd.C_alloc ?_ _) | (with_reducible refine Kd.C_drewN ?_ _) | (with_reducible refine Kd.C_drew ?_))); (case side2 => exact (Kd.R_reads' HO185.out).2.1); rintro e w33 ⟨v188, rfl, ho0, hb⟩; refine ⟨_, rfl, ?_⟩; have n0_ := Aside0.mk (Kd.R_elder' (by (with_reducible repeat (first | apply Kd.R_alloc | apply Kd.R_drewN | apply Kd.R_drew)); exact HO177.out) (Kd.R_base ho0) hb); have n1_ := Aside0.mk (Kd.R_elder' (by (with_reducible repeat (first | apply Kd.R_alloc | apply Kd.R_drewN | apply Kd.R_drew)); exact HO181.out) (Kd.R_base ho0) hb); have n2_ := Aside0.mk (Kd.R_elder' (by (with_reducible repeat (first | apply Kd.R_alloc | apply Kd.R_drewN | apply Kd.R_drew)); exact HO185.out) (Kd.R_base ho0) hb); have n3_ := Aside0.mk (Kd.R_lower (Kd.R_new' (Kd.R_new' (Kd.R_new' ho0 (Kd.R_lt (by (with_reducible repeat (first | apply Kd.R_alloc | apply Kd.R_drewN | apply Kd.R_drew)); exact HO177.out))) (Kd.R_lt (by (with_reducible repeat (first | apply Kd.R_alloc | apply Kd.R_drewN | apply Kd.R_drew)); exact HO181.out))) (Kd.R_lt (by (with_reducible repeat (first | apply Kd.R_alloc | apply Kd.R_drewN | apply Kd.R_drew)); exact HO185.out))) (below_size (by repeat (first | (with_reducible first | exact HB.out | apply below_alloc | apply pw_below_drewN | apply below_drew1 | refine below_set ?_ GE157.out) | exact HB.out)))); have n4_ := Aside0.mk (blk_below (g := gb157) (o := .cells #[.int .i64 0, .slice none 0 0] 34 (0, 0)) (by (with_reducible repeat (first | refine blk_drewN ?_ _ | refine blk_drew ?_ | refine blk_alloc ?_ _)); exact BK157.out) hb); have n5_ := Aside0.mk (below_step (by repeat (first | (with_reducible first | exact HB.out | apply below_alloc | apply pw_below_drewN | apply below_drew1 | refine below_set ?_ GE157.out) | exact HB.out)) hb); clear HO177; clear HO181; clear HO185; clear BK157; clear HB; have HO177 := n0_; have HO181 := n1_; have HO185 := n2_; have HO189 := n3_; have BK157 := n4_; have HB := n5_; clear n0_ n1_ n2_ n3_ n4_ n5_; (try clear hb); (try clear hb2); (try clear hk); (try clear hi); (try clear ho0); obtain ⟨Ao34, co34, eo34⟩ := Kd.R_slice HO181.out; subst eo34; obtain ⟨Ao35, co35, eo35⟩ := Kd.R_slice HO189.out; subst eo35) | ((with_reducible refine gate_callee (f := 54) rfl ?_); refine goesL_ (some 32) rfl rfl Try.func54 (by kernel_rfl) rfl #[.agg #[.int .i64 t178, .slice Ao34 t179.length co34], .agg #[.int .i64 t186, .slice Ao35 t187.length co35]] rfl (by (try simp only [List.map_toArray, List.map_cons, List.map_nil]); first | done | rfl | (simp only [List.length_drop, List.length_take]; rfl)) ?_; (with_reducible refine (spec_l01Beside.calls k t178 _ _ t179 t186 _ _ t187 t190 t191 _ ?side1 ?side2 ?side3 ?side4 A25.out).mono ?_); (case side1 => repeat (first | exact (Kd.R_reads' HO181.out).2.2 | (with_reducible refine Kd.C_alloc ?_ _) | (with_reducible refine Kd.C_drewN ?_ _) | (with_reducible refine Kd.C_drew ?_))); (case side2 => exact (Kd.R_reads' HO181.out).2.1); (case side3 => repeat (first | exact (Kd.R_reads' HO189.out).2.2 | (with_reducible refine Kd.C_alloc ?_ _) | (with_reducible refine Kd.C_drewN ?_ _) | (with_reducible refine Kd.C_drew ?_))); (case side4 => exact (Kd.R_reads' HO189.out).2.1); rintro e w36 ⟨v192, rfl, ho0, hb⟩; refine ⟨_, rfl, ?_⟩; have n0_ := Aside0.mk (Kd.R_elder' (by (with_reducible repeat (first | apply Kd.R_alloc | apply Kd.R_drewN | apply Kd.R_drew)); exact HO177.out) (Kd.R_base ho0) hb); have n1_ := Aside0.mk (Kd.R_elder' (by (with_reducible repeat (first | apply Kd.R_alloc | apply Kd.R_drewN | apply Kd.R_drew)); exact HO181.out) (Kd.R_base ho0) hb); have n2_ := Aside0.mk (Kd.R_elder' (by (with_reducible repeat (first | apply Kd.R_alloc | apply Kd.R_drewN | apply Kd.R_drew)); exact HO185.out) (Kd.R_base ho0) hb); have n3_ := Aside0.mk (Kd.R_elder' (by (with_reducible repeat (first | apply Kd.R_alloc | apply Kd.R_drewN | apply Kd.R_drew)); exact HO189.out) (Kd.R_base ho0) hb); have n4_ := Aside0.mk (Kd.R_lower (Kd.R_new' (Kd.R_new' (Kd.R_new' (Kd.R_new' ho0 (Kd.R_lt (by (with_reducible repeat (first | apply Kd.R_alloc | apply Kd.R_drewN | apply Kd.R_drew)); exact HO177.out))) (Kd.R_lt (by (with_reducible repeat (first | apply Kd.R_alloc | apply Kd.R_drewN | apply Kd.R_drew)); exact HO181.out))) (Kd.R_lt (by (with_reducible repeat (first | apply Kd.R_alloc | apply Kd.R_drewN | apply Kd.R_drew)); exact HO185.out))) (Kd.R_lt (by (with_reducible repeat (first | apply Kd.R_alloc | apply Kd.R_drewN | apply Kd.R_drew)); exact HO189.out))) (below_size (by repeat (first | (with_reducible first | exact HB.out | apply below_alloc | apply pw_below_drewN | apply below_drew1 | refine below_set ?_ GE157.out) | exact HB.out)))); have n5_ := Aside0.mk (blk_below (g := gb157) (o := .cells #[.int .i64 0, .slice none 0 0] 34 (0, 0)) (by (with_reducible repeat (first | refine blk_drewN ?_ _ | refine blk_drew ?_ | refine blk_alloc ?_ _)); exact BK157.out) hb); have n6_ := Aside0.mk (below_step (by repeat (first | (with_reducible first | exact HB.out | apply below_alloc | apply pw_below_drewN | apply below_drew1 | refine below_set ?_ GE157.out) | exact HB.out)) hb); clear HO177; clear HO181; clear HO185; clear HO189; clear BK157; clear HB; have HO177 := n0_; have HO181 := n1_; have HO185 := n2_; have HO189 := n3_; have HO193 := n4_; have BK157 := n5_; have HB := n6_; clear n0_ n1_ n2_ n3_ n4_ n5_ n6_; (try clear hb); (try clear hb2); (try clear hk); (try clear hi); (try clear ho0); obtain ⟨Ao37, co37, eo37⟩ := Kd.R_slice HO193.out; subst eo37) | ((with_reducible refine gate_callee (f := 83) rfl ?_); refine goesL_ (some 33) rfl rfl Try.func83 (by kernel_rfl) rfl #[.agg #[.int .i64 t190, .slice Ao37 t191.length co37]] rfl (by (try simp only [List.map_toArray, List.map_cons, List.map_nil]); first | done | rfl | (simp only [List.length_drop, List.length_take]; rfl)) ?_; (with_reducible refine (spec_l01Complement.calls k t190 _ _ t191 t194 t195 _ ?side1 ?side2 A26.out).mono ?_); (case side1 => repeat (first | exact (Kd.R_reads' HO193.out).2.2 | (with_reducible refine Kd.C_alloc ?_ _) | (with_reducible refine Kd.C_drewN ?_ _) | (with_reducible refine Kd.C_drew ?_))); (case side2 => exact (Kd.R_reads' HO193.out).2.1); rintro e w38 ⟨v196, rfl, ho0, hb⟩; refine ⟨_, rfl, ?_⟩; have n0_ := Aside0.mk (Kd.R_elder' (by (with_reducible repeat (first | apply Kd.R_alloc | apply Kd.R_drewN | apply Kd.R_drew)); exact HO177.out) (Kd.R_base ho0) hb); have n1_ := Aside0.mk (Kd.R_elder' (by (with_reducible repeat (first | apply Kd.R_alloc | apply Kd.R_drewN | apply Kd.R_drew)); exact HO181.out) (Kd.R_base ho0) hb); have n2_ := Aside0.mk (Kd.R_elder' (by (with_reducible repeat (first | apply Kd.R_alloc | apply Kd.R_drewN | apply Kd.R_drew)); exact HO185.out) (Kd.R_base ho0) hb); have n3_ := Aside0.mk (Kd.R_elder' (by (with_reducible repeat (first | apply Kd.R_alloc | apply Kd.R_drewN | apply Kd.R_drew)); exact HO189.out) (Kd.R_base ho0) hb); have n4_ := Aside0.mk (Kd.R_elder' (by (with_reducible repeat (first | apply Kd.R_alloc | apply Kd.R_drewN | apply Kd.R_drew)); exact HO193.out) (Kd.R_base ho0) hb); have n5_ := Aside0.mk (Kd.R_lower (Kd.R_new' (Kd.R_new' (Kd.R_new' (Kd.R_new' (Kd.R_new' ho0 (Kd.R_lt (by (with_reducible repeat (first | apply Kd.R_alloc | apply Kd.R_drewN | apply Kd.R_drew)); exact HO177.out))) (Kd.R_lt (by (with_reducible repeat (first | apply Kd.R_alloc | apply Kd.R_drewN | apply Kd.R_drew)); exact HO181.out))) (Kd.R_lt (by (with_reducible repeat (first | apply Kd.R_alloc | apply Kd.R_drewN | apply Kd.R_drew)); exact HO185.out))) (Kd.R_lt (by (with_reducible repeat (first | apply Kd.R_alloc | apply Kd.R_drewN | apply Kd.R_drew)); exact HO189.out))) (Kd.R_lt (by (with_reducible repeat (first | apply Kd.R_alloc | apply Kd.R_drewN | apply Kd.R_drew)); exact HO193.out))) (below_size (by repeat (first | (with_reducible first | exact HB.out | apply below_alloc | apply pw_below_drewN | apply below_drew1 | refine below_set ?_ GE157.out) | exact HB.out)))); have n6_ := Aside0.mk (blk_below (g := gb157) (o := .cells #[.int .i64 0, .slice none 0 0] 34 (0, 0)) (by (with_reducible repeat (first | refine blk_drewN ?_ _ | refine blk_drew ?_ | refine blk_alloc ?_ _)); exact BK157.out) hb); have n7_ := Aside0.mk (below_step (by repeat (first | (with_reducible first | exact HB.out | apply below_alloc | apply pw_below_drewN | apply below_drew1 | refine below_set ?_ GE157.out) | exact HB.out)) hb); clear HO177; clear HO181; clear HO185; clear HO189; clear HO193; clear BK157; clear HB; have HO177 := n0_; have HO181 := n1_; have HO185 := n2_; have HO189 := n3_; have HO193 := n4_; have HO197 := n5_; have BK157 := n6_; have HB := n7_; clear n0_ n1_ n2_ n3_ n4_ n5_ n6_ n7_; (try clear hb); (try clear hb2); (try clear hk); (try clear hi); (try clear ho0); have hcz39_0 : w38.cell? ⟨gb157, 0, none⟩ = some (.int .i64 0) := (blk_cell BK157.out 0).trans rfl; have hcz39_1 : w38.cell? ⟨gb157, 1, none⟩ = some (.slice none 0 0) := (blk_cell BK157.out 1).trans rfl; have hfz39_0 := blk_frozen BK157.out 0; have hfz39_1 := blk_frozen BK157.out 1; obtain ⟨Ao40, co40, eo40⟩ := Kd.R_slice HO197.out; subst eo40))
        refine bodyPost_ret (results_ct rfl _ _ gb157 34 #[.int .i64 t194, .slice Ao40 t195.length co40] (0, 0) _ rfl (by (with_reducible repeat (first | refine blk_drewN ?_ _ | refine blk_drew ?_ | refine blk_alloc ?_ _)); refine blk_put (cs := #[.int .i64 t194, .slice none 0 0]) ?_ 1 _ rfl; (with_reducible repeat (first | refine blk_drewN ?_ _ | refine blk_drew ?_ | refine blk_alloc ?_ _)); refine blk_put (cs := #[.int .i64 0, .slice none 0 0]) ?_ 0 _ rfl; (with_reducible repeat (first | refine blk_drewN ?_ _ | refine blk_drew ?_ | refine blk_alloc ?_ _)); exact BK157.out) Try.underlying34 rfl (by kernel_rfl)) rfl ?_
        exact ⟨_, by first | rfl | (simp [errW_none, errW_some] <;> rfl) | (simp [*, errW_none, errW_some] <;> rfl), by (with_reducible repeat (first | apply Kd.R_alloc | apply Kd.R_drewN | apply Kd.R_drew)); exact Kd.R_mono (Kd.R_far (p := ⟨gb157, 1, none⟩) (Kd.R_far (p := ⟨gb157, 0, none⟩) (Kd.R_types HO197.out BK157.out (by decide)) (fun _ hk => hk.2) (.int .i64 t194)) (fun _ hk => hk.2) (.slice Ao40 t195.length co40)) (fun _ hk => trivial), by repeat (first | (with_reducible first | exact HB.out | apply below_alloc | apply pw_below_drewN | apply below_drew1 | refine below_set ?_ GE157.out) | exact HB.out)⟩
      · rw [if_neg c20] at H
        have c20b0 : (a0.toList == ([107, 51, 51] : List UInt8)) = false := beq_eq_false_iff_ne.mpr c20
        have c20b1 : (a0.toList != ([107, 51, 51] : List UInt8)) = true := bne_iff_ne.mpr c20
        have HC41 := Aside0.mk H
        clear H
        go_enter Try.func64, Try.ntmps64
        go_upto_if 34 with (first | ((with_reducible refine gate_dst (N := 2) rfl ?_); refine box_event ?hg (N := 2) ?hd (cs := #[.int .i64 0, .slice none 0 0]) (t := 34) ?hr ?_; (case hd => rfl); (case hg => rfl); (case hr => first | (go_simp; done) | (go_simp; rfl)); intro gb157 hg w42 hbox hb; have n0_ := Aside0.mk (below_step (by repeat (first | (with_reducible first | exact HB.out | apply below_alloc | apply pw_below_drewN | apply below_drew1) | exact HB.out)) hb); have n1_ := Aside0.mk (hbox); have n2_ := Aside0.mk ((by rw [hg]; exact (below_size (by repeat (first | (with_reducible first | exact HB.out | apply below_alloc | apply pw_below_drewN | apply below_drew1) | exact HB.out))) : w.heap.size ≤ gb157)); have n3_ := Aside0.mk ((by rw [hg]; exact (below_size (by repeat (first | (with_reducible first | exact HB.out | apply below_alloc | apply pw_below_drewN | apply below_drew1) | exact HB.out))) : w.heap.size ≤ gb157)); clear HB; have HB := n0_; have BK157 := n1_; have GW157 := n2_; have GE157 := n3_; clear n0_ n1_ n2_ n3_; clear hb hbox hg))
        (try simp only [Act.put, List.setIfInBounds_toArray, List.set_cons_zero, List.set_cons_succ])
        go_cut [34] (fun v34 wc => ∃ (kq : Nat) (x34_40 : Bool), v34 = .bool x34_40 ∧ Aside0 (spec_l01Named.j0 kq a0 a0 x34_40 = some (r1, r2, r3)) ∧ Aside0 (kq ≤ k) ∧ Aside0 (wc.heap[gb157]? = some (.cells #[.int .i64 0, (.slice none 0 0)] 34 (0, 0))) ∧ Aside0 (Below w.heap.size w wc))
        case first =>
          have H := HC41.out
          clear HC41
          by_cases c43 : a0.toList = ([99, 117, 98, 101] : List UInt8)
          · rw [if_pos c43] at H
            have c43b0 : (a0.toList == ([99, 117, 98, 101] : List UInt8)) = true := beq_iff_eq.mpr c43
            have c43b1 : (a0.toList != ([99, 117, 98, 101] : List UInt8)) = false := bne_eq_false_iff_eq.mpr c43
            clear c43
            (first | rw [c43b0] | (simp only [i64_w, i32_w]; rw [c43b0]) | skip)
            have H' := Aside0.mk H
            clear H
            go_wp2
            go_meet
            case rel => exact ⟨_, ((a0.toList == ([99, 117, 98, 101] : List UInt8))), (by first | rfl | (simp; done) | (simp [*]; done)), H', ⟨by first | omega | exact Nat.le_refl _⟩, ⟨by (with_reducible repeat (first | refine blk_drewN ?_ _ | refine blk_drew ?_ | refine blk_alloc ?_ _)); exact BK157.out⟩, ⟨by repeat (first | (with_reducible first | exact HB.out | apply below_alloc | apply pw_below_drewN | apply below_drew1 | refine below_set ?_ GE157.out) | exact HB.out)⟩⟩
          · rw [if_neg c43] at H
            have c43b0 : (a0.toList == ([99, 117, 98, 101] : List UInt8)) = false := beq_eq_false_iff_ne.mpr c43
            have c43b1 : (a0.toList != ([99, 117, 98, 101] : List UInt8)) = true := bne_iff_ne.mpr c43
            (first | rw [c43b0] | (simp only [i64_w, i32_w]; rw [c43b0]) | skip)
            have H' := Aside0.mk H
            clear H
            go_wp2
            go_meet
            case rel => exact ⟨_, ((a0.toList == ([99, 108, 101, 98, 115, 99, 104] : List UInt8))), (by first | rfl | (simp; done) | (simp [*]; done)), H', ⟨by first | omega | exact Nat.le_refl _⟩, ⟨by (with_reducible repeat (first | refine blk_drewN ?_ _ | refine blk_drew ?_ | refine blk_alloc ?_ _)); exact BK157.out⟩, ⟨by repeat (first | (with_reducible first | exact HB.out | apply below_alloc | apply pw_below_drewN | apply below_drew1 | refine below_set ?_ GE157.out) | exact HB.out)⟩⟩
        case rest =>
          clear HC41
          try clear c1
          try clear c2
          try clear c2b0
          try clear c2b1
          try clear p2
          try clear c4
          try clear c5
          try clear c6
          try clear c8
          try clear c11
          try clear c11b0
          try clear c11b1
          try clear c20
          try clear c20b0
          try clear c20b1
          try clear c43
          try clear c43b0
          try clear c43b1
          try clear hcz18_0
          try clear hcz18_1
          try clear hcz39_0
          try clear hcz39_1
          try clear hcz9_0
          try clear hcz9_1
          try clear hfz18_0
          try clear hfz18_1
          try clear hfz39_0
          try clear hfz39_1
          try clear hfz9_0
          try clear hfz9_1
          obtain ⟨kq, x34_40, rfl, HA, HJ40, BK157, HB⟩ := hcut
          cases kq with
          | zero => exact absurd HA.out (by simp [spec_l01Named.j0])
          | succ kj40 =>
            have H := HA.out
            clear HA
            simp only [spec_l01Named.j0] at H
            by_cases c44 : x34_40 = true
            · subst c44
              have H1 : (if a0.toList = ([99, 108, 101, 98, 115, 99, 104] : List UInt8) then (spec_l01Named.j1 kj40 16) else (spec_l01Named.j1 kj40 8)) = some (r1, r2, r3) := by rw [if_pos rfl] at H; exact H
              clear H
              have H := H1
              clear H1
              have HC45 := Aside0.mk H
              clear H
              go_upto_if 38 with (fail)
              go_cut [4] (fun v4 wc => ∃ (kq : Nat) (x4_44 : Int), v4 = .int .i64 x4_44 ∧ Aside0 (spec_l01Named.j1 kq x4_44 = some (r1, r2, r3)) ∧ Aside0 (kq ≤ kj40) ∧ Aside0 (wc.heap[gb157]? = some (.cells #[.int .i64 0, (.slice none 0 0)] 34 (0, 0))) ∧ Aside0 (Below w.heap.size w wc))
              case first =>
                have H := HC45.out
                clear HC45
                by_cases c46 : a0.toList = ([99, 108, 101, 98, 115, 99, 104] : List UInt8)
                · rw [if_pos c46] at H
                  have c46b0 : (a0.toList == ([99, 108, 101, 98, 115, 99, 104] : List UInt8)) = true := beq_iff_eq.mpr c46
                  have c46b1 : (a0.toList != ([99, 108, 101, 98, 115, 99, 104] : List UInt8)) = false := bne_eq_false_iff_eq.mpr c46
                  clear c46
                  (first | rw [c46b0] | (simp only [i64_w, i32_w]; rw [c46b0]) | skip)
                  have H' := Aside0.mk H
                  clear H
                  go_wp2
                  go_meet
                  case rel => exact ⟨_, (16), (by first | rfl | (simp; done) | (simp [*]; done)), H', ⟨by have := HJ40.out; first | omega | exact Nat.le_refl _⟩, ⟨by (with_reducible repeat (first | refine blk_drewN ?_ _ | refine blk_drew ?_ | refine blk_alloc ?_ _)); exact BK157.out⟩, ⟨by repeat (first | (with_reducible first | exact HB.out | apply below_alloc | apply pw_below_drewN | apply below_drew1 | refine below_set ?_ GE157.out) | exact HB.out)⟩⟩
                · rw [if_neg c46] at H
                  have c46b0 : (a0.toList == ([99, 108, 101, 98, 115, 99, 104] : List UInt8)) = false := beq_eq_false_iff_ne.mpr c46
                  have c46b1 : (a0.toList != ([99, 108, 101, 98, 115, 99, 104] : List UInt8)) = true := bne_iff_ne.mpr c46
                  (first | rw [c46b0] | (simp only [i64_w, i32_w]; rw [c46b0]) | skip)
                  have H' := Aside0.mk H
                  clear H
                  go_wp2
                  go_meet
                  case rel => exact ⟨_, (8), (by first | rfl | (simp; done) | (simp [*]; done)), H', ⟨by have := HJ40.out; first | omega | exact Nat.le_refl _⟩, ⟨by (with_reducible repeat (first | refine blk_drewN ?_ _ | refine blk_drew ?_ | refine blk_alloc ?_ _)); exact BK157.out⟩, ⟨by repeat (first | (with_reducible first | exact HB.out | apply below_alloc | apply pw_below_drewN | apply below_drew1 | refine below_set ?_ GE157.out) | exact HB.out)⟩⟩
              case rest =>
                clear HC45
                try clear c1
                try clear c2
                try clear c2b0
                try clear c2b1
                try clear p2
                try clear c4
                try clear c5
                try clear c6
                try clear c8
                try clear c11
                try clear c11b0
                try clear c11b1
                try clear c20
                try clear c20b0
                try clear c20b1
                try clear c43
                try clear c43b0
                try clear c43b1
                try clear c44
                try clear c46
                try clear c46b0
                try clear c46b1
                try clear hcz18_0
                try clear hcz18_1
                try clear hcz39_0
                try clear hcz39_1
                try clear hcz9_0
                try clear hcz9_1
                try clear hfz18_0
                try clear hfz18_1
                try clear hfz39_0
                try clear hfz39_1
                try clear hfz9_0
                try clear hfz9_1
                try clear p2
                obtain ⟨kq, x4_44, rfl, HA, HJ44, BK157, HB⟩ := hcut
                cases kq with
                | zero => exact absurd HA.out (by simp [spec_l01Named.j1])
                | succ kj44 =>
                  have H := HA.out
                  clear HA
                  simp only [spec_l01Named.j1] at H
                  replace H := Option.bind_eq_some_iff.mp H
                  obtain ⟨⟨t198, t199⟩, A470, H⟩ := H
                  replace H : (spec_l01Named.l0 kj44 x4_44 0 t198 t199) = some (r1, r2, r3) := H
                  have A47 := Aside0.mk A470
                  clear A470
                  have H' := Aside0.mk H
                  clear H
                  go_wp2_with (first | ((with_reducible refine gate_callee (f := 48) rfl ?_); refine goesL_ (some 40) rfl rfl Try.func48 (by kernel_rfl) rfl #[.int .i64 x4_44] rfl (by (try simp only [List.map_toArray, List.map_cons, List.map_nil]); first | done | rfl | (simp only [List.length_drop, List.length_take]; rfl)) ?_; (with_reducible refine (spec_l01Empty.calls x4_44 t198 t199 _ A47.out).mono ?_); rintro e w48 ⟨v200, rfl, ho0, hb⟩; refine ⟨_, rfl, ?_⟩; have n0_ := Aside0.mk (Kd.R_lower ho0 (below_size (by repeat (first | (with_reducible first | exact HB.out | apply below_alloc | apply pw_below_drewN | apply below_drew1 | refine below_set ?_ GE157.out) | exact HB.out)))); have n1_ := Aside0.mk (blk_below (g := gb157) (o := .cells #[.int .i64 0, .slice none 0 0] 34 (0, 0)) (by (with_reducible repeat (first | refine blk_drewN ?_ _ | refine blk_drew ?_ | refine blk_alloc ?_ _)); exact BK157.out) hb); have n2_ := Aside0.mk (below_step (by repeat (first | (with_reducible first | exact HB.out | apply below_alloc | apply pw_below_drewN | apply below_drew1 | refine below_set ?_ GE157.out) | exact HB.out)) hb); clear BK157; clear HB; have HO201 := n0_; have BK157 := n1_; have HB := n2_; clear n0_ n1_ n2_; (try clear hb); (try clear hb2); (try clear hk); (try clear hi); (try clear ho0)) | ((with_reducible refine gate_dst (N := 5) rfl ?_); refine box_event ?hg (N := 5) ?hd (cs := #[.int .i64 0, .slice none 0 0]) (t := 34) ?hr ?_; (case hd => rfl); (case hg => rfl); (case hr => first | (go_simp; done) | (go_simp; rfl)); intro gb202 hg w49 hbox hb; have n0_ := Aside0.mk (Kd.R_below (by (with_reducible repeat (first | apply Kd.R_alloc | apply Kd.R_drewN | apply Kd.R_drew)); exact HO201.out) hb); have n1_ := Aside0.mk (blk_below (g := gb157) (o := .cells #[.int .i64 0, .slice none 0 0] 34 (0, 0)) (by (with_reducible repeat (first | refine blk_drewN ?_ _ | refine blk_drew ?_ | refine blk_alloc ?_ _)); exact BK157.out) hb); have n2_ := Aside0.mk (below_step (by repeat (first | (with_reducible first | exact HB.out | apply below_alloc | apply pw_below_drewN | apply below_drew1 | refine below_set ?_ GE157.out) | exact HB.out)) hb); have n3_ := Aside0.mk (hbox); have n4_ := Aside0.mk ((by rw [hg]; exact (below_size (by repeat (first | (with_reducible first | exact HB.out | apply below_alloc | apply pw_below_drewN | apply below_drew1 | refine below_set ?_ GE157.out) | exact HB.out))) : w.heap.size ≤ gb202)); have n5_ := Aside0.mk ((by rw [hg]; exact (below_size (by repeat (first | (with_reducible first | exact HB.out | apply below_alloc | apply pw_below_drewN | apply below_drew1 | refine below_set ?_ GE157.out) | exact HB.out))) : w.heap.size ≤ gb202)); have n6_ := Aside0.mk ((by rw [hg]; exact Nat.ne_of_lt (blk_lt (g := gb157) (o := .cells #[.int .i64 0, .slice none 0 0] 34 (0, 0)) (by (with_reducible repeat (first | refine blk_drewN ?_ _ | refine blk_drew ?_ | refine blk_alloc ?_ _)); exact BK157.out)) : gb157 ≠ gb202)); have n7_ := Aside0.mk ((by rw [hg]; exact Nat.ne_of_gt (blk_lt (g := gb157) (o := .cells #[.int .i64 0, .slice none 0 0] 34 (0, 0)) (by (with_reducible repeat (first | refine blk_drewN ?_ _ | refine blk_drew ?_ | refine blk_alloc ?_ _)); exact BK157.out)) : gb202 ≠ gb157)); clear HO201; clear BK157; clear HB; have HO201 := n0_; have BK157 := n1_; have HB := n2_; have BK202 := n3_; have GW202 := n4_; have GE202 := n5_; have NB157_202 := n6_; have NB202_157 := n7_; clear n0_ n1_ n2_ n3_ n4_ n5_ n6_ n7_; clear hb hbox hg; have hnb50 := NB202_157.out; have hnc50 := NB157_202.out; have hcz51_0 : w49.cell? ⟨gb202, 0, none⟩ = some (.int .i64 0) := (blk_cell BK202.out 0).trans rfl; have hcz51_1 : w49.cell? ⟨gb202, 1, none⟩ = some (.slice none 0 0) := (blk_cell BK202.out 1).trans rfl; have hfz51_0 := blk_frozen BK202.out 0; have hfz51_1 := blk_frozen BK202.out 1; obtain ⟨Ao52, co52, eo52⟩ := Kd.R_slice HO201.out; subst eo52))
                  go_loopg [6] kj44 (fun kq v6 w' => ∃ (x6_3 : Int) (x203001_3 : List Int) (u203001 : Value), v6 = .int .i64 x6_3 ∧ Aside0 (spec_l01Named.l0 kq x4_44 x6_3 t198 x203001_3 = some (r1, r2, r3)) ∧ Aside0 (kq ≤ kj44) ∧ Aside0 (Kd.R (Kd.int .i64) 2 w' w.heap.size (fun _ => True) u203001 x203001_3) ∧ Aside0 (w'.heap[gb157]? = some (.cells #[.int .i64 0, (.slice none 0 0)] 34 (0, 0))) ∧ Aside0 (w'.heap[gb202]? = some (.cells #[.int .i64 t198, u203001] 34 (0, 0))) ∧ Aside0 (Below w.heap.size w w'))
                  case atStart => exact ⟨(0), (t199), (.slice Ao52 t199.length co52), (by first | rfl | (simp; done) | (simp [*]; done)), H', ⟨Nat.le_refl _⟩, ⟨by (with_reducible repeat (first | apply Kd.R_alloc | apply Kd.R_drewN | apply Kd.R_drew)); exact Kd.R_mono (Kd.R_far (p := ⟨gb202, 1, none⟩) (Kd.R_far (p := ⟨gb202, 0, none⟩) (Kd.R_types HO201.out BK202.out (by decide)) (fun _ hk => hk.2) (.int .i64 t198)) (fun _ hk => hk.2) (.slice Ao52 t199.length co52)) (fun _ hk => trivial)⟩, ⟨by (with_reducible repeat (first | refine blk_drewN ?_ _ | refine blk_drew ?_ | refine blk_alloc ?_ _)); refine blk_far ?_ NB157_202.out _; (with_reducible repeat (first | refine blk_drewN ?_ _ | refine blk_drew ?_ | refine blk_alloc ?_ _)); refine blk_far ?_ NB157_202.out _; (with_reducible repeat (first | refine blk_drewN ?_ _ | refine blk_drew ?_ | refine blk_alloc ?_ _)); exact BK157.out⟩, ⟨by (with_reducible repeat (first | refine blk_drewN ?_ _ | refine blk_drew ?_ | refine blk_alloc ?_ _)); refine blk_put (cs := #[.int .i64 t198, .slice none 0 0]) ?_ 1 _ rfl; (with_reducible repeat (first | refine blk_drewN ?_ _ | refine blk_drew ?_ | refine blk_alloc ?_ _)); refine blk_put (cs := #[.int .i64 0, .slice none 0 0]) ?_ 0 _ rfl; (with_reducible repeat (first | refine blk_drewN ?_ _ | refine blk_drew ?_ | refine blk_alloc ?_ _)); exact BK202.out⟩, ⟨by repeat (first | (with_reducible first | exact HB.out | apply below_alloc | apply pw_below_drewN | apply below_drew1 | refine below_set ?_ GE157.out | refine below_set ?_ GE202.out) | exact HB.out)⟩⟩
                  case round =>
                    clear H'
                    try clear c1
                    try clear c2
                    try clear c2b0
                    try clear c2b1
                    try clear p2
                    try clear c4
                    try clear c5
                    try clear c6
                    try clear c8
                    try clear c11
                    try clear c11b0
                    try clear c11b1
                    try clear c20
                    try clear c20b0
                    try clear c20b1
                    try clear c43
                    try clear c43b0
                    try clear c43b1
                    try clear c44
                    try clear c46
                    try clear c46b0
                    try clear c46b1
                    try clear c48
                    try clear c50
                    try clear hcz18_0
                    try clear hcz18_1
                    try clear hcz39_0
                    try clear hcz39_1
                    try clear hcz51_0
                    try clear hcz51_1
                    try clear hcz9_0
                    try clear hcz9_1
                    try clear hfz18_0
                    try clear hfz18_1
                    try clear hfz39_0
                    try clear hfz39_1
                    try clear hfz51_0
                    try clear hfz51_1
                    try clear hfz9_0
                    try clear hfz9_1
                    try clear p2
                    obtain ⟨x6_3, x203001_3, u203001, rfl, HA, HK3, HO_203001, BK157, BK202, HB⟩ := hrel
                    cases gk with
                    | zero => exact absurd HA.out (by simp [spec_l01Named.l0])
                    | succ k3 =>
                      have H := HA.out
                      clear HA
                      simp only [spec_l01Named.l0] at H
                      by_cases c53 : x6_3 < x4_44
                      · rw [if_pos c53] at H
                        have c53b0 : decide (x6_3 < x4_44) = true := decide_eq_true c53
                        clear c53
                        have H' := Aside0.mk H
                        clear H
                        go_wp2
                        go_loopg [7] k3 (fun kq v7 w' => ∃ (x7_4 : Int) (x203001_4 : List Int) (u203001 : Value), v7 = .int .i64 x7_4 ∧ Aside0 (spec_l01Named.l1 kq x4_44 x6_3 x7_4 t198 x203001_4 = some (r1, r2, r3)) ∧ Aside0 (kq ≤ k3) ∧ Aside0 (Kd.R (Kd.int .i64) 2 w' w.heap.size (fun _ => True) u203001 x203001_4) ∧ Aside0 (w'.heap[gb157]? = some (.cells #[.int .i64 0, (.slice none 0 0)] 34 (0, 0))) ∧ Aside0 (w'.heap[gb202]? = some (.cells #[.int .i64 t198, u203001] 34 (0, 0))) ∧ Aside0 (Below w.heap.size w w'))
                        case atStart => exact ⟨(1), (x203001_3), (u203001), (by first | rfl | (simp; done) | (simp [*]; done)), H', ⟨Nat.le_refl _⟩, ⟨by (with_reducible repeat (first | apply Kd.R_alloc | apply Kd.R_drewN | apply Kd.R_drew)); exact HO_203001.out⟩, ⟨by (with_reducible repeat (first | refine blk_drewN ?_ _ | refine blk_drew ?_ | refine blk_alloc ?_ _)); exact BK157.out⟩, ⟨by (with_reducible repeat (first | refine blk_drewN ?_ _ | refine blk_drew ?_ | refine blk_alloc ?_ _)); exact BK202.out⟩, ⟨by repeat (first | (with_reducible first | exact HB.out | apply below_alloc | apply pw_below_drewN | apply below_drew1 | refine below_set ?_ GE157.out | refine below_set ?_ GE202.out) | exact HB.out)⟩⟩
                        case round =>
                          clear H'
                          try clear c1
                          try clear c2
                          try clear c2b0
                          try clear c2b1
                          try clear p2
                          try clear c4
                          try clear c5
                          try clear c6
                          try clear c8
                          try clear c11
                          try clear c11b0
                          try clear c11b1
                          try clear c20
                          try clear c20b0
                          try clear c20b1
                          try clear c43
                          try clear c43b0
                          try clear c43b1
                          try clear c44
                          try clear c46
                          try clear c46b0
                          try clear c46b1
                          try clear c48
                          try clear c50
                          try clear c53
                          try clear c53b0
                          try clear hcz18_0
                          try clear hcz18_1
                          try clear hcz39_0
                          try clear hcz39_1
                          try clear hcz51_0
                          try clear hcz51_1
                          try clear hcz9_0
                          try clear hcz9_1
                          try clear hfz18_0
                          try clear hfz18_1
                          try clear hfz39_0
                          try clear hfz39_1
                          try clear hfz51_0
                          try clear hfz51_1
                          try clear hfz9_0
                          try clear hfz9_1
                          try clear p2
                          obtain ⟨x7_4, x203001_4, u203001, rfl, HA, HK4, HO_203001, BK157, BK202, HB⟩ := hrel
                          cases gk with
                          | zero => exact absurd HA.out (by simp [spec_l01Named.l1])
                          | succ k4 =>
                            have H := HA.out
                            clear HA
                            simp only [spec_l01Named.l1] at H
                            by_cases c54 : x7_4 < x4_44
                            · rw [if_pos c54] at H
                              have c54b0 : decide (x7_4 < x4_44) = true := decide_eq_true c54
                              clear c54
                              replace H := Option.bind_eq_some_iff.mp H
                              obtain ⟨t203, A550, H⟩ := H
                              replace H : (spec_l01Named.l1 k4 x4_44 x6_3 (wrap64 (2 * x7_4)) t198 t203) = some (r1, r2, r3) := H
                              have A55 := Aside0.mk A550
                              clear A550
                              have H' := Aside0.mk H
                              clear H
                              have hnb56 := NB202_157.out
                              have hnc56 := NB157_202.out
                              have hcz57_0 : wr.cell? ⟨gb202, 0, none⟩ = some (.int .i64 t198) := (blk_cell BK202.out 0).trans rfl
                              have hcz57_1 : wr.cell? ⟨gb202, 1, none⟩ = some (u203001) := (blk_cell BK202.out 1).trans rfl
                              have hfz57_0 := blk_frozen BK202.out 0
                              have hfz57_1 := blk_frozen BK202.out 1
                              obtain ⟨Ao58, co58, eo58⟩ := Kd.R_slice HO_203001.out
                              subst eo58
                              go_wp2_with (first | ((with_reducible refine gate_callee (f := 49) rfl ?_); refine goesL_ (some 56) rfl rfl Try.func49 (by kernel_rfl) rfl #[.agg #[.int .i64 t198, .slice Ao58 x203001_4.length co58], .int .i64 x6_3, .int .i64 (Go.bits .xor .i64 x6_3 x7_4)] rfl (by (try simp only [List.map_toArray, List.map_cons, List.map_nil]); first | done | rfl | (simp only [List.length_drop, List.length_take]; rfl)) ?_; (with_reducible refine (spec_l01Put.calls t198 (fun k_ => some k_ = (.slice Ao58 x203001_4.length co58 : Value).ownBlock) (.slice Ao58 x203001_4.length co58) x203001_4 x6_3 (Go.bits .xor .i64 x6_3 x7_4) t203 w _ ?side1 ?side2 A55.out).mono ?_); (case side1 => repeat (first | (with_reducible first | exact HB.out | apply below_alloc | apply pw_below_drewN | apply below_drew1 | refine below_set ?_ GE157.out | refine below_set ?_ GE202.out) | exact HB.out)); (case side2 => exact Kd.R_tight rfl HO_203001.out); rintro e w59 ⟨rfl, hy0, hb, hkp⟩; refine ⟨_, rfl, ?_⟩; have n0_ := Aside0.mk (Kd.R_reok rfl hy0 (fun k_ e_ => HO_203001.out.1 k_ e_)); have n1_ := Aside0.mk (blk_kept (by (with_reducible repeat (first | refine blk_drewN ?_ _ | refine blk_drew ?_ | refine blk_alloc ?_ _)); exact BK157.out) hkp (fun hs_ => (fun e_ => (Kd.R_ne HO_203001.out BK157.out (by decide)) e_) hs_)); have n2_ := Aside0.mk (blk_kept (by (with_reducible repeat (first | refine blk_drewN ?_ _ | refine blk_drew ?_ | refine blk_alloc ?_ _)); exact BK202.out) hkp (fun hs_ => (fun e_ => (Kd.R_ne HO_203001.out BK202.out (by decide)) e_) hs_)); have n3_ := Aside0.mk (hb); clear HO_203001; clear BK157; clear BK202; clear HB; have HO_203001 := n0_; have BK157 := n1_; have BK202 := n2_; have HB := n3_; clear n0_ n1_ n2_ n3_; (try clear hb); (try clear hkp); (try clear hy0)))
                              go_roundg k4
                              case measure => have := HJ40.out; have := HJ44.out; have := HK3.out; have := HK4.out; omega
                              case rel => exact ⟨(wrap64 (2 * x7_4)), (t203), (.slice Ao58 x203001_4.length co58), (by first | rfl | (simp; done) | (simp [*]; done)), H', ⟨by have := HJ40.out; have := HJ44.out; have := HK3.out; have := HK4.out; omega⟩, ⟨by (with_reducible repeat (first | apply Kd.R_alloc | apply Kd.R_drewN | apply Kd.R_drew)); exact HO_203001.out⟩, ⟨by (with_reducible repeat (first | refine blk_drewN ?_ _ | refine blk_drew ?_ | refine blk_alloc ?_ _)); exact BK157.out⟩, ⟨by (with_reducible repeat (first | refine blk_drewN ?_ _ | refine blk_drew ?_ | refine blk_alloc ?_ _)); exact BK202.out⟩, ⟨by repeat (first | (with_reducible first | exact HB.out | apply below_alloc | apply pw_below_drewN | apply below_drew1 | refine below_set ?_ GE157.out | refine below_set ?_ GE202.out) | exact HB.out)⟩⟩
                            · rw [if_neg c54] at H
                              have c54b0 : decide (x7_4 < x4_44) = false := decide_eq_false c54
                              clear c54
                              by_cases c60 : x4_44 = 16
                              · rw [if_pos c60] at H
                                have c60b0 : (x4_44 == 16) = true := beq_iff_eq.mpr c60
                                have c60b1 : (x4_44 != 16) = false := bne_eq_false_iff_eq.mpr c60
                                clear c60
                                replace H := Option.bind_eq_some_iff.mp H
                                obtain ⟨t204, A610, H⟩ := H
                                replace H : (spec_l01Named.l0 k4 x4_44 (wrap64 (x6_3 + 1)) t198 t204) = some (r1, r2, r3) := H
                                have A61 := Aside0.mk A610
                                clear A610
                                have H' := Aside0.mk H
                                clear H
                                have hnb62 := NB202_157.out
                                have hnc62 := NB157_202.out
                                have hcz63_0 : wr.cell? ⟨gb202, 0, none⟩ = some (.int .i64 t198) := (blk_cell BK202.out 0).trans rfl
                                have hcz63_1 : wr.cell? ⟨gb202, 1, none⟩ = some (u203001) := (blk_cell BK202.out 1).trans rfl
                                have hfz63_0 := blk_frozen BK202.out 0
                                have hfz63_1 := blk_frozen BK202.out 1
                                obtain ⟨Ao64, co64, eo64⟩ := Kd.R_slice HO_203001.out
                                subst eo64
                                go_wp2_with (first | ((with_reducible refine gate_callee (f := 49) rfl ?_); refine goesL_ (some 63) rfl rfl Try.func49 (by kernel_rfl) rfl #[.agg #[.int .i64 t198, .slice Ao64 x203001_4.length co64], .int .i64 x6_3, .int .i64 (wrap64 (15 - x6_3))] rfl (by (try simp only [List.map_toArray, List.map_cons, List.map_nil]); first | done | rfl | (simp only [List.length_drop, List.length_take]; rfl)) ?_; (with_reducible refine (spec_l01Put.calls t198 (fun k_ => some k_ = (.slice Ao64 x203001_4.length co64 : Value).ownBlock) (.slice Ao64 x203001_4.length co64) x203001_4 x6_3 (wrap64 (15 - x6_3)) t204 w _ ?side1 ?side2 A61.out).mono ?_); (case side1 => repeat (first | (with_reducible first | exact HB.out | apply below_alloc | apply pw_below_drewN | apply below_drew1 | refine below_set ?_ GE157.out | refine below_set ?_ GE202.out) | exact HB.out)); (case side2 => exact Kd.R_tight rfl HO_203001.out); rintro e w65 ⟨rfl, hy0, hb, hkp⟩; refine ⟨_, rfl, ?_⟩; have n0_ := Aside0.mk (Kd.R_reok rfl hy0 (fun k_ e_ => HO_203001.out.1 k_ e_)); have n1_ := Aside0.mk (blk_kept (by (with_reducible repeat (first | refine blk_drewN ?_ _ | refine blk_drew ?_ | refine blk_alloc ?_ _)); exact BK157.out) hkp (fun hs_ => (fun e_ => (Kd.R_ne HO_203001.out BK157.out (by decide)) e_) hs_)); have n2_ := Aside0.mk (blk_kept (by (with_reducible repeat (first | refine blk_drewN ?_ _ | refine blk_drew ?_ | refine blk_alloc ?_ _)); exact BK202.out) hkp (fun hs_ => (fun e_ => (Kd.R_ne HO_203001.out BK202.out (by decide)) e_) hs_)); have n3_ := Aside0.mk (hb); clear HO_203001; clear BK157; clear BK202; clear HB; have HO_203001 := n0_; have BK157 := n1_; have BK202 := n2_; have HB := n3_; clear n0_ n1_ n2_ n3_; (try clear hb); (try clear hkp); (try clear hy0)))
                                go_roundg k4
                                case measure => have := HJ40.out; have := HJ44.out; have := HK3.out; have := HK4.out; omega
                                case rel => exact ⟨(wrap64 (x6_3 + 1)), (t204), (.slice Ao64 x203001_4.length co64), (by first | rfl | (simp; done) | (simp [*]; done)), H', ⟨by have := HJ40.out; have := HJ44.out; have := HK3.out; have := HK4.out; omega⟩, ⟨by (with_reducible repeat (first | apply Kd.R_alloc | apply Kd.R_drewN | apply Kd.R_drew)); exact HO_203001.out⟩, ⟨by (with_reducible repeat (first | refine blk_drewN ?_ _ | refine blk_drew ?_ | refine blk_alloc ?_ _)); exact BK157.out⟩, ⟨by (with_reducible repeat (first | refine blk_drewN ?_ _ | refine blk_drew ?_ | refine blk_alloc ?_ _)); exact BK202.out⟩, ⟨by repeat (first | (with_reducible first | exact HB.out | apply below_alloc | apply pw_below_drewN | apply below_drew1 | refine below_set ?_ GE157.out | refine below_set ?_ GE202.out) | exact HB.out)⟩⟩
                              · rw [if_neg c60] at H
                                have c60b0 : (x4_44 == 16) = false := beq_eq_false_iff_ne.mpr c60
                                have c60b1 : (x4_44 != 16) = true := bne_iff_ne.mpr c60
                                have H' := Aside0.mk H
                                clear H
                                go_wp2
                                go_roundg k4
                                case measure => have := HJ40.out; have := HJ44.out; have := HK3.out; have := HK4.out; omega
                                case rel => exact ⟨(wrap64 (x6_3 + 1)), (x203001_4), (u203001), (by first | rfl | (simp; done) | (simp [*]; done)), H', ⟨by have := HJ40.out; have := HJ44.out; have := HK3.out; have := HK4.out; omega⟩, ⟨by (with_reducible repeat (first | apply Kd.R_alloc | apply Kd.R_drewN | apply Kd.R_drew)); exact HO_203001.out⟩, ⟨by (with_reducible repeat (first | refine blk_drewN ?_ _ | refine blk_drew ?_ | refine blk_alloc ?_ _)); exact BK157.out⟩, ⟨by (with_reducible repeat (first | refine blk_drewN ?_ _ | refine blk_drew ?_ | refine blk_alloc ?_ _)); exact BK202.out⟩, ⟨by repeat (first | (with_reducible first | exact HB.out | apply below_alloc | apply pw_below_drewN | apply below_drew1 | refine below_set ?_ GE157.out | refine below_set ?_ GE202.out) | exact HB.out)⟩⟩
                      · rw [if_neg c53] at H
                        have c53b0 : decide (x6_3 < x4_44) = false := decide_eq_false c53
                        clear c53
                        simp only [Option.some.injEq, Prod.mk.injEq] at H
                        obtain ⟨rfl, rfl, rfl⟩ := H
                        have hnb66 := NB202_157.out
                        have hnc66 := NB157_202.out
                        have hcz67_0 : wr.cell? ⟨gb202, 0, none⟩ = some (.int .i64 t198) := (blk_cell BK202.out 0).trans rfl
                        have hcz67_1 : wr.cell? ⟨gb202, 1, none⟩ = some (u203001) := (blk_cell BK202.out 1).trans rfl
                        have hfz67_0 := blk_frozen BK202.out 0
                        have hfz67_1 := blk_frozen BK202.out 1
                        have hcz68_0 : wr.cell? ⟨gb157, 0, none⟩ = some (.int .i64 0) := (blk_cell BK157.out 0).trans rfl
                        have hcz68_1 : wr.cell? ⟨gb157, 1, none⟩ = some (.slice none 0 0) := (blk_cell BK157.out 1).trans rfl
                        have hfz68_0 := blk_frozen BK157.out 0
                        have hfz68_1 := blk_frozen BK157.out 1
                        obtain ⟨Ao69, co69, eo69⟩ := Kd.R_slice HO_203001.out
                        subst eo69
                        go_wp2
                        refine bodyPost_ret (results_ct rfl _ _ gb157 34 #[.int .i64 t198, .slice Ao69 x203001_3.length co69] (0, 0) _ rfl (by (with_reducible repeat (first | refine blk_drewN ?_ _ | refine blk_drew ?_ | refine blk_alloc ?_ _)); refine blk_put (cs := #[.int .i64 t198, .slice none 0 0]) ?_ 1 _ rfl; (with_reducible repeat (first | refine blk_drewN ?_ _ | refine blk_drew ?_ | refine blk_alloc ?_ _)); refine blk_put (cs := #[.int .i64 0, .slice none 0 0]) ?_ 0 _ rfl; (with_reducible repeat (first | refine blk_drewN ?_ _ | refine blk_drew ?_ | refine blk_alloc ?_ _)); exact BK157.out) Try.underlying34 rfl (by kernel_rfl)) rfl ?_
                        exact ⟨_, by first | rfl | (simp [errW_none, errW_some] <;> rfl) | (simp [*, errW_none, errW_some] <;> rfl), by (with_reducible repeat (first | apply Kd.R_alloc | apply Kd.R_drewN | apply Kd.R_drew)); exact Kd.R_mono (Kd.R_far (p := ⟨gb157, 1, none⟩) (Kd.R_far (p := ⟨gb157, 0, none⟩) (Kd.R_types HO_203001.out BK157.out (by decide)) (fun _ hk => hk.2) (.int .i64 t198)) (fun _ hk => hk.2) (.slice Ao69 x203001_3.length co69)) (fun _ hk => trivial), by repeat (first | (with_reducible first | exact HB.out | apply below_alloc | apply pw_below_drewN | apply below_drew1 | refine below_set ?_ GE157.out | refine below_set ?_ GE202.out) | exact HB.out)⟩
            · replace c44 := Bool.eq_false_iff.mpr c44
              subst c44
              have H1 : (if a0.toList = ([112, 101, 116, 101, 114, 115, 101, 110] : List UInt8) then ((spec_l01Empty.f 10).bind fun bt205 => (spec_l01Named.l2 kj40 0 bt205.1 bt205.2)) else (if a0.toList = ([105, 99, 111, 115, 97, 104, 101, 100, 114, 111, 110] : List UInt8) then ((spec_l01Empty.f 12).bind fun bt213 => (spec_l01Named.l3 kj40 0 bt213.1 bt213.2)) else (if a0.toList = ([104, 111, 102, 102, 109, 97, 110, 115, 105, 110, 103, 108, 101, 116, 111, 110] : List UInt8) then ((spec_l01Empty.f 50).bind fun bt224 => (spec_l01Named.l4 kj40 0 bt224.1 bt224.2)) else (if a0.toList = ([104, 101, 97, 119, 111, 111, 100] : List UInt8) then ((spec_l01Jumps.f kj40 14 (([5, 9] : List Int))).bind fun bt235 => (some (bt235.1, bt235.2, true))) else (if a0.toList = ([109, 111, 101, 98, 105, 117, 115, 107, 97, 110, 116, 111, 114] : List UInt8) then ((spec_l01Jumps.f kj40 16 (([5, 11] : List Int))).bind fun bt242 => (some (bt242.1, bt242.2, true))) else (if a0.toList = ([112, 97, 112, 112, 117, 115] : List UInt8) then ((spec_l01Jumps.f kj40 18 (([5, 7, 11, 7, 11, 13] : List Int))).bind fun bt249 => (some (bt249.1, bt249.2, true))) else (if a0.toList = ([100, 101, 115, 97, 114, 103, 117, 101, 115] : List UInt8) then ((spec_l01Jumps.f kj40 20 (([5, 15, 9, 11] : List Int))).bind fun bt256 => (some (bt256.1, bt256.2, true))) else (if a0.toList = ([100, 111, 100, 101, 99, 97, 104, 101, 100, 114, 111, 110] : List UInt8) then ((spec_l01Jumps.f kj40 20 (([10, 7, 4, 16, 13, 10, 16, 7, 13, 4] : List Int))).bind fun bt263 => (some (bt263.1, bt263.2, true))) else (if a0.toList = ([109, 99, 103, 101, 101] : List UInt8) then ((spec_l01Jumps.f kj40 24 (([12, 7, 17] : List Int))).bind fun bt270 => (some (bt270.1, bt270.2, true))) else (if a0.toList = ([116, 117, 116, 116, 101, 99, 111, 120, 101, 116, 101, 114] : List UInt8) then ((spec_l01Jumps.f kj40 30 (([17, 21, 7, 23, 9, 13] : List Int))).bind fun bt277 => (some (bt277.1, bt277.2, true))) else (some (0, ([] : List Int), false)))))))))))) = some (r1, r2, r3) := by rw [if_neg (show ¬ (false = true) by decide)] at H; exact H
              clear H
              have H := H1
              clear H1
              by_cases c70 : a0.toList = ([112, 101, 116, 101, 114, 115, 101, 110] : List UInt8)
              · rw [if_pos c70] at H
                have c70b0 : (a0.toList == ([112, 101, 116, 101, 114, 115, 101, 110] : List UInt8)) = true := beq_iff_eq.mpr c70
                have c70b1 : (a0.toList != ([112, 101, 116, 101, 114, 115, 101, 110] : List UInt8)) = false := bne_eq_false_iff_eq.mpr c70
                clear c70
                replace H := Option.bind_eq_some_iff.mp H
                obtain ⟨⟨t205, t206⟩, A710, H⟩ := H
                replace H : (spec_l01Named.l2 kj40 0 t205 t206) = some (r1, r2, r3) := H
                have A71 := Aside0.mk A710
                clear A710
                have H' := Aside0.mk H
                clear H
                go_wp2_with (first | ((with_reducible refine gate_callee (f := 48) rfl ?_); refine goesL_ (some 67) rfl rfl Try.func48 (by kernel_rfl) rfl #[.int .i64 10] rfl (by (try simp only [List.map_toArray, List.map_cons, List.map_nil]); first | done | rfl | (simp only [List.length_drop, List.length_take]; rfl)) ?_; (with_reducible refine (spec_l01Empty.calls 10 t205 t206 _ A71.out).mono ?_); rintro e w72 ⟨v207, rfl, ho0, hb⟩; refine ⟨_, rfl, ?_⟩; have n0_ := Aside0.mk (Kd.R_lower ho0 (below_size (by repeat (first | (with_reducible first | exact HB.out | apply below_alloc | apply pw_below_drewN | apply below_drew1 | refine below_set ?_ GE157.out) | exact HB.out)))); have n1_ := Aside0.mk (blk_below (g := gb157) (o := .cells #[.int .i64 0, .slice none 0 0] 34 (0, 0)) (by (with_reducible repeat (first | refine blk_drewN ?_ _ | refine blk_drew ?_ | refine blk_alloc ?_ _)); exact BK157.out) hb); have n2_ := Aside0.mk (below_step (by repeat (first | (with_reducible first | exact HB.out | apply below_alloc | apply pw_below_drewN | apply below_drew1 | refine below_set ?_ GE157.out) | exact HB.out)) hb); clear BK157; clear HB; have HO208 := n0_; have BK157 := n1_; have HB := n2_; clear n0_ n1_ n2_; (try clear hb); (try clear hb2); (try clear hk); (try clear hi); (try clear ho0)) | ((with_reducible refine gate_dst (N := 8) rfl ?_); refine box_event ?hg (N := 8) ?hd (cs := #[.int .i64 0, .slice none 0 0]) (t := 34) ?hr ?_; (case hd => rfl); (case hg => rfl); (case hr => first | (go_simp; done) | (go_simp; rfl)); intro gb209 hg w73 hbox hb; have n0_ := Aside0.mk (Kd.R_below (by (with_reducible repeat (first | apply Kd.R_alloc | apply Kd.R_drewN | apply Kd.R_drew)); exact HO208.out) hb); have n1_ := Aside0.mk (blk_below (g := gb157) (o := .cells #[.int .i64 0, .slice none 0 0] 34 (0, 0)) (by (with_reducible repeat (first | refine blk_drewN ?_ _ | refine blk_drew ?_ | refine blk_alloc ?_ _)); exact BK157.out) hb); have n2_ := Aside0.mk (below_step (by repeat (first | (with_reducible first | exact HB.out | apply below_alloc | apply pw_below_drewN | apply below_drew1 | refine below_set ?_ GE157.out) | exact HB.out)) hb); have n3_ := Aside0.mk (hbox); have n4_ := Aside0.mk ((by rw [hg]; exact (below_size (by repeat (first | (with_reducible first | exact HB.out | apply below_alloc | apply pw_below_drewN | apply below_drew1 | refine below_set ?_ GE157.out) | exact HB.out))) : w.heap.size ≤ gb209)); have n5_ := Aside0.mk ((by rw [hg]; exact (below_size (by repeat (first | (with_reducible first | exact HB.out | apply below_alloc | apply pw_below_drewN | apply below_drew1 | refine below_set ?_ GE157.out) | exact HB.out))) : w.heap.size ≤ gb209)); have n6_ := Aside0.mk ((by rw [hg]; exact Nat.ne_of_lt (blk_lt (g := gb157) (o := .cells #[.int .i64 0, .slice none 0 0] 34 (0, 0)) (by (with_reducible repeat (first | refine blk_drewN ?_ _ | refine blk_drew ?_ | refine blk_alloc ?_ _)); exact BK157.out)) : gb157 ≠ gb209)); have n7_ := Aside0.mk ((by rw [hg]; exact Nat.ne_of_gt (blk_lt (g := gb157) (o := .cells #[.int .i64 0, .slice none 0 0] 34 (0, 0)) (by (with_reducible repeat (first | refine blk_drewN ?_ _ | refine blk_drew ?_ | refine blk_alloc ?_ _)); exact BK157.out)) : gb209 ≠ gb157)); clear HO208; clear BK157; clear HB; have HO208 := n0_; have BK157 := n1_; have HB := n2_; have BK209 := n3_; have GW209 := n4_; have GE209 := n5_; have NB157_209 := n6_; have NB209_157 := n7_; clear n0_ n1_ n2_ n3_ n4_ n5_ n6_ n7_; clear hb hbox hg; have hnb74 := NB209_157.out; have hnc74 := NB157_209.out; have hcz75_0 : w73.cell? ⟨gb209, 0, none⟩ = some (.int .i64 0) := (blk_cell BK209.out 0).trans rfl; have hcz75_1 : w73.cell? ⟨gb209, 1, none⟩ = some (.slice none 0 0) := (blk_cell BK209.out 1).trans rfl; have hfz75_0 := blk_frozen BK209.out 0; have hfz75_1 := blk_frozen BK209.out 1; obtain ⟨Ao76, co76, eo76⟩ := Kd.R_slice HO208.out; subst eo76))
                go_loopg [9] kj40 (fun kq v9 w' => ∃ (x9_2 : Int) (x210001_2 : List Int) (u210001 : Value), v9 = .int .i64 x9_2 ∧ Aside0 (spec_l01Named.l2 kq x9_2 t205 x210001_2 = some (r1, r2, r3)) ∧ Aside0 (kq ≤ kj40) ∧ Aside0 (Kd.R (Kd.int .i64) 2 w' w.heap.size (fun _ => True) u210001 x210001_2) ∧ Aside0 (w'.heap[gb157]? = some (.cells #[.int .i64 0, (.slice none 0 0)] 34 (0, 0))) ∧ Aside0 (w'.heap[gb209]? = some (.cells #[.int .i64 t205, u210001] 34 (0, 0))) ∧ Aside0 (Below w.heap.size w w'))
                case atStart => exact ⟨(0), (t206), (.slice Ao76 t206.length co76), (by first | rfl | (simp; done) | (simp [*]; done)), H', ⟨Nat.le_refl _⟩, ⟨by (with_reducible repeat (first | apply Kd.R_alloc | apply Kd.R_drewN | apply Kd.R_drew)); exact Kd.R_mono (Kd.R_far (p := ⟨gb209, 1, none⟩) (Kd.R_far (p := ⟨gb209, 0, none⟩) (Kd.R_types HO208.out BK209.out (by decide)) (fun _ hk => hk.2) (.int .i64 t205)) (fun _ hk => hk.2) (.slice Ao76 t206.length co76)) (fun _ hk => trivial)⟩, ⟨by (with_reducible repeat (first | refine blk_drewN ?_ _ | refine blk_drew ?_ | refine blk_alloc ?_ _)); refine blk_far ?_ NB157_209.out _; (with_reducible repeat (first | refine blk_drewN ?_ _ | refine blk_drew ?_ | refine blk_alloc ?_ _)); refine blk_far ?_ NB157_209.out _; (with_reducible repeat (first | refine blk_drewN ?_ _ | refine blk_drew ?_ | refine blk_alloc ?_ _)); exact BK157.out⟩, ⟨by (with_reducible repeat (first | refine blk_drewN ?_ _ | refine blk_drew ?_ | refine blk_alloc ?_ _)); refine blk_put (cs := #[.int .i64 t205, .slice none 0 0]) ?_ 1 _ rfl; (with_reducible repeat (first | refine blk_drewN ?_ _ | refine blk_drew ?_ | refine blk_alloc ?_ _)); refine blk_put (cs := #[.int .i64 0, .slice none 0 0]) ?_ 0 _ rfl; (with_reducible repeat (first | refine blk_drewN ?_ _ | refine blk_drew ?_ | refine blk_alloc ?_ _)); exact BK209.out⟩, ⟨by repeat (first | (with_reducible first | exact HB.out | apply below_alloc | apply pw_below_drewN | apply below_drew1 | refine below_set ?_ GE157.out | refine below_set ?_ GE209.out) | exact HB.out)⟩⟩
                case round =>
                  clear H'
                  try clear c1
                  try clear c2
                  try clear c2b0
                  try clear c2b1
                  try clear p2
                  try clear c4
                  try clear c5
                  try clear c6
                  try clear p6
                  try clear c7
                  try clear c8
                  try clear c11
                  try clear c11b0
                  try clear c11b1
                  try clear c20
                  try clear c20b0
                  try clear c20b1
                  try clear c43
                  try clear c43b0
                  try clear c43b1
                  try clear c44
                  try clear c46
                  try clear c46b0
                  try clear c46b1
                  try clear c48
                  try clear c49
                  try clear c50
                  try clear c53
                  try clear c53b0
                  try clear c54
                  try clear c54b0
                  try clear c56
                  try clear c60
                  try clear c60b0
                  try clear c60b1
                  try clear c62
                  try clear c64
                  try clear p64
                  try clear c66
                  try clear c70
                  try clear c70b0
                  try clear c70b1
                  try clear c74
                  try clear hcz18_0
                  try clear hcz18_1
                  try clear hcz39_0
                  try clear hcz39_1
                  try clear hcz51_0
                  try clear hcz51_1
                  try clear hcz57_0
                  try clear hcz57_1
                  try clear hcz63_0
                  try clear hcz63_1
                  try clear hcz67_0
                  try clear hcz67_1
                  try clear hcz68_0
                  try clear hcz68_1
                  try clear hcz75_0
                  try clear hcz75_1
                  try clear hcz9_0
                  try clear hcz9_1
                  try clear hfz18_0
                  try clear hfz18_1
                  try clear hfz39_0
                  try clear hfz39_1
                  try clear hfz51_0
                  try clear hfz51_1
                  try clear hfz57_0
                  try clear hfz57_1
                  try clear hfz63_0
                  try clear hfz63_1
                  try clear hfz67_0
                  try clear hfz67_1
                  try clear hfz68_0
                  try clear hfz68_1
                  try clear hfz75_0
                  try clear hfz75_1
                  try clear hfz9_0
                  try clear hfz9_1
                  try clear p2
                  obtain ⟨x9_2, x210001_2, u210001, rfl, HA, HK2, HO_210001, BK157, BK209, HB⟩ := hrel
                  cases gk with
                  | zero => exact absurd HA.out (by simp [spec_l01Named.l2])
                  | succ k2 =>
                    have H := HA.out
                    clear HA
                    simp only [spec_l01Named.l2] at H
                    by_cases c77 : x9_2 < 5
                    · rw [if_pos c77] at H
                      have c77b0 : decide (x9_2 < 5) = true := decide_eq_true c77
                      clear c77
                      replace H := Option.bind_eq_some_iff.mp H
                      obtain ⟨t210, A780, H⟩ := H
                      replace H : ((spec_l01Put.f t205 t210 x9_2 (wrap64 (x9_2 + 5))).bind fun t211 => ((spec_l01Put.f t205 t211 (wrap64 (x9_2 + 5)) (wrap64 ((Int.tmod (wrap64 (x9_2 + 2)) 5) + 5))).bind fun t212 => (spec_l01Named.l2 k2 (wrap64 (x9_2 + 1)) t205 t212))) = some (r1, r2, r3) := H
                      have A78 := Aside0.mk A780
                      clear A780
                      replace H := Option.bind_eq_some_iff.mp H
                      obtain ⟨t211, A790, H⟩ := H
                      replace H : ((spec_l01Put.f t205 t211 (wrap64 (x9_2 + 5)) (wrap64 ((Int.tmod (wrap64 (x9_2 + 2)) 5) + 5))).bind fun t212 => (spec_l01Named.l2 k2 (wrap64 (x9_2 + 1)) t205 t212)) = some (r1, r2, r3) := H
                      have A79 := Aside0.mk A790
                      clear A790
                      replace H := Option.bind_eq_some_iff.mp H
                      obtain ⟨t212, A800, H⟩ := H
                      replace H : (spec_l01Named.l2 k2 (wrap64 (x9_2 + 1)) t205 t212) = some (r1, r2, r3) := H
                      have A80 := Aside0.mk A800
                      clear A800
                      have H' := Aside0.mk H
                      clear H
                      have hnb81 := NB209_157.out
                      have hnc81 := NB157_209.out
                      have hcz82_0 : wr.cell? ⟨gb209, 0, none⟩ = some (.int .i64 t205) := (blk_cell BK209.out 0).trans rfl
                      have hcz82_1 : wr.cell? ⟨gb209, 1, none⟩ = some (u210001) := (blk_cell BK209.out 1).trans rfl
                      have hfz82_0 := blk_frozen BK209.out 0
                      have hfz82_1 := blk_frozen BK209.out 1
                      obtain ⟨Ao83, co83, eo83⟩ := Kd.R_slice HO_210001.out
                      subst eo83
                      go_wp2_with (first | ((with_reducible refine gate_callee (f := 49) rfl ?_); refine goesL_ (some 77) rfl rfl Try.func49 (by kernel_rfl) rfl #[.agg #[.int .i64 t205, .slice Ao83 x210001_2.length co83], .int .i64 x9_2, .int .i64 (Int.tmod (wrap64 (x9_2 + 1)) 5)] rfl (by (try simp only [List.map_toArray, List.map_cons, List.map_nil]); first | done | rfl | (simp only [List.length_drop, List.length_take]; rfl)) ?_; (with_reducible refine (spec_l01Put.calls t205 (fun k_ => some k_ = (.slice Ao83 x210001_2.length co83 : Value).ownBlock) (.slice Ao83 x210001_2.length co83) x210001_2 x9_2 (Int.tmod (wrap64 (x9_2 + 1)) 5) t210 w _ ?side1 ?side2 A78.out).mono ?_); (case side1 => repeat (first | (with_reducible first | exact HB.out | apply below_alloc | apply pw_below_drewN | apply below_drew1 | refine below_set ?_ GE157.out | refine below_set ?_ GE209.out) | exact HB.out)); (case side2 => exact Kd.R_tight rfl HO_210001.out); rintro e w84 ⟨rfl, hy0, hb, hkp⟩; refine ⟨_, rfl, ?_⟩; have n0_ := Aside0.mk (Kd.R_reok rfl hy0 (fun k_ e_ => HO_210001.out.1 k_ e_)); have n1_ := Aside0.mk (blk_kept (by (with_reducible repeat (first | refine blk_drewN ?_ _ | refine blk_drew ?_ | refine blk_alloc ?_ _)); exact BK157.out) hkp (fun hs_ => (fun e_ => (Kd.R_ne HO_210001.out BK157.out (by decide)) e_) hs_)); have n2_ := Aside0.mk (blk_kept (by (with_reducible repeat (first | refine blk_drewN ?_ _ | refine blk_drew ?_ | refine blk_alloc ?_ _)); exact BK209.out) hkp (fun hs_ => (fun e_ => (Kd.R_ne HO_210001.out BK209.out (by decide)) e_) hs_)); have n3_ := Aside0.mk (hb); clear HO_210001; clear BK157; clear BK209; clear HB; have HO_210001 := n0_; have BK157 := n1_; have BK209 := n2_; have HB := n3_; clear n0_ n1_ n2_ n3_; (try clear hb); (try clear hkp); (try clear hy0); have hcz85_0 : w84.cell? ⟨gb209, 0, none⟩ = some (.int .i64 t205) := (blk_cell BK209.out 0).trans rfl; have hcz85_1 : w84.cell? ⟨gb209, 1, none⟩ = some (.slice Ao83 x210001_2.length co83) := (blk_cell BK209.out 1).trans rfl; have hfz85_0 := blk_frozen BK209.out 0; have hfz85_1 := blk_frozen BK209.out 1) | ((with_reducible refine gate_callee (f := 49) rfl ?_); refine goesL_ (some 82) rfl rfl Try.func49 (by kernel_rfl) rfl #[.agg #[.int .i64 t205, .slice Ao83 x210001_2.length co83], .int .i64 x9_2, .int .i64 (wrap64 (x9_2 + 5))] rfl (by (try simp only [List.map_toArray, List.map_cons, List.map_nil]); first | done | rfl | (simp only [List.length_drop, List.length_take]; rfl)) ?_; (with_reducible refine (spec_l01Put.calls t205 (fun k_ => some k_ = (.slice Ao83 x210001_2.length co83 : Value).ownBlock) (.slice Ao83 x210001_2.length co83) t210 x9_2 (wrap64 (x9_2 + 5)) t211 w _ ?side1 ?side2 A79.out).mono ?_); (case side1 => repeat (first | (with_reducible first | exact HB.out | apply below_alloc | apply pw_below_drewN | apply below_drew1 | refine below_set ?_ GE157.out | refine below_set ?_ GE209.out) | exact HB.out)); (case side2 => exact Kd.R_tight rfl HO_210001.out); rintro e w86 ⟨rfl, hy0, hb, hkp⟩; refine ⟨_, rfl, ?_⟩; have n0_ := Aside0.mk (Kd.R_reok rfl hy0 (fun k_ e_ => HO_210001.out.1 k_ e_)); have n1_ := Aside0.mk (blk_kept (by (with_reducible repeat (first | refine blk_drewN ?_ _ | refine blk_drew ?_ | refine blk_alloc ?_ _)); exact BK157.out) hkp (fun hs_ => (fun e_ => (Kd.R_ne HO_210001.out BK157.out (by decide)) e_) hs_)); have n2_ := Aside0.mk (blk_kept (by (with_reducible repeat (first | refine blk_drewN ?_ _ | refine blk_drew ?_ | refine blk_alloc ?_ _)); exact BK209.out) hkp (fun hs_ => (fun e_ => (Kd.R_ne HO_210001.out BK209.out (by decide)) e_) hs_)); have n3_ := Aside0.mk (hb); clear HO_210001; clear BK157; clear BK209; clear HB; have HO_210001 := n0_; have BK157 := n1_; have BK209 := n2_; have HB := n3_; clear n0_ n1_ n2_ n3_; (try clear hb); (try clear hkp); (try clear hy0); have hcz87_0 : w86.cell? ⟨gb209, 0, none⟩ = some (.int .i64 t205) := (blk_cell BK209.out 0).trans rfl; have hcz87_1 : w86.cell? ⟨gb209, 1, none⟩ = some (.slice Ao83 x210001_2.length co83) := (blk_cell BK209.out 1).trans rfl; have hfz87_0 := blk_frozen BK209.out 0; have hfz87_1 := blk_frozen BK209.out 1) | ((with_reducible refine gate_callee (f := 49) rfl ?_); refine goesL_ (some 90) rfl rfl Try.func49 (by kernel_rfl) rfl #[.agg #[.int .i64 t205, .slice Ao83 x210001_2.length co83], .int .i64 (wrap64 (x9_2 + 5)), .int .i64 (wrap64 ((Int.tmod (wrap64 (x9_2 + 2)) 5) + 5))] rfl (by (try simp only [List.map_toArray, List.map_cons, List.map_nil]); first | done | rfl | (simp only [List.length_drop, List.length_take]; rfl)) ?_; (with_reducible refine (spec_l01Put.calls t205 (fun k_ => some k_ = (.slice Ao83 x210001_2.length co83 : Value).ownBlock) (.slice Ao83 x210001_2.length co83) t211 (wrap64 (x9_2 + 5)) (wrap64 ((Int.tmod (wrap64 (x9_2 + 2)) 5) + 5)) t212 w _ ?side1 ?side2 A80.out).mono ?_); (case side1 => repeat (first | (with_reducible first | exact HB.out | apply below_alloc | apply pw_below_drewN | apply below_drew1 | refine below_set ?_ GE157.out | refine below_set ?_ GE209.out) | exact HB.out)); (case side2 => exact Kd.R_tight rfl HO_210001.out); rintro e w88 ⟨rfl, hy0, hb, hkp⟩; refine ⟨_, rfl, ?_⟩; have n0_ := Aside0.mk (Kd.R_reok rfl hy0 (fun k_ e_ => HO_210001.out.1 k_ e_)); have n1_ := Aside0.mk (blk_kept (by (with_reducible repeat (first | refine blk_drewN ?_ _ | refine blk_drew ?_ | refine blk_alloc ?_ _)); exact BK157.out) hkp (fun hs_ => (fun e_ => (Kd.R_ne HO_210001.out BK157.out (by decide)) e_) hs_)); have n2_ := Aside0.mk (blk_kept (by (with_reducible repeat (first | refine blk_drewN ?_ _ | refine blk_drew ?_ | refine blk_alloc ?_ _)); exact BK209.out) hkp (fun hs_ => (fun e_ => (Kd.R_ne HO_210001.out BK209.out (by decide)) e_) hs_)); have n3_ := Aside0.mk (hb); clear HO_210001; clear BK157; clear BK209; clear HB; have HO_210001 := n0_; have BK157 := n1_; have BK209 := n2_; have HB := n3_; clear n0_ n1_ n2_ n3_; (try clear hb); (try clear hkp); (try clear hy0)))
                      go_roundg k2
                      case measure => have := HJ40.out; have := HK2.out; omega
                      case rel => exact ⟨(wrap64 (x9_2 + 1)), (t212), (.slice Ao83 x210001_2.length co83), (by first | rfl | (simp; done) | (simp [*]; done)), H', ⟨by have := HJ40.out; have := HK2.out; omega⟩, ⟨by (with_reducible repeat (first | apply Kd.R_alloc | apply Kd.R_drewN | apply Kd.R_drew)); exact HO_210001.out⟩, ⟨by (with_reducible repeat (first | refine blk_drewN ?_ _ | refine blk_drew ?_ | refine blk_alloc ?_ _)); exact BK157.out⟩, ⟨by (with_reducible repeat (first | refine blk_drewN ?_ _ | refine blk_drew ?_ | refine blk_alloc ?_ _)); exact BK209.out⟩, ⟨by repeat (first | (with_reducible first | exact HB.out | apply below_alloc | apply pw_below_drewN | apply below_drew1 | refine below_set ?_ GE157.out | refine below_set ?_ GE209.out) | exact HB.out)⟩⟩
                    · rw [if_neg c77] at H
                      have c77b0 : decide (x9_2 < 5) = false := decide_eq_false c77
                      clear c77
                      simp only [Option.some.injEq, Prod.mk.injEq] at H
                      obtain ⟨rfl, rfl, rfl⟩ := H
                      have hnb89 := NB209_157.out
                      have hnc89 := NB157_209.out
                      have hcz90_0 : wr.cell? ⟨gb209, 0, none⟩ = some (.int .i64 t205) := (blk_cell BK209.out 0).trans rfl
                      have hcz90_1 : wr.cell? ⟨gb209, 1, none⟩ = some (u210001) := (blk_cell BK209.out 1).trans rfl
                      have hfz90_0 := blk_frozen BK209.out 0
                      have hfz90_1 := blk_frozen BK209.out 1
                      have hcz91_0 : wr.cell? ⟨gb157, 0, none⟩ = some (.int .i64 0) := (blk_cell BK157.out 0).trans rfl
                      have hcz91_1 : wr.cell? ⟨gb157, 1, none⟩ = some (.slice none 0 0) := (blk_cell BK157.out 1).trans rfl
                      have hfz91_0 := blk_frozen BK157.out 0
                      have hfz91_1 := blk_frozen BK157.out 1
                      obtain ⟨Ao92, co92, eo92⟩ := Kd.R_slice HO_210001.out
                      subst eo92
                      go_wp2
                      refine bodyPost_ret (results_ct rfl _ _ gb157 34 #[.int .i64 t205, .slice Ao92 x210001_2.length co92] (0, 0) _ rfl (by (with_reducible repeat (first | refine blk_drewN ?_ _ | refine blk_drew ?_ | refine blk_alloc ?_ _)); refine blk_put (cs := #[.int .i64 t205, .slice none 0 0]) ?_ 1 _ rfl; (with_reducible repeat (first | refine blk_drewN ?_ _ | refine blk_drew ?_ | refine blk_alloc ?_ _)); refine blk_put (cs := #[.int .i64 0, .slice none 0 0]) ?_ 0 _ rfl; (with_reducible repeat (first | refine blk_drewN ?_ _ | refine blk_drew ?_ | refine blk_alloc ?_ _)); exact BK157.out) Try.underlying34 rfl (by kernel_rfl)) rfl ?_
                      exact ⟨_, by first | rfl | (simp [errW_none, errW_some] <;> rfl) | (simp [*, errW_none, errW_some] <;> rfl), by (with_reducible repeat (first | apply Kd.R_alloc | apply Kd.R_drewN | apply Kd.R_drew)); exact Kd.R_mono (Kd.R_far (p := ⟨gb157, 1, none⟩) (Kd.R_far (p := ⟨gb157, 0, none⟩) (Kd.R_types HO_210001.out BK157.out (by decide)) (fun _ hk => hk.2) (.int .i64 t205)) (fun _ hk => hk.2) (.slice Ao92 x210001_2.length co92)) (fun _ hk => trivial), by repeat (first | (with_reducible first | exact HB.out | apply below_alloc | apply pw_below_drewN | apply below_drew1 | refine below_set ?_ GE157.out | refine below_set ?_ GE209.out) | exact HB.out)⟩
              · rw [if_neg c70] at H
                have c70b0 : (a0.toList == ([112, 101, 116, 101, 114, 115, 101, 110] : List UInt8)) = false := beq_eq_false_iff_ne.mpr c70
                have c70b1 : (a0.toList != ([112, 101, 116, 101, 114, 115, 101, 110] : List UInt8)) = true := bne_iff_ne.mpr c70
                by_cases c93 : a0.toList = ([105, 99, 111, 115, 97, 104, 101, 100, 114, 111, 110] : List UInt8)
                · rw [if_pos c93] at H
                  have c93b0 : (a0.toList == ([105, 99, 111, 115, 97, 104, 101, 100, 114, 111, 110] : List UInt8)) = true := beq_iff_eq.mpr c93
                  have c93b1 : (a0.toList != ([105, 99, 111, 115, 97, 104, 101, 100, 114, 111, 110] : List UInt8)) = false := bne_eq_false_iff_eq.mpr c93
                  clear c93
                  replace H := Option.bind_eq_some_iff.mp H
                  obtain ⟨⟨t213, t214⟩, A940, H⟩ := H
                  replace H : (spec_l01Named.l3 kj40 0 t213 t214) = some (r1, r2, r3) := H
                  have A94 := Aside0.mk A940
                  clear A940
                  have H' := Aside0.mk H
                  clear H
                  go_wp2_with (first | ((with_reducible refine gate_callee (f := 48) rfl ?_); refine goesL_ (some 94) rfl rfl Try.func48 (by kernel_rfl) rfl #[.int .i64 12] rfl (by (try simp only [List.map_toArray, List.map_cons, List.map_nil]); first | done | rfl | (simp only [List.length_drop, List.length_take]; rfl)) ?_; (with_reducible refine (spec_l01Empty.calls 12 t213 t214 _ A94.out).mono ?_); rintro e w95 ⟨v215, rfl, ho0, hb⟩; refine ⟨_, rfl, ?_⟩; have n0_ := Aside0.mk (Kd.R_lower ho0 (below_size (by repeat (first | (with_reducible first | exact HB.out | apply below_alloc | apply pw_below_drewN | apply below_drew1 | refine below_set ?_ GE157.out) | exact HB.out)))); have n1_ := Aside0.mk (blk_below (g := gb157) (o := .cells #[.int .i64 0, .slice none 0 0] 34 (0, 0)) (by (with_reducible repeat (first | refine blk_drewN ?_ _ | refine blk_drew ?_ | refine blk_alloc ?_ _)); exact BK157.out) hb); have n2_ := Aside0.mk (below_step (by repeat (first | (with_reducible first | exact HB.out | apply below_alloc | apply pw_below_drewN | apply below_drew1 | refine below_set ?_ GE157.out) | exact HB.out)) hb); clear BK157; clear HB; have HO216 := n0_; have BK157 := n1_; have HB := n2_; clear n0_ n1_ n2_; (try clear hb); (try clear hb2); (try clear hk); (try clear hi); (try clear ho0)) | ((with_reducible refine gate_dst (N := 10) rfl ?_); refine box_event ?hg (N := 10) ?hd (cs := #[.int .i64 0, .slice none 0 0]) (t := 34) ?hr ?_; (case hd => rfl); (case hg => rfl); (case hr => first | (go_simp; done) | (go_simp; rfl)); intro gb217 hg w96 hbox hb; have n0_ := Aside0.mk (Kd.R_below (by (with_reducible repeat (first | apply Kd.R_alloc | apply Kd.R_drewN | apply Kd.R_drew)); exact HO216.out) hb); have n1_ := Aside0.mk (blk_below (g := gb157) (o := .cells #[.int .i64 0, .slice none 0 0] 34 (0, 0)) (by (with_reducible repeat (first | refine blk_drewN ?_ _ | refine blk_drew ?_ | refine blk_alloc ?_ _)); exact BK157.out) hb); have n2_ := Aside0.mk (below_step (by repeat (first | (with_reducible first | exact HB.out | apply below_alloc | apply pw_below_drewN | apply below_drew1 | refine below_set ?_ GE157.out) | exact HB.out)) hb); have n3_ := Aside0.mk (hbox); have n4_ := Aside0.mk ((by rw [hg]; exact (below_size (by repeat (first | (with_reducible first | exact HB.out | apply below_alloc | apply pw_below_drewN | apply below_drew1 | refine below_set ?_ GE157.out) | exact HB.out))) : w.heap.size ≤ gb217)); have n5_ := Aside0.mk ((by rw [hg]; exact (below_size (by repeat (first | (with_reducible first | exact HB.out | apply below_alloc | apply pw_below_drewN | apply below_drew1 | refine below_set ?_ GE157.out) | exact HB.out))) : w.heap.size ≤ gb217)); have n6_ := Aside0.mk ((by rw [hg]; exact Nat.ne_of_lt (blk_lt (g := gb157) (o := .cells #[.int .i64 0, .slice none 0 0] 34 (0, 0)) (by (with_reducible repeat (first | refine blk_drewN ?_ _ | refine blk_drew ?_ | refine blk_alloc ?_ _)); exact BK157.out)) : gb157 ≠ gb217)); have n7_ := Aside0.mk ((by rw [hg]; exact Nat.ne_of_gt (blk_lt (g := gb157) (o := .cells #[.int .i64 0, .slice none 0 0] 34 (0, 0)) (by (with_reducible repeat (first | refine blk_drewN ?_ _ | refine blk_drew ?_ | refine blk_alloc ?_ _)); exact BK157.out)) : gb217 ≠ gb157)); clear HO216; clear BK157; clear HB; have HO216 := n0_; have BK157 := n1_; have HB := n2_; have BK217 := n3_; have GW217 := n4_; have GE217 := n5_; have NB157_217 := n6_; have NB217_157 := n7_; clear n0_ n1_ n2_ n3_ n4_ n5_ n6_ n7_; clear hb hbox hg; have hnb97 := NB217_157.out; have hnc97 := NB157_217.out; have hcz98_0 : w96.cell? ⟨gb217, 0, none⟩ = some (.int .i64 0) := (blk_cell BK217.out 0).trans rfl; have hcz98_1 : w96.cell? ⟨gb217, 1, none⟩ = some (.slice none 0 0) := (blk_cell BK217.out 1).trans rfl; have hfz98_0 := blk_frozen BK217.out 0; have hfz98_1 := blk_frozen BK217.out 1; obtain ⟨Ao99, co99, eo99⟩ := Kd.R_slice HO216.out; subst eo99))
                  go_loopg [11] kj40 (fun kq v11 w' => ∃ (x11_2 : Int) (x218001_2 : List Int) (u218001 : Value), v11 = .int .i64 x11_2 ∧ Aside0 (spec_l01Named.l3 kq x11_2 t213 x218001_2 = some (r1, r2, r3)) ∧ Aside0 (kq ≤ kj40) ∧ Aside0 (Kd.R (Kd.int .i64) 2 w' w.heap.size (fun _ => True) u218001 x218001_2) ∧ Aside0 (w'.heap[gb157]? = some (.cells #[.int .i64 0, (.slice none 0 0)] 34 (0, 0))) ∧ Aside0 (w'.heap[gb217]? = some (.cells #[.int .i64 t213, u218001] 34 (0, 0))) ∧ Aside0 (Below w.heap.size w w'))
                  case atStart => exact ⟨(0), (t214), (.slice Ao99 t214.length co99), (by first | rfl | (simp; done) | (simp [*]; done)), H', ⟨Nat.le_refl _⟩, ⟨by (with_reducible repeat (first | apply Kd.R_alloc | apply Kd.R_drewN | apply Kd.R_drew)); exact Kd.R_mono (Kd.R_far (p := ⟨gb217, 1, none⟩) (Kd.R_far (p := ⟨gb217, 0, none⟩) (Kd.R_types HO216.out BK217.out (by decide)) (fun _ hk => hk.2) (.int .i64 t213)) (fun _ hk => hk.2) (.slice Ao99 t214.length co99)) (fun _ hk => trivial)⟩, ⟨by (with_reducible repeat (first | refine blk_drewN ?_ _ | refine blk_drew ?_ | refine blk_alloc ?_ _)); refine blk_far ?_ NB157_217.out _; (with_reducible repeat (first | refine blk_drewN ?_ _ | refine blk_drew ?_ | refine blk_alloc ?_ _)); refine blk_far ?_ NB157_217.out _; (with_reducible repeat (first | refine blk_drewN ?_ _ | refine blk_drew ?_ | refine blk_alloc ?_ _)); exact BK157.out⟩, ⟨by (with_reducible repeat (first | refine blk_drewN ?_ _ | refine blk_drew ?_ | refine blk_alloc ?_ _)); refine blk_put (cs := #[.int .i64 t213, .slice none 0 0]) ?_ 1 _ rfl; (with_reducible repeat (first | refine blk_drewN ?_ _ | refine blk_drew ?_ | refine blk_alloc ?_ _)); refine blk_put (cs := #[.int .i64 0, .slice none 0 0]) ?_ 0 _ rfl; (with_reducible repeat (first | refine blk_drewN ?_ _ | refine blk_drew ?_ | refine blk_alloc ?_ _)); exact BK217.out⟩, ⟨by repeat (first | (with_reducible first | exact HB.out | apply below_alloc | apply pw_below_drewN | apply below_drew1 | refine below_set ?_ GE157.out | refine below_set ?_ GE217.out) | exact HB.out)⟩⟩
                  case round =>
                    clear H'
                    try clear c1
                    try clear c2
                    try clear c2b0
                    try clear c2b1
                    try clear p2
                    try clear c4
                    try clear c5
                    try clear c6
                    try clear p6
                    try clear c7
                    try clear c8
                    try clear c9
                    try clear c11
                    try clear c11b0
                    try clear c11b1
                    try clear c20
                    try clear c20b0
                    try clear c20b1
                    try clear c43
                    try clear c43b0
                    try clear c43b1
                    try clear c44
                    try clear c46
                    try clear c46b0
                    try clear c46b1
                    try clear c48
                    try clear c49
                    try clear c50
                    try clear c53
                    try clear c53b0
                    try clear c54
                    try clear c54b0
                    try clear c56
                    try clear c60
                    try clear c60b0
                    try clear c60b1
                    try clear c62
                    try clear c64
                    try clear p64
                    try clear c66
                    try clear c70
                    try clear c70b0
                    try clear c70b1
                    try clear c74
                    try clear c77
                    try clear c77b0
                    try clear c81
                    try clear c83
                    try clear c89
                    try clear c93
                    try clear c93b0
                    try clear c93b1
                    try clear c97
                    try clear hcz18_0
                    try clear hcz18_1
                    try clear hcz39_0
                    try clear hcz39_1
                    try clear hcz51_0
                    try clear hcz51_1
                    try clear hcz57_0
                    try clear hcz57_1
                    try clear hcz63_0
                    try clear hcz63_1
                    try clear hcz67_0
                    try clear hcz67_1
                    try clear hcz68_0
                    try clear hcz68_1
                    try clear hcz75_0
                    try clear hcz75_1
                    try clear hcz82_0
                    try clear hcz82_1
                    try clear hcz85_0
                    try clear hcz85_1
                    try clear hcz87_0
                    try clear hcz87_1
                    try clear hcz90_0
                    try clear hcz90_1
                    try clear hcz91_0
                    try clear hcz91_1
                    try clear hcz98_0
                    try clear hcz98_1
                    try clear hcz9_0
                    try clear hcz9_1
                    try clear hfz18_0
                    try clear hfz18_1
                    try clear hfz39_0
                    try clear hfz39_1
                    try clear hfz51_0
                    try clear hfz51_1
                    try clear hfz57_0
                    try clear hfz57_1
                    try clear hfz63_0
                    try clear hfz63_1
                    try clear hfz67_0
                    try clear hfz67_1
                    try clear hfz68_0
                    try clear hfz68_1
                    try clear hfz75_0
                    try clear hfz75_1
                    try clear hfz82_0
                    try clear hfz82_1
                    try clear hfz85_0
                    try clear hfz85_1
                    try clear hfz87_0
                    try clear hfz87_1
                    try clear hfz90_0
                    try clear hfz90_1
                    try clear hfz91_0
                    try clear hfz91_1
                    try clear hfz98_0
                    try clear hfz98_1
                    try clear hfz9_0
                    try clear hfz9_1
                    try clear p2
                    try clear p6
                    try clear p64
                    obtain ⟨x11_2, x218001_2, u218001, rfl, HA, HK2, HO_218001, BK157, BK217, HB⟩ := hrel
                    cases gk with
                    | zero => exact absurd HA.out (by simp [spec_l01Named.l3])
                    | succ k2 =>
                      have H := HA.out
                      clear HA
                      simp only [spec_l01Named.l3] at H
                      by_cases c100 : x11_2 < 5
                      · rw [if_pos c100] at H
                        have c100b0 : decide (x11_2 < 5) = true := decide_eq_true c100
                        clear c100
                        replace H := Option.bind_eq_some_iff.mp H
                        obtain ⟨t218, A1010, H⟩ := H
                        replace H : ((spec_l01Put.f t213 t218 11 (wrap64 (6 + x11_2))).bind fun t219 => ((spec_l01Put.f t213 t219 (wrap64 (1 + x11_2)) (wrap64 (1 + (Int.tmod (wrap64 (x11_2 + 1)) 5)))).bind fun t220 => ((spec_l01Put.f t213 t220 (wrap64 (6 + x11_2)) (wrap64 (6 + (Int.tmod (wrap64 (x11_2 + 1)) 5)))).bind fun t221 => ((spec_l01Put.f t213 t221 (wrap64 (1 + x11_2)) (wrap64 (6 + x11_2))).bind fun t222 => ((spec_l01Put.f t213 t222 (wrap64 (1 + x11_2)) (wrap64 (6 + (Int.tmod (wrap64 (x11_2 + 1)) 5)))).bind fun t223 => (spec_l01Named.l3 k2 (wrap64 (x11_2 + 1)) t213 t223)))))) = some (r1, r2, r3) := H
                        have A101 := Aside0.mk A1010
                        clear A1010
                        replace H := Option.bind_eq_some_iff.mp H
                        obtain ⟨t219, A1020, H⟩ := H
                        replace H : ((spec_l01Put.f t213 t219 (wrap64 (1 + x11_2)) (wrap64 (1 + (Int.tmod (wrap64 (x11_2 + 1)) 5)))).bind fun t220 => ((spec_l01Put.f t213 t220 (wrap64 (6 + x11_2)) (wrap64 (6 + (Int.tmod (wrap64 (x11_2 + 1)) 5)))).bind fun t221 => ((spec_l01Put.f t213 t221 (wrap64 (1 + x11_2)) (wrap64 (6 + x11_2))).bind fun t222 => ((spec_l01Put.f t213 t222 (wrap64 (1 + x11_2)) (wrap64 (6 + (Int.tmod (wrap64 (x11_2 + 1)) 5)))).bind fun t223 => (spec_l01Named.l3 k2 (wrap64 (x11_2 + 1)) t213 t223))))) = some (r1, r2, r3) := H
                        have A102 := Aside0.mk A1020
                        clear A1020
                        replace H := Option.bind_eq_some_iff.mp H
                        obtain ⟨t220, A1030, H⟩ := H
                        replace H : ((spec_l01Put.f t213 t220 (wrap64 (6 + x11_2)) (wrap64 (6 + (Int.tmod (wrap64 (x11_2 + 1)) 5)))).bind fun t221 => ((spec_l01Put.f t213 t221 (wrap64 (1 + x11_2)) (wrap64 (6 + x11_2))).bind fun t222 => ((spec_l01Put.f t213 t222 (wrap64 (1 + x11_2)) (wrap64 (6 + (Int.tmod (wrap64 (x11_2 + 1)) 5)))).bind fun t223 => (spec_l01Named.l3 k2 (wrap64 (x11_2 + 1)) t213 t223)))) = some (r1, r2, r3) := H
                        have A103 := Aside0.mk A1030
                        clear A1030
                        replace H := Option.bind_eq_some_iff.mp H
                        obtain ⟨t221, A1040, H⟩ := H
                        replace H : ((spec_l01Put.f t213 t221 (wrap64 (1 + x11_2)) (wrap64 (6 + x11_2))).bind fun t222 => ((spec_l01Put.f t213 t222 (wrap64 (1 + x11_2)) (wrap64 (6 + (Int.tmod (wrap64 (x11_2 + 1)) 5)))).bind fun t223 => (spec_l01Named.l3 k2 (wrap64 (x11_2 + 1)) t213 t223))) = some (r1, r2, r3) := H
                        have A104 := Aside0.mk A1040
                        clear A1040
                        replace H := Option.bind_eq_some_iff.mp H
                        obtain ⟨t222, A1050, H⟩ := H
                        replace H : ((spec_l01Put.f t213 t222 (wrap64 (1 + x11_2)) (wrap64 (6 + (Int.tmod (wrap64 (x11_2 + 1)) 5)))).bind fun t223 => (spec_l01Named.l3 k2 (wrap64 (x11_2 + 1)) t213 t223)) = some (r1, r2, r3) := H
                        have A105 := Aside0.mk A1050
                        clear A1050
                        replace H := Option.bind_eq_some_iff.mp H
                        obtain ⟨t223, A1060, H⟩ := H
                        replace H : (spec_l01Named.l3 k2 (wrap64 (x11_2 + 1)) t213 t223) = some (r1, r2, r3) := H
                        have A106 := Aside0.mk A1060
                        clear A1060
                        have H' := Aside0.mk H
                        clear H
                        have hnb107 := NB217_157.out
                        have hnc107 := NB157_217.out
                        have hcz108_0 : wr.cell? ⟨gb217, 0, none⟩ = some (.int .i64 t213) := (blk_cell BK217.out 0).trans rfl
                        have hcz108_1 : wr.cell? ⟨gb217, 1, none⟩ = some (u218001) := (blk_cell BK217.out 1).trans rfl
                        have hfz108_0 := blk_frozen BK217.out 0
                        have hfz108_1 := blk_frozen BK217.out 1
                        obtain ⟨Ao109, co109, eo109⟩ := Kd.R_slice HO_218001.out
                        subst eo109
                        go_wp2_with (first | ((with_reducible refine gate_callee (f := 49) rfl ?_); refine goesL_ (some 105) rfl rfl Try.func49 (by kernel_rfl) rfl #[.agg #[.int .i64 t213, .slice Ao109 x218001_2.length co109], .int .i64 0, .int .i64 (wrap64 (1 + x11_2))] rfl (by (try simp only [List.map_toArray, List.map_cons, List.map_nil]); first | done | rfl | (simp only [List.length_drop, List.length_take]; rfl)) ?_; (with_reducible refine (spec_l01Put.calls t213 (fun k_ => some k_ = (.slice Ao109 x218001_2.length co109 : Value).ownBlock) (.slice Ao109 x218001_2.length co109) x218001_2 0 (wrap64 (1 + x11_2)) t218 w _ ?side1 ?side2 A101.out).mono ?_); (case side1 => repeat (first | (with_reducible first | exact HB.out | apply below_alloc | apply pw_below_drewN | apply below_drew1 | refine below_set ?_ GE157.out | refine below_set ?_ GE217.out) | exact HB.out)); (case side2 => exact Kd.R_tight rfl HO_218001.out); rintro e w110 ⟨rfl, hy0, hb, hkp⟩; refine ⟨_, rfl, ?_⟩; have n0_ := Aside0.mk (Kd.R_reok rfl hy0 (fun k_ e_ => HO_218001.out.1 k_ e_)); have n1_ := Aside0.mk (blk_kept (by (with_reducible repeat (first | refine blk_drewN ?_ _ | refine blk_drew ?_ | refine blk_alloc ?_ _)); exact BK157.out) hkp (fun hs_ => (fun e_ => (Kd.R_ne HO_218001.out BK157.out (by decide)) e_) hs_)); have n2_ := Aside0.mk (blk_kept (by (with_reducible repeat (first | refine blk_drewN ?_ _ | refine blk_drew ?_ | refine blk_alloc ?_ _)); exact BK217.out) hkp (fun hs_ => (fun e_ => (Kd.R_ne HO_218001.out BK217.out (by decide)) e_) hs_)); have n3_ := Aside0.mk (hb); clear HO_218001; clear BK157; clear BK217; clear HB; have HO_218001 := n0_; have BK157 := n1_; have BK217 := n2_; have HB := n3_; clear n0_ n1_ n2_ n3_; (try clear hb); (try clear hkp); (try clear hy0); have hcz111_0 : w110.cell? ⟨gb217, 0, none⟩ = some (.int .i64 t213) := (blk_cell BK217.out 0).trans rfl; have hcz111_1 : w110.cell? ⟨gb217, 1, none⟩ = some (.slice Ao109 x218001_2.length co109) := (blk_cell BK217.out 1).trans rfl; have hfz111_0 := blk_frozen BK217.out 0; have hfz111_1 := blk_frozen BK217.out 1) | ((with_reducible refine gate_callee (f := 49) rfl ?_); refine goesL_ (some 109) rfl rfl Try.func49 (by kernel_rfl) rfl #[.agg #[.int .i64 t213, .slice Ao109 x218001_2.length co109], .int .i64 11, .int .i64 (wrap64 (6 + x11_2))] rfl (by (try simp only [List.map_toArray, List.map_cons, List.map_nil]); first | done | rfl | (simp only [List.length_drop, List.length_take]; rfl)) ?_; (with_reducible refine (spec_l01Put.calls t213 (fun k_ => some k_ = (.slice Ao109 x218001_2.length co109 : Value).ownBlock) (.slice Ao109 x218001_2.length co109) t218 11 (wrap64 (6 + x11_2)) t219 w _ ?side1 ?side2 A102.out).mono ?_); (case side1 => repeat (first | (with_reducible first | exact HB.out | apply below_alloc | apply pw_below_drewN | apply below_drew1 | refine below_set ?_ GE157.out | refine below_set ?_ GE217.out) | exact HB.out)); (case side2 => exact Kd.R_tight rfl HO_218001.out); rintro e w112 ⟨rfl, hy0, hb, hkp⟩; refine ⟨_, rfl, ?_⟩; have n0_ := Aside0.mk (Kd.R_reok rfl hy0 (fun k_ e_ => HO_218001.out.1 k_ e_)); have n1_ := Aside0.mk (blk_kept (by (with_reducible repeat (first | refine blk_drewN ?_ _ | refine blk_drew ?_ | refine blk_alloc ?_ _)); exact BK157.out) hkp (fun hs_ => (fun e_ => (Kd.R_ne HO_218001.out BK157.out (by decide)) e_) hs_)); have n2_ := Aside0.mk (blk_kept (by (with_reducible repeat (first | refine blk_drewN ?_ _ | refine blk_drew ?_ | refine blk_alloc ?_ _)); exact BK217.out) hkp (fun hs_ => (fun e_ => (Kd.R_ne HO_218001.out BK217.out (by decide)) e_) hs_)); have n3_ := Aside0.mk (hb); clear HO_218001; clear BK157; clear BK217; clear HB; have HO_218001 := n0_; have BK157 := n1_; have BK217 := n2_; have HB := n3_; clear n0_ n1_ n2_ n3_; (try clear hb); (try clear hkp); (try clear hy0); have hcz113_0 : w112.cell? ⟨gb217, 0, none⟩ = some (.int .i64 t213) := (blk_cell BK217.out 0).trans rfl; have hcz113_1 : w112.cell? ⟨gb217, 1, none⟩ = some (.slice Ao109 x218001_2.length co109) := (blk_cell BK217.out 1).trans rfl; have hfz113_0 := blk_frozen BK217.out 0; have hfz113_1 := blk_frozen BK217.out 1) | ((with_reducible refine gate_callee (f := 49) rfl ?_); refine goesL_ (some 115) rfl rfl Try.func49 (by kernel_rfl) rfl #[.agg #[.int .i64 t213, .slice Ao109 x218001_2.length co109], .int .i64 (wrap64 (1 + x11_2)), .int .i64 (wrap64 (1 + (Int.tmod (wrap64 (x11_2 + 1)) 5)))] rfl (by (try simp only [List.map_toArray, List.map_cons, List.map_nil]); first | done | rfl | (simp only [List.length_drop, List.length_take]; rfl)) ?_; (with_reducible refine (spec_l01Put.calls t213 (fun k_ => some k_ = (.slice Ao109 x218001_2.length co109 : Value).ownBlock) (.slice Ao109 x218001_2.length co109) t219 (wrap64 (1 + x11_2)) (wrap64 (1 + (Int.tmod (wrap64 (x11_2 + 1)) 5))) t220 w _ ?side1 ?side2 A103.out).mono ?_); (case side1 => repeat (first | (with_reducible first | exact HB.out | apply below_alloc | apply pw_below_drewN | apply below_drew1 | refine below_set ?_ GE157.out | refine below_set ?_ GE217.out) | exact HB.out)); (case side2 => exact Kd.R_tight rfl HO_218001.out); rintro e w114 ⟨rfl, hy0, hb, hkp⟩; refine ⟨_, rfl, ?_⟩; have n0_ := Aside0.mk (Kd.R_reok rfl hy0 (fun k_ e_ => HO_218001.out.1 k_ e_)); have n1_ := Aside0.mk (blk_kept (by (with_reducible repeat (first | refine blk_drewN ?_ _ | refine blk_drew ?_ | refine blk_alloc ?_ _)); exact BK157.out) hkp (fun hs_ => (fun e_ => (Kd.R_ne HO_218001.out BK157.out (by decide)) e_) hs_)); have n2_ := Aside0.mk (blk_kept (by (with_reducible repeat (first | refine blk_drewN ?_ _ | refine blk_drew ?_ | refine blk_alloc ?_ _)); exact BK217.out) hkp (fun hs_ => (fun e_ => (Kd.R_ne HO_218001.out BK217.out (by decide)) e_) hs_)); have n3_ := Aside0.mk (hb); clear HO_218001; clear BK157; clear BK217; clear HB; have HO_218001 := n0_; have BK157 := n1_; have BK217 := n2_; have HB := n3_; clear n0_ n1_ n2_ n3_; (try clear hb); (try clear hkp); (try clear hy0); have hcz115_0 : w114.cell? ⟨gb217, 0, none⟩ = some (.int .i64 t213) := (blk_cell BK217.out 0).trans rfl; have hcz115_1 : w114.cell? ⟨gb217, 1, none⟩ = some (.slice Ao109 x218001_2.length co109) := (blk_cell BK217.out 1).trans rfl; have hfz115_0 := blk_frozen BK217.out 0; have hfz115_1 := blk_frozen BK217.out 1) | ((with_reducible refine gate_callee (f := 49) rfl ?_); refine goesL_ (some 121) rfl rfl Try.func49 (by kernel_rfl) rfl #[.agg #[.int .i64 t213, .slice Ao109 x218001_2.length co109], .int .i64 (wrap64 (6 + x11_2)), .int .i64 (wrap64 (6 + (Int.tmod (wrap64 (x11_2 + 1)) 5)))] rfl (by (try simp only [List.map_toArray, List.map_cons, List.map_nil]); first | done | rfl | (simp only [List.length_drop, List.length_take]; rfl)) ?_; (with_reducible refine (spec_l01Put.calls t213 (fun k_ => some k_ = (.slice Ao109 x218001_2.length co109 : Value).ownBlock) (.slice Ao109 x218001_2.length co109) t220 (wrap64 (6 + x11_2)) (wrap64 (6 + (Int.tmod (wrap64 (x11_2 + 1)) 5))) t221 w _ ?side1 ?side2 A104.out).mono ?_); (case side1 => repeat (first | (with_reducible first | exact HB.out | apply below_alloc | apply pw_below_drewN | apply below_drew1 | refine below_set ?_ GE157.out | refine below_set ?_ GE217.out) | exact HB.out)); (case side2 => exact Kd.R_tight rfl HO_218001.out); rintro e w116 ⟨rfl, hy0, hb, hkp⟩; refine ⟨_, rfl, ?_⟩; have n0_ := Aside0.mk (Kd.R_reok rfl hy0 (fun k_ e_ => HO_218001.out.1 k_ e_)); have n1_ := Aside0.mk (blk_kept (by (with_reducible repeat (first | refine blk_drewN ?_ _ | refine blk_drew ?_ | refine blk_alloc ?_ _)); exact BK157.out) hkp (fun hs_ => (fun e_ => (Kd.R_ne HO_218001.out BK157.out (by decide)) e_) hs_)); have n2_ := Aside0.mk (blk_kept (by (with_reducible repeat (first | refine blk_drewN ?_ _ | refine blk_drew ?_ | refine blk_alloc ?_ _)); exact BK217.out) hkp (fun hs_ => (fun e_ => (Kd.R_ne HO_218001.out BK217.out (by decide)) e_) hs_)); have n3_ := Aside0.mk (hb); clear HO_218001; clear BK157; clear BK217; clear HB; have HO_218001 := n0_; have BK157 := n1_; have BK217 := n2_; have HB := n3_; clear n0_ n1_ n2_ n3_; (try clear hb); (try clear hkp); (try clear hy0); have hcz117_0 : w116.cell? ⟨gb217, 0, none⟩ = some (.int .i64 t213) := (blk_cell BK217.out 0).trans rfl; have hcz117_1 : w116.cell? ⟨gb217, 1, none⟩ = some (.slice Ao109 x218001_2.length co109) := (blk_cell BK217.out 1).trans rfl; have hfz117_0 := blk_frozen BK217.out 0; have hfz117_1 := blk_frozen BK217.out 1) | ((with_reducible refine gate_callee (f := 49) rfl ?_); refine goesL_ (some 127) rfl rfl Try.func49 (by kernel_rfl) rfl #[.agg #[.int .i64 t213, .slice Ao109 x218001_2.length co109], .int .i64 (wrap64 (1 + x11_2)), .int .i64 (wrap64 (6 + x11_2))] rfl (by (try simp only [List.map_toArray, List.map_cons, List.map_nil]); first | done | rfl | (simp only [List.length_drop, List.length_take]; rfl)) ?_; (with_reducible refine (spec_l01Put.calls t213 (fun k_ => some k_ = (.slice Ao109 x218001_2.length co109 : Value).ownBlock) (.slice Ao109 x218001_2.length co109) t221 (wrap64 (1 + x11_2)) (wrap64 (6 + x11_2)) t222 w _ ?side1 ?side2 A105.out).mono ?_); (case side1 => repeat (first | (with_reducible first | exact HB.out | apply below_alloc | apply pw_below_drewN | apply below_drew1 | refine below_set ?_ GE157.out | refine below_set ?_ GE217.out) | exact HB.out)); (case side2 => exact Kd.R_tight rfl HO_218001.out); rintro e w118 ⟨rfl, hy0, hb, hkp⟩; refine ⟨_, rfl, ?_⟩; have n0_ := Aside0.mk (Kd.R_reok rfl hy0 (fun k_ e_ => HO_218001.out.1 k_ e_)); have n1_ := Aside0.mk (blk_kept (by (with_reducible repeat (first | refine blk_drewN ?_ _ | refine blk_drew ?_ | refine blk_alloc ?_ _)); exact BK157.out) hkp (fun hs_ => (fun e_ => (Kd.R_ne HO_218001.out BK157.out (by decide)) e_) hs_)); have n2_ := Aside0.mk (blk_kept (by (with_reducible repeat (first | refine blk_drewN ?_ _ | refine blk_drew ?_ | refine blk_alloc ?_ _)); exact BK217.out) hkp (fun hs_ => (fun e_ => (Kd.R_ne HO_218001.out BK217.out (by decide)) e_) hs_)); have n3_ := Aside0.mk (hb); clear HO_218001; clear BK157; clear BK217; clear HB; have HO_218001 := n0_; have BK157 := n1_; have BK217 := n2_; have HB := n3_; clear n0_ n1_ n2_ n3_; (try clear hb); (try clear hkp); (try clear hy0); have hcz119_0 : w118.cell? ⟨gb217, 0, none⟩ = some (.int .i64 t213) := (blk_cell BK217.out 0).trans rfl; have hcz119_1 : w118.cell? ⟨gb217, 1, none⟩ = some (.slice Ao109 x218001_2.length co109) := (blk_cell BK217.out 1).trans rfl; have hfz119_0 := blk_frozen BK217.out 0; have hfz119_1 := blk_frozen BK217.out 1) | ((with_reducible refine gate_callee (f := 49) rfl ?_); refine goesL_ (some 133) rfl rfl Try.func49 (by kernel_rfl) rfl #[.agg #[.int .i64 t213, .slice Ao109 x218001_2.length co109], .int .i64 (wrap64 (1 + x11_2)), .int .i64 (wrap64 (6 + (Int.tmod (wrap64 (x11_2 + 1)) 5)))] rfl (by (try simp only [List.map_toArray, List.map_cons, List.map_nil]); first | done | rfl | (simp only [List.length_drop, List.length_take]; rfl)) ?_; (with_reducible refine (spec_l01Put.calls t213 (fun k_ => some k_ = (.slice Ao109 x218001_2.length co109 : Value).ownBlock) (.slice Ao109 x218001_2.length co109) t222 (wrap64 (1 + x11_2)) (wrap64 (6 + (Int.tmod (wrap64 (x11_2 + 1)) 5))) t223 w _ ?side1 ?side2 A106.out).mono ?_); (case side1 => repeat (first | (with_reducible first | exact HB.out | apply below_alloc | apply pw_below_drewN | apply below_drew1 | refine below_set ?_ GE157.out | refine below_set ?_ GE217.out) | exact HB.out)); (case side2 => exact Kd.R_tight rfl HO_218001.out); rintro e w120 ⟨rfl, hy0, hb, hkp⟩; refine ⟨_, rfl, ?_⟩; have n0_ := Aside0.mk (Kd.R_reok rfl hy0 (fun k_ e_ => HO_218001.out.1 k_ e_)); have n1_ := Aside0.mk (blk_kept (by (with_reducible repeat (first | refine blk_drewN ?_ _ | refine blk_drew ?_ | refine blk_alloc ?_ _)); exact BK157.out) hkp (fun hs_ => (fun e_ => (Kd.R_ne HO_218001.out BK157.out (by decide)) e_) hs_)); have n2_ := Aside0.mk (blk_kept (by (with_reducible repeat (first | refine blk_drewN ?_ _ | refine blk_drew ?_ | refine blk_alloc ?_ _)); exact BK217.out) hkp (fun hs_ => (fun e_ => (Kd.R_ne HO_218001.out BK217.out (by decide)) e_) hs_)); have n3_ := Aside0.mk (hb); clear HO_218001; clear BK157; clear BK217; clear HB; have HO_218001 := n0_; have BK157 := n1_; have BK217 := n2_; have HB := n3_; clear n0_ n1_ n2_ n3_; (try clear hb); (try clear hkp); (try clear hy0)))
                        go_roundg k2
                        case measure => have := HJ40.out; have := HK2.out; omega
                        case rel => exact ⟨(wrap64 (x11_2 + 1)), (t223), (.slice Ao109 x218001_2.length co109), (by first | rfl | (simp; done) | (simp [*]; done)), H', ⟨by have := HJ40.out; have := HK2.out; omega⟩, ⟨by (with_reducible repeat (first | apply Kd.R_alloc | apply Kd.R_drewN | apply Kd.R_drew)); exact HO_218001.out⟩, ⟨by (with_reducible repeat (first | refine blk_drewN ?_ _ | refine blk_drew ?_ | refine blk_alloc ?_ _)); exact BK157.out⟩, ⟨by (with_reducible repeat (first | refine blk_drewN ?_ _ | refine blk_drew ?_ | refine blk_alloc ?_ _)); exact BK217.out⟩, ⟨by repeat (first | (with_reducible first | exact HB.out | apply below_alloc | apply pw_below_drewN | apply below_drew1 | refine below_set ?_ GE157.out | refine below_set ?_ GE217.out) | exact HB.out)⟩⟩
                      · rw [if_neg c100] at H
                        have c100b0 : decide (x11_2 < 5) = false := decide_eq_false c100
                        clear c100
                        simp only [Option.some.injEq, Prod.mk.injEq] at H
                        obtain ⟨rfl, rfl, rfl⟩ := H
                        have hnb121 := NB217_157.out
                        have hnc121 := NB157_217.out
                        have hcz122_0 : wr.cell? ⟨gb217, 0, none⟩ = some (.int .i64 t213) := (blk_cell BK217.out 0).trans rfl
                        have hcz122_1 : wr.cell? ⟨gb217, 1, none⟩ = some (u218001) := (blk_cell BK217.out 1).trans rfl
                        have hfz122_0 := blk_frozen BK217.out 0
                        have hfz122_1 := blk_frozen BK217.out 1
                        have hcz123_0 : wr.cell? ⟨gb157, 0, none⟩ = some (.int .i64 0) := (blk_cell BK157.out 0).trans rfl
                        have hcz123_1 : wr.cell? ⟨gb157, 1, none⟩ = some (.slice none 0 0) := (blk_cell BK157.out 1).trans rfl
                        have hfz123_0 := blk_frozen BK157.out 0
                        have hfz123_1 := blk_frozen BK157.out 1
                        obtain ⟨Ao124, co124, eo124⟩ := Kd.R_slice HO_218001.out
                        subst eo124
                        go_wp2
                        refine bodyPost_ret (results_ct rfl _ _ gb157 34 #[.int .i64 t213, .slice Ao124 x218001_2.length co124] (0, 0) _ rfl (by (with_reducible repeat (first | refine blk_drewN ?_ _ | refine blk_drew ?_ | refine blk_alloc ?_ _)); refine blk_put (cs := #[.int .i64 t213, .slice none 0 0]) ?_ 1 _ rfl; (with_reducible repeat (first | refine blk_drewN ?_ _ | refine blk_drew ?_ | refine blk_alloc ?_ _)); refine blk_put (cs := #[.int .i64 0, .slice none 0 0]) ?_ 0 _ rfl; (with_reducible repeat (first | refine blk_drewN ?_ _ | refine blk_drew ?_ | refine blk_alloc ?_ _)); exact BK157.out) Try.underlying34 rfl (by kernel_rfl)) rfl ?_
                        exact ⟨_, by first | rfl | (simp [errW_none, errW_some] <;> rfl) | (simp [*, errW_none, errW_some] <;> rfl), by (with_reducible repeat (first | apply Kd.R_alloc | apply Kd.R_drewN | apply Kd.R_drew)); exact Kd.R_mono (Kd.R_far (p := ⟨gb157, 1, none⟩) (Kd.R_far (p := ⟨gb157, 0, none⟩) (Kd.R_types HO_218001.out BK157.out (by decide)) (fun _ hk => hk.2) (.int .i64 t213)) (fun _ hk => hk.2) (.slice Ao124 x218001_2.length co124)) (fun _ hk => trivial), by repeat (first | (with_reducible first | exact HB.out | apply below_alloc | apply pw_below_drewN | apply below_drew1 | refine below_set ?_ GE157.out | refine below_set ?_ GE217.out) | exact HB.out)⟩
                · rw [if_neg c93] at H
                  have c93b0 : (a0.toList == ([105, 99, 111, 115, 97, 104, 101, 100, 114, 111, 110] : List UInt8)) = false := beq_eq_false_iff_ne.mpr c93
                  have c93b1 : (a0.toList != ([105, 99, 111, 115, 97, 104, 101, 100, 114, 111, 110] : List UInt8)) = true := bne_iff_ne.mpr c93
                  by_cases c125 : a0.toList = ([104, 111, 102, 102, 109, 97, 110, 115, 105, 110, 103, 108, 101, 116, 111, 110] : List UInt8)
                  · rw [if_pos c125] at H
                    have c125b0 : (a0.toList == ([104, 111, 102, 102, 109, 97, 110, 115, 105, 110, 103, 108, 101, 116, 111, 110] : List UInt8)) = true := beq_iff_eq.mpr c125
                    have c125b1 : (a0.toList != ([104, 111, 102, 102, 109, 97, 110, 115, 105, 110, 103, 108, 101, 116, 111, 110] : List UInt8)) = false := bne_eq_false_iff_eq.mpr c125
                    clear c125
                    replace H := Option.bind_eq_some_iff.mp H
                    obtain ⟨⟨t224, t225⟩, A1260, H⟩ := H
                    replace H : (spec_l01Named.l4 kj40 0 t224 t225) = some (r1, r2, r3) := H
                    have A126 := Aside0.mk A1260
                    clear A1260
                    have H' := Aside0.mk H
                    clear H
                    go_wp2_with (first | ((with_reducible refine gate_callee (f := 48) rfl ?_); refine goesL_ (some 137) rfl rfl Try.func48 (by kernel_rfl) rfl #[.int .i64 50] rfl (by (try simp only [List.map_toArray, List.map_cons, List.map_nil]); first | done | rfl | (simp only [List.length_drop, List.length_take]; rfl)) ?_; (with_reducible refine (spec_l01Empty.calls 50 t224 t225 _ A126.out).mono ?_); rintro e w127 ⟨v226, rfl, ho0, hb⟩; refine ⟨_, rfl, ?_⟩; have n0_ := Aside0.mk (Kd.R_lower ho0 (below_size (by repeat (first | (with_reducible first | exact HB.out | apply below_alloc | apply pw_below_drewN | apply below_drew1 | refine below_set ?_ GE157.out) | exact HB.out)))); have n1_ := Aside0.mk (blk_below (g := gb157) (o := .cells #[.int .i64 0, .slice none 0 0] 34 (0, 0)) (by (with_reducible repeat (first | refine blk_drewN ?_ _ | refine blk_drew ?_ | refine blk_alloc ?_ _)); exact BK157.out) hb); have n2_ := Aside0.mk (below_step (by repeat (first | (with_reducible first | exact HB.out | apply below_alloc | apply pw_below_drewN | apply below_drew1 | refine below_set ?_ GE157.out) | exact HB.out)) hb); clear BK157; clear HB; have HO227 := n0_; have BK157 := n1_; have HB := n2_; clear n0_ n1_ n2_; (try clear hb); (try clear hb2); (try clear hk); (try clear hi); (try clear ho0)) | ((with_reducible refine gate_dst (N := 13) rfl ?_); refine box_event ?hg (N := 13) ?hd (cs := #[.int .i64 0, .slice none 0 0]) (t := 34) ?hr ?_; (case hd => rfl); (case hg => rfl); (case hr => first | (go_simp; done) | (go_simp; rfl)); intro gb228 hg w128 hbox hb; have n0_ := Aside0.mk (Kd.R_below (by (with_reducible repeat (first | apply Kd.R_alloc | apply Kd.R_drewN | apply Kd.R_drew)); exact HO227.out) hb); have n1_ := Aside0.mk (blk_below (g := gb157) (o := .cells #[.int .i64 0, .slice none 0 0] 34 (0, 0)) (by (with_reducible repeat (first | refine blk_drewN ?_ _ | refine blk_drew ?_ | refine blk_alloc ?_ _)); exact BK157.out) hb); have n2_ := Aside0.mk (below_step (by repeat (first | (with_reducible first | exact HB.out | apply below_alloc | apply pw_below_drewN | apply below_drew1 | refine below_set ?_ GE157.out) | exact HB.out)) hb); have n3_ := Aside0.mk (hbox); have n4_ := Aside0.mk ((by rw [hg]; exact (below_size (by repeat (first | (with_reducible first | exact HB.out | apply below_alloc | apply pw_below_drewN | apply below_drew1 | refine below_set ?_ GE157.out) | exact HB.out))) : w.heap.size ≤ gb228)); have n5_ := Aside0.mk ((by rw [hg]; exact (below_size (by repeat (first | (with_reducible first | exact HB.out | apply below_alloc | apply pw_below_drewN | apply below_drew1 | refine below_set ?_ GE157.out) | exact HB.out))) : w.heap.size ≤ gb228)); have n6_ := Aside0.mk ((by rw [hg]; exact Nat.ne_of_lt (blk_lt (g := gb157) (o := .cells #[.int .i64 0, .slice none 0 0] 34 (0, 0)) (by (with_reducible repeat (first | refine blk_drewN ?_ _ | refine blk_drew ?_ | refine blk_alloc ?_ _)); exact BK157.out)) : gb157 ≠ gb228)); have n7_ := Aside0.mk ((by rw [hg]; exact Nat.ne_of_gt (blk_lt (g := gb157) (o := .cells #[.int .i64 0, .slice none 0 0] 34 (0, 0)) (by (with_reducible repeat (first | refine blk_drewN ?_ _ | refine blk_drew ?_ | refine blk_alloc ?_ _)); exact BK157.out)) : gb228 ≠ gb157)); clear HO227; clear BK157; clear HB; have HO227 := n0_; have BK157 := n1_; have HB := n2_; have BK228 := n3_; have GW228 := n4_; have GE228 := n5_; have NB157_228 := n6_; have NB228_157 := n7_; clear n0_ n1_ n2_ n3_ n4_ n5_ n6_ n7_; clear hb hbox hg; have hnb129 := NB228_157.out; have hnc129 := NB157_228.out; have hcz130_0 : w128.cell? ⟨gb228, 0, none⟩ = some (.int .i64 0) := (blk_cell BK228.out 0).trans rfl; have hcz130_1 : w128.cell? ⟨gb228, 1, none⟩ = some (.slice none 0 0) := (blk_cell BK228.out 1).trans rfl; have hfz130_0 := blk_frozen BK228.out 0; have hfz130_1 := blk_frozen BK228.out 1; obtain ⟨Ao131, co131, eo131⟩ := Kd.R_slice HO227.out; subst eo131))
                    go_loopg [14] kj40 (fun kq v14 w' => ∃ (x14_2 : Int) (x229001_2 : List Int) (u229001 : Value), v14 = .int .i64 x14_2 ∧ Aside0 (spec_l01Named.l4 kq x14_2 t224 x229001_2 = some (r1, r2, r3)) ∧ Aside0 (kq ≤ kj40) ∧ Aside0 (Kd.R (Kd.int .i64) 2 w' w.heap.size (fun _ => True) u229001 x229001_2) ∧ Aside0 (w'.heap[gb157]? = some (.cells #[.int .i64 0, (.slice none 0 0)] 34 (0, 0))) ∧ Aside0 (w'.heap[gb228]? = some (.cells #[.int .i64 t224, u229001] 34 (0, 0))) ∧ Aside0 (Below w.heap.size w w'))
                    case atStart => exact ⟨(0), (t225), (.slice Ao131 t225.length co131), (by first | rfl | (simp; done) | (simp [*]; done)), H', ⟨Nat.le_refl _⟩, ⟨by (with_reducible repeat (first | apply Kd.R_alloc | apply Kd.R_drewN | apply Kd.R_drew)); exact Kd.R_mono (Kd.R_far (p := ⟨gb228, 1, none⟩) (Kd.R_far (p := ⟨gb228, 0, none⟩) (Kd.R_types HO227.out BK228.out (by decide)) (fun _ hk => hk.2) (.int .i64 t224)) (fun _ hk => hk.2) (.slice Ao131 t225.length co131)) (fun _ hk => trivial)⟩, ⟨by (with_reducible repeat (first | refine blk_drewN ?_ _ | refine blk_drew ?_ | refine blk_alloc ?_ _)); refine blk_far ?_ NB157_228.out _; (with_reducible repeat (first | refine blk_drewN ?_ _ | refine blk_drew ?_ | refine blk_alloc ?_ _)); refine blk_far ?_ NB157_228.out _; (with_reducible repeat (first | refine blk_drewN ?_ _ | refine blk_drew ?_ | refine blk_alloc ?_ _)); exact BK157.out⟩, ⟨by (with_reducible repeat (first | refine blk_drewN ?_ _ | refine blk_drew ?_ | refine blk_alloc ?_ _)); refine blk_put (cs := #[.int .i64 t224, .slice none 0 0]) ?_ 1 _ rfl; (with_reducible repeat (first | refine blk_drewN ?_ _ | refine blk_drew ?_ | refine blk_alloc ?_ _)); refine blk_put (cs := #[.int .i64 0, .slice none 0 0]) ?_ 0 _ rfl; (with_reducible repeat (first | refine blk_drewN ?_ _ | refine blk_drew ?_ | refine blk_alloc ?_ _)); exact BK228.out⟩, ⟨by repeat (first | (with_reducible first | exact HB.out | apply below_alloc | apply pw_below_drewN | apply below_drew1 | refine below_set ?_ GE157.out | refine below_set ?_ GE228.out) | exact HB.out)⟩⟩
                    case round =>
                      clear H'
                      try clear c1
                      try clear c2
                      try clear c2b0
                      try clear c2b1
                      try clear p2
                      try clear c4
                      try clear c5
                      try clear c6
                      try clear p6
                      try clear c7
                      try clear c8
                      try clear c9
                      try clear c10
                      try clear c11
                      try clear c11b0
                      try clear c11b1
                      try clear c12
                      try clear c20
                      try clear c20b0
                      try clear c20b1
                      try clear c43
                      try clear c43b0
                      try clear c43b1
                      try clear c44
                      try clear c46
                      try clear c46b0
                      try clear c46b1
                      try clear c48
                      try clear c49
                      try clear c50
                      try clear c53
                      try clear c53b0
                      try clear c54
                      try clear c54b0
                      try clear c56
                      try clear c60
                      try clear c60b0
                      try clear c60b1
                      try clear c62
                      try clear c64
                      try clear p64
                      try clear c66
                      try clear c70
                      try clear c70b0
                      try clear c70b1
                      try clear c74
                      try clear c77
                      try clear c77b0
                      try clear c81
                      try clear c83
                      try clear c89
                      try clear c93
                      try clear c93b0
                      try clear c93b1
                      try clear c97
                      try clear c100
                      try clear c100b0
                      try clear c107
                      try clear c121
                      try clear c125
                      try clear c125b0
                      try clear c125b1
                      try clear c129
                      try clear hcz108_0
                      try clear hcz108_1
                      try clear hcz111_0
                      try clear hcz111_1
                      try clear hcz113_0
                      try clear hcz113_1
                      try clear hcz115_0
                      try clear hcz115_1
                      try clear hcz117_0
                      try clear hcz117_1
                      try clear hcz119_0
                      try clear hcz119_1
                      try clear hcz122_0
                      try clear hcz122_1
                      try clear hcz123_0
                      try clear hcz123_1
                      try clear hcz130_0
                      try clear hcz130_1
                      try clear hcz18_0
                      try clear hcz18_1
                      try clear hcz39_0
                      try clear hcz39_1
                      try clear hcz51_0
                      try clear hcz51_1
                      try clear hcz57_0
                      try clear hcz57_1
                      try clear hcz63_0
                      try clear hcz63_1
                      try clear hcz67_0
                      try clear hcz67_1
                      try clear hcz68_0
                      try clear hcz68_1
                      try clear hcz75_0
                      try clear hcz75_1
                      try clear hcz82_0
                      try clear hcz82_1
                      try clear hcz85_0
                      try clear hcz85_1
                      try clear hcz87_0
                      try clear hcz87_1
                      try clear hcz90_0
                      try clear hcz90_1
                      try clear hcz91_0
                      try clear hcz91_1
                      try clear hcz98_0
                      try clear hcz98_1
                      try clear hcz9_0
                      try clear hcz9_1
                      try clear hfz108_0
                      try clear hfz108_1
                      try clear hfz111_0
                      try clear hfz111_1
                      try clear hfz113_0
                      try clear hfz113_1
                      try clear hfz115_0
                      try clear hfz115_1
                      try clear hfz117_0
                      try clear hfz117_1
                      try clear hfz119_0
                      try clear hfz119_1
                      try clear hfz122_0
                      try clear hfz122_1
                      try clear hfz123_0
                      try clear hfz123_1
                      try clear hfz130_0
                      try clear hfz130_1
                      try clear hfz18_0
                      try clear hfz18_1
                      try clear hfz39_0
                      try clear hfz39_1
                      try clear hfz51_0
                      try clear hfz51_1
                      try clear hfz57_0
                      try clear hfz57_1
                      try clear hfz63_0
                      try clear hfz63_1
                      try clear hfz67_0
                      try clear hfz67_1
                      try clear hfz68_0
                      try clear hfz68_1
                      try clear hfz75_0
                      try clear hfz75_1
                      try clear hfz82_0
                      try clear hfz82_1
                      try clear hfz85_0
                      try clear hfz85_1
                      try clear hfz87_0
                      try clear hfz87_1
                      try clear hfz90_0
                      try clear hfz90_1
                      try clear hfz91_0
                      try clear hfz91_1
                      try clear hfz98_0
                      try clear hfz98_1
                      try clear hfz9_0
                      try clear hfz9_1
                      try clear p2
                      try clear p6
                      try clear p64
                      obtain ⟨x14_2, x229001_2, u229001, rfl, HA, HK2, HO_229001, BK157, BK228, HB⟩ := hrel
                      cases gk with
                      | zero => exact absurd HA.out (by simp [spec_l01Named.l4])
                      | succ k2 =>
                        have H := HA.out
                        clear HA
                        simp only [spec_l01Named.l4] at H
                        by_cases c132 : x14_2 < 5
                        · rw [if_pos c132] at H
                          have c132b0 : decide (x14_2 < 5) = true := decide_eq_true c132
                          clear c132
                          have H' := Aside0.mk H
                          clear H
                          go_wp2
                          go_loopg [15] k2 (fun kq v15 w' => ∃ (x15_3 : Int) (x229001_3 : List Int) (u229001 : Value), v15 = .int .i64 x15_3 ∧ Aside0 (spec_l01Named.l5 kq x14_2 x15_3 t224 x229001_3 = some (r1, r2, r3)) ∧ Aside0 (kq ≤ k2) ∧ Aside0 (Kd.R (Kd.int .i64) 2 w' w.heap.size (fun _ => True) u229001 x229001_3) ∧ Aside0 (w'.heap[gb157]? = some (.cells #[.int .i64 0, (.slice none 0 0)] 34 (0, 0))) ∧ Aside0 (w'.heap[gb228]? = some (.cells #[.int .i64 t224, u229001] 34 (0, 0))) ∧ Aside0 (Below w.heap.size w w'))
                          case atStart => exact ⟨(0), (x229001_2), (u229001), (by first | rfl | (simp; done) | (simp [*]; done)), H', ⟨Nat.le_refl _⟩, ⟨by (with_reducible repeat (first | apply Kd.R_alloc | apply Kd.R_drewN | apply Kd.R_drew)); exact HO_229001.out⟩, ⟨by (with_reducible repeat (first | refine blk_drewN ?_ _ | refine blk_drew ?_ | refine blk_alloc ?_ _)); exact BK157.out⟩, ⟨by (with_reducible repeat (first | refine blk_drewN ?_ _ | refine blk_drew ?_ | refine blk_alloc ?_ _)); exact BK228.out⟩, ⟨by repeat (first | (with_reducible first | exact HB.out | apply below_alloc | apply pw_below_drewN | apply below_drew1 | refine below_set ?_ GE157.out | refine below_set ?_ GE228.out) | exact HB.out)⟩⟩
                          case round =>
                            clear H'
                            try clear c1
                            try clear c2
                            try clear c2b0
                            try clear c2b1
                            try clear p2
                            try clear c4
                            try clear c5
                            try clear c6
                            try clear p6
                            try clear c7
                            try clear c8
                            try clear c9
                            try clear c10
                            try clear c11
                            try clear c11b0
                            try clear c11b1
                            try clear c12
                            try clear c13
                            try clear c20
                            try clear c20b0
                            try clear c20b1
                            try clear c43
                            try clear c43b0
                            try clear c43b1
                            try clear c44
                            try clear c46
                            try clear c46b0
                            try clear c46b1
                            try clear c48
                            try clear c49
                            try clear c50
                            try clear c53
                            try clear c53b0
                            try clear c54
                            try clear c54b0
                            try clear c56
                            try clear c60
                            try clear c60b0
                            try clear c60b1
                            try clear c62
                            try clear c64
                            try clear p64
                            try clear c66
                            try clear c70
                            try clear c70b0
                            try clear c70b1
                            try clear c74
                            try clear c77
                            try clear c77b0
                            try clear c81
                            try clear c83
                            try clear c89
                            try clear c93
                            try clear c93b0
                            try clear c93b1
                            try clear c97
                            try clear c100
                            try clear c100b0
                            try clear c107
                            try clear c121
                            try clear c125
                            try clear c125b0
                            try clear c125b1
                            try clear c129
                            try clear c132
                            try clear c132b0
                            try clear hcz108_0
                            try clear hcz108_1
                            try clear hcz111_0
                            try clear hcz111_1
                            try clear hcz113_0
                            try clear hcz113_1
                            try clear hcz115_0
                            try clear hcz115_1
                            try clear hcz117_0
                            try clear hcz117_1
                            try clear hcz119_0
                            try clear hcz119_1
                            try clear hcz122_0
                            try clear hcz122_1
                            try clear hcz123_0
                            try clear hcz123_1
                            try clear hcz130_0
                            try clear hcz130_1
                            try clear hcz18_0
                            try clear hcz18_1
                            try clear hcz39_0
                            try clear hcz39_1
                            try clear hcz51_0
                            try clear hcz51_1
                            try clear hcz57_0
                            try clear hcz57_1
                            try clear hcz63_0
                            try clear hcz63_1
                            try clear hcz67_0
                            try clear hcz67_1
                            try clear hcz68_0
                            try clear hcz68_1
                            try clear hcz75_0
                            try clear hcz75_1
                            try clear hcz82_0
                            try clear hcz82_1
                            try clear hcz85_0
                            try clear hcz85_1
                            try clear hcz87_0
                            try clear hcz87_1
                            try clear hcz90_0
                            try clear hcz90_1
                            try clear hcz91_0
                            try clear hcz91_1
                            try clear hcz98_0
                            try clear hcz98_1
                            try clear hcz9_0
                            try clear hcz9_1
                            try clear hfz108_0
                            try clear hfz108_1
                            try clear hfz111_0
                            try clear hfz111_1
                            try clear hfz113_0
                            try clear hfz113_1
                            try clear hfz115_0
                            try clear hfz115_1
                            try clear hfz117_0
                            try clear hfz117_1
                            try clear hfz119_0
                            try clear hfz119_1
                            try clear hfz122_0
                            try clear hfz122_1
                            try clear hfz123_0
                            try clear hfz123_1
                            try clear hfz130_0
                            try clear hfz130_1
                            try clear hfz18_0
                            try clear hfz18_1
                            try clear hfz39_0
                            try clear hfz39_1
                            try clear hfz51_0
                            try clear hfz51_1
                            try clear hfz57_0
                            try clear hfz57_1
                            try clear hfz63_0
                            try clear hfz63_1
                            try clear hfz67_0
                            try clear hfz67_1
                            try clear hfz68_0
                            try clear hfz68_1
                            try clear hfz75_0
                            try clear hfz75_1
                            try clear hfz82_0
                            try clear hfz82_1
                            try clear hfz85_0
                            try clear hfz85_1
                            try clear hfz87_0
                            try clear hfz87_1
                            try clear hfz90_0
                            try clear hfz90_1
                            try clear hfz91_0
                            try clear hfz91_1
                            try clear hfz98_0
                            try clear hfz98_1
                            try clear hfz9_0
                            try clear hfz9_1
                            try clear p2
                            try clear p6
                            try clear p64
                            obtain ⟨x15_3, x229001_3, u229001, rfl, HA, HK3, HO_229001, BK157, BK228, HB⟩ := hrel
                            cases gk with
                            | zero => exact absurd HA.out (by simp [spec_l01Named.l5])
                            | succ k3 =>
                              have H := HA.out
                              clear HA
                              simp only [spec_l01Named.l5] at H
                              by_cases c133 : x15_3 < 5
                              · rw [if_pos c133] at H
                                have c133b0 : decide (x15_3 < 5) = true := decide_eq_true c133
                                clear c133
                                replace H := Option.bind_eq_some_iff.mp H
                                obtain ⟨t229, A1340, H⟩ := H
                                replace H : ((spec_l01Put.f t224 t229 (wrap64 ((wrap64 (25 + (wrap64 (5 * x14_2)))) + x15_3)) (wrap64 ((wrap64 (25 + (wrap64 (5 * x14_2)))) + (Int.tmod (wrap64 (x15_3 + 2)) 5)))).bind fun t230 => (spec_l01Named.l6 k3 x14_2 x15_3 0 t224 t230)) = some (r1, r2, r3) := H
                                have A134 := Aside0.mk A1340
                                clear A1340
                                replace H := Option.bind_eq_some_iff.mp H
                                obtain ⟨t230, A1350, H⟩ := H
                                replace H : (spec_l01Named.l6 k3 x14_2 x15_3 0 t224 t230) = some (r1, r2, r3) := H
                                have A135 := Aside0.mk A1350
                                clear A1350
                                have H' := Aside0.mk H
                                clear H
                                have hnb136 := NB228_157.out
                                have hnc136 := NB157_228.out
                                have hcz137_0 : wr.cell? ⟨gb228, 0, none⟩ = some (.int .i64 t224) := (blk_cell BK228.out 0).trans rfl
                                have hcz137_1 : wr.cell? ⟨gb228, 1, none⟩ = some (u229001) := (blk_cell BK228.out 1).trans rfl
                                have hfz137_0 := blk_frozen BK228.out 0
                                have hfz137_1 := blk_frozen BK228.out 1
                                obtain ⟨Ao138, co138, eo138⟩ := Kd.R_slice HO_229001.out
                                subst eo138
                                go_wp2_with (first | ((with_reducible refine gate_callee (f := 49) rfl ?_); refine goesL_ (some 157) rfl rfl Try.func49 (by kernel_rfl) rfl #[.agg #[.int .i64 t224, .slice Ao138 x229001_3.length co138], .int .i64 (wrap64 ((wrap64 (5 * x14_2)) + x15_3)), .int .i64 (wrap64 ((wrap64 (5 * x14_2)) + (Int.tmod (wrap64 (x15_3 + 1)) 5)))] rfl (by (try simp only [List.map_toArray, List.map_cons, List.map_nil]); first | done | rfl | (simp only [List.length_drop, List.length_take]; rfl)) ?_; (with_reducible refine (spec_l01Put.calls t224 (fun k_ => some k_ = (.slice Ao138 x229001_3.length co138 : Value).ownBlock) (.slice Ao138 x229001_3.length co138) x229001_3 (wrap64 ((wrap64 (5 * x14_2)) + x15_3)) (wrap64 ((wrap64 (5 * x14_2)) + (Int.tmod (wrap64 (x15_3 + 1)) 5))) t229 w _ ?side1 ?side2 A134.out).mono ?_); (case side1 => repeat (first | (with_reducible first | exact HB.out | apply below_alloc | apply pw_below_drewN | apply below_drew1 | refine below_set ?_ GE157.out | refine below_set ?_ GE228.out) | exact HB.out)); (case side2 => exact Kd.R_tight rfl HO_229001.out); rintro e w139 ⟨rfl, hy0, hb, hkp⟩; refine ⟨_, rfl, ?_⟩; have n0_ := Aside0.mk (Kd.R_reok rfl hy0 (fun k_ e_ => HO_229001.out.1 k_ e_)); have n1_ := Aside0.mk (blk_kept (by (with_reducible repeat (first | refine blk_drewN ?_ _ | refine blk_drew ?_ | refine blk_alloc ?_ _)); exact BK157.out) hkp (fun hs_ => (fun e_ => (Kd.R_ne HO_229001.out BK157.out (by decide)) e_) hs_)); have n2_ := Aside0.mk (blk_kept (by (with_reducible repeat (first | refine blk_drewN ?_ _ | refine blk_drew ?_ | refine blk_alloc ?_ _)); exact BK228.out) hkp (fun hs_ => (fun e_ => (Kd.R_ne HO_229001.out BK228.out (by decide)) e_) hs_)); have n3_ := Aside0.mk (hb); clear HO_229001; clear BK157; clear BK228; clear HB; have HO_229001 := n0_; have BK157 := n1_; have BK228 := n2_; have HB := n3_; clear n0_ n1_ n2_ n3_; (try clear hb); (try clear hkp); (try clear hy0); have hcz140_0 : w139.cell? ⟨gb228, 0, none⟩ = some (.int .i64 t224) := (blk_cell BK228.out 0).trans rfl; have hcz140_1 : w139.cell? ⟨gb228, 1, none⟩ = some (.slice Ao138 x229001_3.length co138) := (blk_cell BK228.out 1).trans rfl; have hfz140_0 := blk_frozen BK228.out 0; have hfz140_1 := blk_frozen BK228.out 1) | ((with_reducible refine gate_callee (f := 49) rfl ?_); refine goesL_ (some 171) rfl rfl Try.func49 (by kernel_rfl) rfl #[.agg #[.int .i64 t224, .slice Ao138 x229001_3.length co138], .int .i64 (wrap64 ((wrap64 (25 + (wrap64 (5 * x14_2)))) + x15_3)), .int .i64 (wrap64 ((wrap64 (25 + (wrap64 (5 * x14_2)))) + (Int.tmod (wrap64 (x15_3 + 2)) 5)))] rfl (by (try simp only [List.map_toArray, List.map_cons, List.map_nil]); first | done | rfl | (simp only [List.length_drop, List.length_take]; rfl)) ?_; (with_reducible refine (spec_l01Put.calls t224 (fun k_ => some k_ = (.slice Ao138 x229001_3.length co138 : Value).ownBlock) (.slice Ao138 x229001_3.length co138) t229 (wrap64 ((wrap64 (25 + (wrap64 (5 * x14_2)))) + x15_3)) (wrap64 ((wrap64 (25 + (wrap64 (5 * x14_2)))) + (Int.tmod (wrap64 (x15_3 + 2)) 5))) t230 w _ ?side1 ?side2 A135.out).mono ?_); (case side1 => repeat (first | (with_reducible first | exact HB.out | apply below_alloc | apply pw_below_drewN | apply below_drew1 | refine below_set ?_ GE157.out | refine below_set ?_ GE228.out) | exact HB.out)); (case side2 => exact Kd.R_tight rfl HO_229001.out); rintro e w141 ⟨rfl, hy0, hb, hkp⟩; refine ⟨_, rfl, ?_⟩; have n0_ := Aside0.mk (Kd.R_reok rfl hy0 (fun k_ e_ => HO_229001.out.1 k_ e_)); have n1_ := Aside0.mk (blk_kept (by (with_reducible repeat (first | refine blk_drewN ?_ _ | refine blk_drew ?_ | refine blk_alloc ?_ _)); exact BK157.out) hkp (fun hs_ => (fun e_ => (Kd.R_ne HO_229001.out BK157.out (by decide)) e_) hs_)); have n2_ := Aside0.mk (blk_kept (by (with_reducible repeat (first | refine blk_drewN ?_ _ | refine blk_drew ?_ | refine blk_alloc ?_ _)); exact BK228.out) hkp (fun hs_ => (fun e_ => (Kd.R_ne HO_229001.out BK228.out (by decide)) e_) hs_)); have n3_ := Aside0.mk (hb); clear HO_229001; clear BK157; clear BK228; clear HB; have HO_229001 := n0_; have BK157 := n1_; have BK228 := n2_; have HB := n3_; clear n0_ n1_ n2_ n3_; (try clear hb); (try clear hkp); (try clear hy0)))
                                go_loopg [16] k3 (fun kq v16 w' => ∃ (x16_4 : Int) (x229001_4 : List Int) (u229001 : Value), v16 = .int .i64 x16_4 ∧ Aside0 (spec_l01Named.l6 kq x14_2 x15_3 x16_4 t224 x229001_4 = some (r1, r2, r3)) ∧ Aside0 (kq ≤ k3) ∧ Aside0 (Kd.R (Kd.int .i64) 2 w' w.heap.size (fun _ => True) u229001 x229001_4) ∧ Aside0 (w'.heap[gb157]? = some (.cells #[.int .i64 0, (.slice none 0 0)] 34 (0, 0))) ∧ Aside0 (w'.heap[gb228]? = some (.cells #[.int .i64 t224, u229001] 34 (0, 0))) ∧ Aside0 (Below w.heap.size w w'))
                                case atStart => exact ⟨(0), (t230), (.slice Ao138 x229001_3.length co138), (by first | rfl | (simp; done) | (simp [*]; done)), H', ⟨Nat.le_refl _⟩, ⟨by (with_reducible repeat (first | apply Kd.R_alloc | apply Kd.R_drewN | apply Kd.R_drew)); exact HO_229001.out⟩, ⟨by (with_reducible repeat (first | refine blk_drewN ?_ _ | refine blk_drew ?_ | refine blk_alloc ?_ _)); exact BK157.out⟩, ⟨by (with_reducible repeat (first | refine blk_drewN ?_ _ | refine blk_drew ?_ | refine blk_alloc ?_ _)); exact BK228.out⟩, ⟨by repeat (first | (with_reducible first | exact HB.out | apply below_alloc | apply pw_below_drewN | apply below_drew1 | refine below_set ?_ GE157.out | refine below_set ?_ GE228.out) | exact HB.out)⟩⟩
                                case round =>
                                  clear H'
                                  try clear c1
                                  try clear c2
                                  try clear c2b0
                                  try clear c2b1
                                  try clear p2
                                  try clear c4
                                  try clear c5
                                  try clear c6
                                  try clear p6
                                  try clear c7
                                  try clear c8
                                  try clear c9
                                  try clear c10
                                  try clear c11
                                  try clear c11b0
                                  try clear c11b1
                                  try clear c12
                                  try clear c13
                                  try clear c20
                                  try clear c20b0
                                  try clear c20b1
                                  try clear c43
                                  try clear c43b0
                                  try clear c43b1
                                  try clear c44
                                  try clear c46
                                  try clear c46b0
                                  try clear c46b1
                                  try clear c48
                                  try clear c49
                                  try clear c50
                                  try clear c53
                                  try clear c53b0
                                  try clear c54
                                  try clear c54b0
                                  try clear c56
                                  try clear c60
                                  try clear c60b0
                                  try clear c60b1
                                  try clear c62
                                  try clear c64
                                  try clear p64
                                  try clear c66
                                  try clear c70
                                  try clear c70b0
                                  try clear c70b1
                                  try clear c74
                                  try clear c77
                                  try clear c77b0
                                  try clear c81
                                  try clear c83
                                  try clear c89
                                  try clear c93
                                  try clear c93b0
                                  try clear c93b1
                                  try clear c97
                                  try clear c100
                                  try clear c100b0
                                  try clear c107
                                  try clear c121
                                  try clear c125
                                  try clear c125b0
                                  try clear c125b1
                                  try clear c129
                                  try clear c132
                                  try clear c132b0
                                  try clear c133
                                  try clear c133b0
                                  try clear c136
                                  try clear hcz108_0
                                  try clear hcz108_1
                                  try clear hcz111_0
                                  try clear hcz111_1
                                  try clear hcz113_0
                                  try clear hcz113_1
                                  try clear hcz115_0
                                  try clear hcz115_1
                                  try clear hcz117_0
                                  try clear hcz117_1
                                  try clear hcz119_0
                                  try clear hcz119_1
                                  try clear hcz122_0
                                  try clear hcz122_1
                                  try clear hcz123_0
                                  try clear hcz123_1
                                  try clear hcz130_0
                                  try clear hcz130_1
                                  try clear hcz137_0
                                  try clear hcz137_1
                                  try clear hcz140_0
                                  try clear hcz140_1
                                  try clear hcz18_0
                                  try clear hcz18_1
                                  try clear hcz39_0
                                  try clear hcz39_1
                                  try clear hcz51_0
                                  try clear hcz51_1
                                  try clear hcz57_0
                                  try clear hcz57_1
                                  try clear hcz63_0
                                  try clear hcz63_1
                                  try clear hcz67_0
                                  try clear hcz67_1
                                  try clear hcz68_0
                                  try clear hcz68_1
                                  try clear hcz75_0
                                  try clear hcz75_1
                                  try clear hcz82_0
                                  try clear hcz82_1
                                  try clear hcz85_0
                                  try clear hcz85_1
                                  try clear hcz87_0
                                  try clear hcz87_1
                                  try clear hcz90_0
                                  try clear hcz90_1
                                  try clear hcz91_0
                                  try clear hcz91_1
                                  try clear hcz98_0
                                  try clear hcz98_1
                                  try clear hcz9_0
                                  try clear hcz9_1
                                  try clear hfz108_0
                                  try clear hfz108_1
                                  try clear hfz111_0
                                  try clear hfz111_1
                                  try clear hfz113_0
                                  try clear hfz113_1
                                  try clear hfz115_0
                                  try clear hfz115_1
                                  try clear hfz117_0
                                  try clear hfz117_1
                                  try clear hfz119_0
                                  try clear hfz119_1
                                  try clear hfz122_0
                                  try clear hfz122_1
                                  try clear hfz123_0
                                  try clear hfz123_1
                                  try clear hfz130_0
                                  try clear hfz130_1
                                  try clear hfz137_0
                                  try clear hfz137_1
                                  try clear hfz140_0
                                  try clear hfz140_1
                                  try clear hfz18_0
                                  try clear hfz18_1
                                  try clear hfz39_0
                                  try clear hfz39_1
                                  try clear hfz51_0
                                  try clear hfz51_1
                                  try clear hfz57_0
                                  try clear hfz57_1
                                  try clear hfz63_0
                                  try clear hfz63_1
                                  try clear hfz67_0
                                  try clear hfz67_1
                                  try clear hfz68_0
                                  try clear hfz68_1
                                  try clear hfz75_0
                                  try clear hfz75_1
                                  try clear hfz82_0
                                  try clear hfz82_1
                                  try clear hfz85_0
                                  try clear hfz85_1
                                  try clear hfz87_0
                                  try clear hfz87_1
                                  try clear hfz90_0
                                  try clear hfz90_1
                                  try clear hfz91_0
                                  try clear hfz91_1
                                  try clear hfz98_0
                                  try clear hfz98_1
                                  try clear hfz9_0
                                  try clear hfz9_1
                                  try clear p2
                                  try clear p6
                                  try clear p64
                                  obtain ⟨x16_4, x229001_4, u229001, rfl, HA, HK4, HO_229001, BK157, BK228, HB⟩ := hrel
                                  cases gk with
                                  | zero => exact absurd HA.out (by simp [spec_l01Named.l6])
                                  | succ k4 =>
                                    have H := HA.out
                                    clear HA
                                    simp only [spec_l01Named.l6] at H
                                    by_cases c142 : x16_4 < 5
                                    · rw [if_pos c142] at H
                                      have c142b0 : decide (x16_4 < 5) = true := decide_eq_true c142
                                      clear c142
                                      replace H := Option.bind_eq_some_iff.mp H
                                      obtain ⟨t231, A1430, H⟩ := H
                                      replace H : (spec_l01Named.l6 k4 x14_2 x15_3 (wrap64 (x16_4 + 1)) t224 t231) = some (r1, r2, r3) := H
                                      have A143 := Aside0.mk A1430
                                      clear A1430
                                      have H' := Aside0.mk H
                                      clear H
                                      have hnb144 := NB228_157.out
                                      have hnc144 := NB157_228.out
                                      have hcz145_0 : wr.cell? ⟨gb228, 0, none⟩ = some (.int .i64 t224) := (blk_cell BK228.out 0).trans rfl
                                      have hcz145_1 : wr.cell? ⟨gb228, 1, none⟩ = some (u229001) := (blk_cell BK228.out 1).trans rfl
                                      have hfz145_0 := blk_frozen BK228.out 0
                                      have hfz145_1 := blk_frozen BK228.out 1
                                      obtain ⟨Ao146, co146, eo146⟩ := Kd.R_slice HO_229001.out
                                      subst eo146
                                      go_wp2_with (first | ((with_reducible refine gate_callee (f := 49) rfl ?_); refine goesL_ (some 191) rfl rfl Try.func49 (by kernel_rfl) rfl #[.agg #[.int .i64 t224, .slice Ao146 x229001_4.length co146], .int .i64 (wrap64 ((wrap64 (5 * x14_2)) + x15_3)), .int .i64 (wrap64 ((wrap64 (25 + (wrap64 (5 * x16_4)))) + (Int.tmod (wrap64 ((wrap64 (x14_2 * x16_4)) + x15_3)) 5)))] rfl (by (try simp only [List.map_toArray, List.map_cons, List.map_nil]); first | done | rfl | (simp only [List.length_drop, List.length_take]; rfl)) ?_; (with_reducible refine (spec_l01Put.calls t224 (fun k_ => some k_ = (.slice Ao146 x229001_4.length co146 : Value).ownBlock) (.slice Ao146 x229001_4.length co146) x229001_4 (wrap64 ((wrap64 (5 * x14_2)) + x15_3)) (wrap64 ((wrap64 (25 + (wrap64 (5 * x16_4)))) + (Int.tmod (wrap64 ((wrap64 (x14_2 * x16_4)) + x15_3)) 5))) t231 w _ ?side1 ?side2 A143.out).mono ?_); (case side1 => repeat (first | (with_reducible first | exact HB.out | apply below_alloc | apply pw_below_drewN | apply below_drew1 | refine below_set ?_ GE157.out | refine below_set ?_ GE228.out) | exact HB.out)); (case side2 => exact Kd.R_tight rfl HO_229001.out); rintro e w147 ⟨rfl, hy0, hb, hkp⟩; refine ⟨_, rfl, ?_⟩; have n0_ := Aside0.mk (Kd.R_reok rfl hy0 (fun k_ e_ => HO_229001.out.1 k_ e_)); have n1_ := Aside0.mk (blk_kept (by (with_reducible repeat (first | refine blk_drewN ?_ _ | refine blk_drew ?_ | refine blk_alloc ?_ _)); exact BK157.out) hkp (fun hs_ => (fun e_ => (Kd.R_ne HO_229001.out BK157.out (by decide)) e_) hs_)); have n2_ := Aside0.mk (blk_kept (by (with_reducible repeat (first | refine blk_drewN ?_ _ | refine blk_drew ?_ | refine blk_alloc ?_ _)); exact BK228.out) hkp (fun hs_ => (fun e_ => (Kd.R_ne HO_229001.out BK228.out (by decide)) e_) hs_)); have n3_ := Aside0.mk (hb); clear HO_229001; clear BK157; clear BK228; clear HB; have HO_229001 := n0_; have BK157 := n1_; have BK228 := n2_; have HB := n3_; clear n0_ n1_ n2_ n3_; (try clear hb); (try clear hkp); (try clear hy0)))
                                      go_roundg k4
                                      case measure => have := HJ40.out; have := HK2.out; have := HK3.out; have := HK4.out; omega
                                      case rel => exact ⟨(wrap64 (x16_4 + 1)), (t231), (.slice Ao146 x229001_4.length co146), (by first | rfl | (simp; done) | (simp [*]; done)), H', ⟨by have := HJ40.out; have := HK2.out; have := HK3.out; have := HK4.out; omega⟩, ⟨by (with_reducible repeat (first | apply Kd.R_alloc | apply Kd.R_drewN | apply Kd.R_drew)); exact HO_229001.out⟩, ⟨by (with_reducible repeat (first | refine blk_drewN ?_ _ | refine blk_drew ?_ | refine blk_alloc ?_ _)); exact BK157.out⟩, ⟨by (with_reducible repeat (first | refine blk_drewN ?_ _ | refine blk_drew ?_ | refine blk_alloc ?_ _)); exact BK228.out⟩, ⟨by repeat (first | (with_reducible first | exact HB.out | apply below_alloc | apply pw_below_drewN | apply below_drew1 | refine below_set ?_ GE157.out | refine below_set ?_ GE228.out) | exact HB.out)⟩⟩
                                    · rw [if_neg c142] at H
                                      have c142b0 : decide (x16_4 < 5) = false := decide_eq_false c142
                                      clear c142
                                      have H' := Aside0.mk H
                                      clear H
                                      go_wp2
                                      go_roundg k4
                                      case measure => have := HJ40.out; have := HK2.out; have := HK3.out; have := HK4.out; omega
                                      case rel => exact ⟨(wrap64 (x15_3 + 1)), (x229001_4), (u229001), (by first | rfl | (simp; done) | (simp [*]; done)), H', ⟨by have := HJ40.out; have := HK2.out; have := HK3.out; have := HK4.out; omega⟩, ⟨by (with_reducible repeat (first | apply Kd.R_alloc | apply Kd.R_drewN | apply Kd.R_drew)); exact HO_229001.out⟩, ⟨by (with_reducible repeat (first | refine blk_drewN ?_ _ | refine blk_drew ?_ | refine blk_alloc ?_ _)); exact BK157.out⟩, ⟨by (with_reducible repeat (first | refine blk_drewN ?_ _ | refine blk_drew ?_ | refine blk_alloc ?_ _)); exact BK228.out⟩, ⟨by repeat (first | (with_reducible first | exact HB.out | apply below_alloc | apply pw_below_drewN | apply below_drew1 | refine below_set ?_ GE157.out | refine below_set ?_ GE228.out) | exact HB.out)⟩⟩
                              · rw [if_neg c133] at H
                                have c133b0 : decide (x15_3 < 5) = false := decide_eq_false c133
                                clear c133
                                have H' := Aside0.mk H
                                clear H
                                go_wp2
                                go_roundg k3
                                case measure => have := HJ40.out; have := HK2.out; have := HK3.out; omega
                                case rel => exact ⟨(wrap64 (x14_2 + 1)), (x229001_3), (u229001), (by first | rfl | (simp; done) | (simp [*]; done)), H', ⟨by have := HJ40.out; have := HK2.out; have := HK3.out; omega⟩, ⟨by (with_reducible repeat (first | apply Kd.R_alloc | apply Kd.R_drewN | apply Kd.R_drew)); exact HO_229001.out⟩, ⟨by (with_reducible repeat (first | refine blk_drewN ?_ _ | refine blk_drew ?_ | refine blk_alloc ?_ _)); exact BK157.out⟩, ⟨by (with_reducible repeat (first | refine blk_drewN ?_ _ | refine blk_drew ?_ | refine blk_alloc ?_ _)); exact BK228.out⟩, ⟨by repeat (first | (with_reducible first | exact HB.out | apply below_alloc | apply pw_below_drewN | apply below_drew1 | refine below_set ?_ GE157.out | refine below_set ?_ GE228.out) | exact HB.out)⟩⟩
                        · rw [if_neg c132] at H
                          have c132b0 : decide (x14_2 < 5) = false := decide_eq_false c132
                          clear c132
                          simp only [Option.some.injEq, Prod.mk.injEq] at H
                          obtain ⟨rfl, rfl, rfl⟩ := H
                          have hnb148 := NB228_157.out
                          have hnc148 := NB157_228.out
                          have hcz149_0 : wr.cell? ⟨gb228, 0, none⟩ = some (.int .i64 t224) := (blk_cell BK228.out 0).trans rfl
                          have hcz149_1 : wr.cell? ⟨gb228, 1, none⟩ = some (u229001) := (blk_cell BK228.out 1).trans rfl
                          have hfz149_0 := blk_frozen BK228.out 0
                          have hfz149_1 := blk_frozen BK228.out 1
                          have hcz150_0 : wr.cell? ⟨gb157, 0, none⟩ = some (.int .i64 0) := (blk_cell BK157.out 0).trans rfl
                          have hcz150_1 : wr.cell? ⟨gb157, 1, none⟩ = some (.slice none 0 0) := (blk_cell BK157.out 1).trans rfl
                          have hfz150_0 := blk_frozen BK157.out 0
                          have hfz150_1 := blk_frozen BK157.out 1
                          obtain ⟨Ao151, co151, eo151⟩ := Kd.R_slice HO_229001.out
                          subst eo151
                          go_wp2
                          refine bodyPost_ret (results_ct rfl _ _ gb157 34 #[.int .i64 t224, .slice Ao151 x229001_2.length co151] (0, 0) _ rfl (by (with_reducible repeat (first | refine blk_drewN ?_ _ | refine blk_drew ?_ | refine blk_alloc ?_ _)); refine blk_put (cs := #[.int .i64 t224, .slice none 0 0]) ?_ 1 _ rfl; (with_reducible repeat (first | refine blk_drewN ?_ _ | refine blk_drew ?_ | refine blk_alloc ?_ _)); refine blk_put (cs := #[.int .i64 0, .slice none 0 0]) ?_ 0 _ rfl; (with_reducible repeat (first | refine blk_drewN ?_ _ | refine blk_drew ?_ | refine blk_alloc ?_ _)); exact BK157.out) Try.underlying34 rfl (by kernel_rfl)) rfl ?_
                          exact ⟨_, by first | rfl | (simp [errW_none, errW_some] <;> rfl) | (simp [*, errW_none, errW_some] <;> rfl), by (with_reducible repeat (first | apply Kd.R_alloc | apply Kd.R_drewN | apply Kd.R_drew)); exact Kd.R_mono (Kd.R_far (p := ⟨gb157, 1, none⟩) (Kd.R_far (p := ⟨gb157, 0, none⟩) (Kd.R_types HO_229001.out BK157.out (by decide)) (fun _ hk => hk.2) (.int .i64 t224)) (fun _ hk => hk.2) (.slice Ao151 x229001_2.length co151)) (fun _ hk => trivial), by repeat (first | (with_reducible first | exact HB.out | apply below_alloc | apply pw_below_drewN | apply below_drew1 | refine below_set ?_ GE157.out | refine below_set ?_ GE228.out) | exact HB.out)⟩
                  · rw [if_neg c125] at H
                    have c125b0 : (a0.toList == ([104, 111, 102, 102, 109, 97, 110, 115, 105, 110, 103, 108, 101, 116, 111, 110] : List UInt8)) = false := beq_eq_false_iff_ne.mpr c125
                    have c125b1 : (a0.toList != ([104, 111, 102, 102, 109, 97, 110, 115, 105, 110, 103, 108, 101, 116, 111, 110] : List UInt8)) = true := bne_iff_ne.mpr c125
                    by_cases c152 : a0.toList = ([104, 101, 97, 119, 111, 111, 100] : List UInt8)
                    · rw [if_pos c152] at H
                      have c152b0 : (a0.toList == ([104, 101, 97, 119, 111, 111, 100] : List UInt8)) = true := beq_iff_eq.mpr c152
                      have c152b1 : (a0.toList != ([104, 101, 97, 119, 111, 111, 100] : List UInt8)) = false := bne_eq_false_iff_eq.mpr c152
                      clear c152
                      obtain ⟨y232, hy232⟩ : ∃ y_ : List Int, y_ = (([5, 9] : List Int)) := ⟨_, rfl⟩
                      replace H : ((spec_l01Jumps.f kj40 14 y232).bind fun bt235 => (some (bt235.1, bt235.2, true))) = some (r1, r2, r3) := by first | (rw [hy232]; with_reducible exact H) | (have H2_ := (Option.bind_some _ _).symm.trans H; rw [hy232]; with_reducible exact H2_) | (have H2_ := (Option.bind_some _ _).symm.trans H; with_reducible exact H2_) | with_reducible exact H | (rw [hy232]; exact H) | exact H
                      have Ny232 := Aside0.mk hy232
                      clear hy232
                      replace H := Option.bind_eq_some_iff.mp H
                      obtain ⟨⟨t235, t236⟩, A1530, H⟩ := H
                      replace H : (some (t235, t236, true)) = some (r1, r2, r3) := H
                      have A153 := Aside0.mk A1530
                      clear A1530
                      simp only [Option.some.injEq, Prod.mk.injEq] at H
                      obtain ⟨rfl, rfl, rfl⟩ := H
                      go_wp2_with (first | ((with_reducible refine gate_dst (N := 195) rfl ?_); refine Kd.R_lit (Kd.int .i64) _ 2 ?hg (N := 195) ?hd (xs := ([5, 9] : List Int)) (inner := [.int .i64 5, .int .i64 9]) (ok := fun _ => True) (okp := fun _ => True) ?hr ?hp (fun _ hk => hk) trivial (Below.refl _ _) (Nat.le_refl _) (by simp) ?_; (case hd => rfl); (case hg => rfl); (case hr => first | (go_simp; done) | (go_simp; rfl)); (case hp => exact (Reps.one (show Kd.M (Kd.int .i64) _ _ _ 5 [.int .i64 5] from rfl) (Reps.one (show Kd.M (Kd.int .i64) _ _ _ 9 [.int .i64 9] from rfl) (Reps.none _ _)))); intro v233 w154 ho155 hb hg_ hnew_; clear hg_ hnew_; (first | rw [← Ny232.out] at ho155 | (simp only [Int.reduceToNat] at ho155; rw [← Ny232.out] at ho155)); have n0_ := Aside0.mk (Kd.R_lower ho155 (below_size (by repeat (first | (with_reducible first | exact HB.out | apply below_alloc | apply pw_below_drewN | apply below_drew1 | refine below_set ?_ GE157.out) | exact HB.out)))); have n1_ := Aside0.mk (blk_below (g := gb157) (o := .cells #[.int .i64 0, .slice none 0 0] 34 (0, 0)) (by (with_reducible repeat (first | refine blk_drewN ?_ _ | refine blk_drew ?_ | refine blk_alloc ?_ _)); exact BK157.out) hb); have n2_ := Aside0.mk (below_step (by repeat (first | (with_reducible first | exact HB.out | apply below_alloc | apply pw_below_drewN | apply below_drew1 | refine below_set ?_ GE157.out) | exact HB.out)) hb); clear BK157; clear HB; have HO234 := n0_; have BK157 := n1_; have HB := n2_; clear n0_ n1_ n2_; clear hb ho155; obtain ⟨Ao156, co156, eo156⟩ := Kd.R_slice HO234.out; subst eo156) | ((with_reducible refine gate_callee (f := 84) rfl ?_); refine goesL_ (some 196) rfl rfl Try.func84 (by kernel_rfl) rfl #[.int .i64 14, .slice Ao156 y232.length co156] rfl (by (try simp only [List.map_toArray, List.map_cons, List.map_nil]); first | done | rfl | (simp only [List.length_drop, List.length_take]; rfl)) ?_; (with_reducible refine (spec_l01Jumps.calls kj40 14 _ _ y232 t235 t236 _ ?side1 ?side2 A153.out).mono ?_); (case side1 => repeat (first | exact (Kd.R_reads' HO234.out).2.2 | (with_reducible refine Kd.C_alloc ?_ _) | (with_reducible refine Kd.C_drewN ?_ _) | (with_reducible refine Kd.C_drew ?_))); (case side2 => exact (Kd.R_reads' HO234.out).2.1); rintro e w157 ⟨v237, rfl, ho0, hb⟩; refine ⟨_, rfl, ?_⟩; have n0_ := Aside0.mk (Kd.R_elder' (by (with_reducible repeat (first | apply Kd.R_alloc | apply Kd.R_drewN | apply Kd.R_drew)); exact HO234.out) (Kd.R_base ho0) hb); have n1_ := Aside0.mk (Kd.R_lower (Kd.R_new' ho0 (Kd.R_lt (by (with_reducible repeat (first | apply Kd.R_alloc | apply Kd.R_drewN | apply Kd.R_drew)); exact HO234.out))) (below_size (by repeat (first | (with_reducible first | exact HB.out | apply below_alloc | apply pw_below_drewN | apply below_drew1 | refine below_set ?_ GE157.out) | exact HB.out)))); have n2_ := Aside0.mk (blk_below (g := gb157) (o := .cells #[.int .i64 0, .slice none 0 0] 34 (0, 0)) (by (with_reducible repeat (first | refine blk_drewN ?_ _ | refine blk_drew ?_ | refine blk_alloc ?_ _)); exact BK157.out) hb); have n3_ := Aside0.mk (below_step (by repeat (first | (with_reducible first | exact HB.out | apply below_alloc | apply pw_below_drewN | apply below_drew1 | refine below_set ?_ GE157.out) | exact HB.out)) hb); clear HO234; clear BK157; clear HB; have HO234 := n0_; have HO238 := n1_; have BK157 := n2_; have HB := n3_; clear n0_ n1_ n2_ n3_; (try clear hb); (try clear hb2); (try clear hk); (try clear hi); (try clear ho0); have hcz158_0 : w157.cell? ⟨gb157, 0, none⟩ = some (.int .i64 0) := (blk_cell BK157.out 0).trans rfl; have hcz158_1 : w157.cell? ⟨gb157, 1, none⟩ = some (.slice none 0 0) := (blk_cell BK157.out 1).trans rfl; have hfz158_0 := blk_frozen BK157.out 0; have hfz158_1 := blk_frozen BK157.out 1; obtain ⟨Ao159, co159, eo159⟩ := Kd.R_slice HO238.out; subst eo159))
                      refine bodyPost_ret (results_ct rfl _ _ gb157 34 #[.int .i64 t235, .slice Ao159 t236.length co159] (0, 0) _ rfl (by (with_reducible repeat (first | refine blk_drewN ?_ _ | refine blk_drew ?_ | refine blk_alloc ?_ _)); refine blk_put (cs := #[.int .i64 t235, .slice none 0 0]) ?_ 1 _ rfl; (with_reducible repeat (first | refine blk_drewN ?_ _ | refine blk_drew ?_ | refine blk_alloc ?_ _)); refine blk_put (cs := #[.int .i64 0, .slice none 0 0]) ?_ 0 _ rfl; (with_reducible repeat (first | refine blk_drewN ?_ _ | refine blk_drew ?_ | refine blk_alloc ?_ _)); exact BK157.out) Try.underlying34 rfl (by kernel_rfl)) rfl ?_
                      exact ⟨_, by first | rfl | (simp [errW_none, errW_some] <;> rfl) | (simp [*, errW_none, errW_some] <;> rfl), by (with_reducible repeat (first | apply Kd.R_alloc | apply Kd.R_drewN | apply Kd.R_drew)); exact Kd.R_mono (Kd.R_far (p := ⟨gb157, 1, none⟩) (Kd.R_far (p := ⟨gb157, 0, none⟩) (Kd.R_types HO238.out BK157.out (by decide)) (fun _ hk => hk.2) (.int .i64 t235)) (fun _ hk => hk.2) (.slice Ao159 t236.length co159)) (fun _ hk => trivial), by repeat (first | (with_reducible first | exact HB.out | apply below_alloc | apply pw_below_drewN | apply below_drew1 | refine below_set ?_ GE157.out) | exact HB.out)⟩
                    · rw [if_neg c152] at H
                      have c152b0 : (a0.toList == ([104, 101, 97, 119, 111, 111, 100] : List UInt8)) = false := beq_eq_false_iff_ne.mpr c152
                      have c152b1 : (a0.toList != ([104, 101, 97, 119, 111, 111, 100] : List UInt8)) = true := bne_iff_ne.mpr c152
                      by_cases c160 : a0.toList = ([109, 111, 101, 98, 105, 117, 115, 107, 97, 110, 116, 111, 114] : List UInt8)
                      · rw [if_pos c160] at H
                        have c160b0 : (a0.toList == ([109, 111, 101, 98, 105, 117, 115, 107, 97, 110, 116, 111, 114] : List UInt8)) = true := beq_iff_eq.mpr c160
                        have c160b1 : (a0.toList != ([109, 111, 101, 98, 105, 117, 115, 107, 97, 110, 116, 111, 114] : List UInt8)) = false := bne_eq_false_iff_eq.mpr c160
                        clear c160
                        obtain ⟨y239, hy239⟩ : ∃ y_ : List Int, y_ = (([5, 11] : List Int)) := ⟨_, rfl⟩
                        replace H : ((spec_l01Jumps.f kj40 16 y239).bind fun bt242 => (some (bt242.1, bt242.2, true))) = some (r1, r2, r3) := by first | (rw [hy239]; with_reducible exact H) | (have H2_ := (Option.bind_some _ _).symm.trans H; rw [hy239]; with_reducible exact H2_) | (have H2_ := (Option.bind_some _ _).symm.trans H; with_reducible exact H2_) | with_reducible exact H | (rw [hy239]; exact H) | exact H
                        have Ny239 := Aside0.mk hy239
                        clear hy239
                        replace H := Option.bind_eq_some_iff.mp H
                        obtain ⟨⟨t242, t243⟩, A1610, H⟩ := H
                        replace H : (some (t242, t243, true)) = some (r1, r2, r3) := H
                        have A161 := Aside0.mk A1610
                        clear A1610
                        simp only [Option.some.injEq, Prod.mk.injEq] at H
                        obtain ⟨rfl, rfl, rfl⟩ := H
                        go_wp2_with (first | ((with_reducible refine gate_dst (N := 199) rfl ?_); refine Kd.R_lit (Kd.int .i64) _ 2 ?hg (N := 199) ?hd (xs := ([5, 11] : List Int)) (inner := [.int .i64 5, .int .i64 11]) (ok := fun _ => True) (okp := fun _ => True) ?hr ?hp (fun _ hk => hk) trivial (Below.refl _ _) (Nat.le_refl _) (by simp) ?_; (case hd => rfl); (case hg => rfl); (case hr => first | (go_simp; done) | (go_simp; rfl)); (case hp => exact (Reps.one (show Kd.M (Kd.int .i64) _ _ _ 5 [.int .i64 5] from rfl) (Reps.one (show Kd.M (Kd.int .i64) _ _ _ 11 [.int .i64 11] from rfl) (Reps.none _ _)))); intro v240 w162 ho163 hb hg_ hnew_; clear hg_ hnew_; (first | rw [← Ny239.out] at ho163 | (simp only [Int.reduceToNat] at ho163; rw [← Ny239.out] at ho163)); have n0_ := Aside0.mk (Kd.R_lower ho163 (below_size (by repeat (first | (with_reducible first | exact HB.out | apply below_alloc | apply pw_below_drewN | apply below_drew1 | refine below_set ?_ GE157.out) | exact HB.out)))); have n1_ := Aside0.mk (blk_below (g := gb157) (o := .cells #[.int .i64 0, .slice none 0 0] 34 (0, 0)) (by (with_reducible repeat (first | refine blk_drewN ?_ _ | refine blk_drew ?_ | refine blk_alloc ?_ _)); exact BK157.out) hb); have n2_ := Aside0.mk (below_step (by repeat (first | (with_reducible first | exact HB.out | apply below_alloc | apply pw_below_drewN | apply below_drew1 | refine below_set ?_ GE157.out) | exact HB.out)) hb); clear BK157; clear HB; have HO241 := n0_; have BK157 := n1_; have HB := n2_; clear n0_ n1_ n2_; clear hb ho163; obtain ⟨Ao164, co164, eo164⟩ := Kd.R_slice HO241.out; subst eo164) | ((with_reducible refine gate_callee (f := 84) rfl ?_); refine goesL_ (some 200) rfl rfl Try.func84 (by kernel_rfl) rfl #[.int .i64 16, .slice Ao164 y239.length co164] rfl (by (try simp only [List.map_toArray, List.map_cons, List.map_nil]); first | done | rfl | (simp only [List.length_drop, List.length_take]; rfl)) ?_; (with_reducible refine (spec_l01Jumps.calls kj40 16 _ _ y239 t242 t243 _ ?side1 ?side2 A161.out).mono ?_); (case side1 => repeat (first | exact (Kd.R_reads' HO241.out).2.2 | (with_reducible refine Kd.C_alloc ?_ _) | (with_reducible refine Kd.C_drewN ?_ _) | (with_reducible refine Kd.C_drew ?_))); (case side2 => exact (Kd.R_reads' HO241.out).2.1); rintro e w165 ⟨v244, rfl, ho0, hb⟩; refine ⟨_, rfl, ?_⟩; have n0_ := Aside0.mk (Kd.R_elder' (by (with_reducible repeat (first | apply Kd.R_alloc | apply Kd.R_drewN | apply Kd.R_drew)); exact HO241.out) (Kd.R_base ho0) hb); have n1_ := Aside0.mk (Kd.R_lower (Kd.R_new' ho0 (Kd.R_lt (by (with_reducible repeat (first | apply Kd.R_alloc | apply Kd.R_drewN | apply Kd.R_drew)); exact HO241.out))) (below_size (by repeat (first | (with_reducible first | exact HB.out | apply below_alloc | apply pw_below_drewN | apply below_drew1 | refine below_set ?_ GE157.out) | exact HB.out)))); have n2_ := Aside0.mk (blk_below (g := gb157) (o := .cells #[.int .i64 0, .slice none 0 0] 34 (0, 0)) (by (with_reducible repeat (first | refine blk_drewN ?_ _ | refine blk_drew ?_ | refine blk_alloc ?_ _)); exact BK157.out) hb); have n3_ := Aside0.mk (below_step (by repeat (first | (with_reducible first | exact HB.out | apply below_alloc | apply pw_below_drewN | apply below_drew1 | refine below_set ?_ GE157.out) | exact HB.out)) hb); clear HO241; clear BK157; clear HB; have HO241 := n0_; have HO245 := n1_; have BK157 := n2_; have HB := n3_; clear n0_ n1_ n2_ n3_; (try clear hb); (try clear hb2); (try clear hk); (try clear hi); (try clear ho0); have hcz166_0 : w165.cell? ⟨gb157, 0, none⟩ = some (.int .i64 0) := (blk_cell BK157.out 0).trans rfl; have hcz166_1 : w165.cell? ⟨gb157, 1, none⟩ = some (.slice none 0 0) := (blk_cell BK157.out 1).trans rfl; have hfz166_0 := blk_frozen BK157.out 0; have hfz166_1 := blk_frozen BK157.out 1; obtain ⟨Ao167, co167, eo167⟩ := Kd.R_slice HO245.out; subst eo167))
                        refine bodyPost_ret (results_ct rfl _ _ gb157 34 #[.int .i64 t242, .slice Ao167 t243.length co167] (0, 0) _ rfl (by (with_reducible repeat (first | refine blk_drewN ?_ _ | refine blk_drew ?_ | refine blk_alloc ?_ _)); refine blk_put (cs := #[.int .i64 t242, .slice none 0 0]) ?_ 1 _ rfl; (with_reducible repeat (first | refine blk_drewN ?_ _ | refine blk_drew ?_ | refine blk_alloc ?_ _)); refine blk_put (cs := #[.int .i64 0, .slice none 0 0]) ?_ 0 _ rfl; (with_reducible repeat (first | refine blk_drewN ?_ _ | refine blk_drew ?_ | refine blk_alloc ?_ _)); exact BK157.out) Try.underlying34 rfl (by kernel_rfl)) rfl ?_
                        exact ⟨_, by first | rfl | (simp [errW_none, errW_some] <;> rfl) | (simp [*, errW_none, errW_some] <;> rfl), by (with_reducible repeat (first | apply Kd.R_alloc | apply Kd.R_drewN | apply Kd.R_drew)); exact Kd.R_mono (Kd.R_far (p := ⟨gb157, 1, none⟩) (Kd.R_far (p := ⟨gb157, 0, none⟩) (Kd.R_types HO245.out BK157.out (by decide)) (fun _ hk => hk.2) (.int .i64 t242)) (fun _ hk => hk.2) (.slice Ao167 t243.length co167)) (fun _ hk => trivial), by repeat (first | (with_reducible first | exact HB.out | apply below_alloc | apply pw_below_drewN | apply below_drew1 | refine below_set ?_ GE157.out) | exact HB.out)⟩
                      · rw [if_neg c160] at H
                        have c160b0 : (a0.toList == ([109, 111, 101, 98, 105, 117, 115, 107, 97, 110, 116, 111, 114] : List UInt8)) = false := beq_eq_false_iff_ne.mpr c160
                        have c160b1 : (a0.toList != ([109, 111, 101, 98, 105, 117, 115, 107, 97, 110, 116, 111, 114] : List UInt8)) = true := bne_iff_ne.mpr c160
                        by_cases c168 : a0.toList = ([112, 97, 112, 112, 117, 115] : List UInt8)
                        · rw [if_pos c168] at H
                          have c168b0 : (a0.toList == ([112, 97, 112, 112, 117, 115] : List UInt8)) = true := beq_iff_eq.mpr c168
                          have c168b1 : (a0.toList != ([112, 97, 112, 112, 117, 115] : List UInt8)) = false := bne_eq_false_iff_eq.mpr c168
                          clear c168
                          obtain ⟨y246, hy246⟩ : ∃ y_ : List Int, y_ = (([5, 7, 11, 7, 11, 13] : List Int)) := ⟨_, rfl⟩
                          replace H : ((spec_l01Jumps.f kj40 18 y246).bind fun bt249 => (some (bt249.1, bt249.2, true))) = some (r1, r2, r3) := by first | (rw [hy246]; with_reducible exact H) | (have H2_ := (Option.bind_some _ _).symm.trans H; rw [hy246]; with_reducible exact H2_) | (have H2_ := (Option.bind_some _ _).symm.trans H; with_reducible exact H2_) | with_reducible exact H | (rw [hy246]; exact H) | exact H
                          have Ny246 := Aside0.mk hy246
                          clear hy246
                          replace H := Option.bind_eq_some_iff.mp H
                          obtain ⟨⟨t249, t250⟩, A1690, H⟩ := H
                          replace H : (some (t249, t250, true)) = some (r1, r2, r3) := H
                          have A169 := Aside0.mk A1690
                          clear A1690
                          simp only [Option.some.injEq, Prod.mk.injEq] at H
                          obtain ⟨rfl, rfl, rfl⟩ := H
                          go_wp2_with (first | ((with_reducible refine gate_dst (N := 203) rfl ?_); refine Kd.R_lit (Kd.int .i64) _ 2 ?hg (N := 203) ?hd (xs := ([5, 7, 11, 7, 11, 13] : List Int)) (inner := [.int .i64 5, .int .i64 7, .int .i64 11, .int .i64 7, .int .i64 11, .int .i64 13]) (ok := fun _ => True) (okp := fun _ => True) ?hr ?hp (fun _ hk => hk) trivial (Below.refl _ _) (Nat.le_refl _) (by simp) ?_; (case hd => rfl); (case hg => rfl); (case hr => first | (go_simp; done) | (go_simp; rfl)); (case hp => exact (Reps.one (show Kd.M (Kd.int .i64) _ _ _ 5 [.int .i64 5] from rfl) (Reps.one (show Kd.M (Kd.int .i64) _ _ _ 7 [.int .i64 7] from rfl) (Reps.one (show Kd.M (Kd.int .i64) _ _ _ 11 [.int .i64 11] from rfl) (Reps.one (show Kd.M (Kd.int .i64) _ _ _ 7 [.int .i64 7] from rfl) (Reps.one (show Kd.M (Kd.int .i64) _ _ _ 11 [.int .i64 11] from rfl) (Reps.one (show Kd.M (Kd.int .i64) _ _ _ 13 [.int .i64 13] from rfl) (Reps.none _ _)))))))); intro v247 w170 ho171 hb hg_ hnew_; clear hg_ hnew_; (first | rw [← Ny246.out] at ho171 | (simp only [Int.reduceToNat] at ho171; rw [← Ny246.out] at ho171)); have n0_ := Aside0.mk (Kd.R_lower ho171 (below_size (by repeat (first | (with_reducible first | exact HB.out | apply below_alloc | apply pw_below_drewN | apply below_drew1 | refine below_set ?_ GE157.out) | exact HB.out)))); have n1_ := Aside0.mk (blk_below (g := gb157) (o := .cells #[.int .i64 0, .slice none 0 0] 34 (0, 0)) (by (with_reducible repeat (first | refine blk_drewN ?_ _ | refine blk_drew ?_ | refine blk_alloc ?_ _)); exact BK157.out) hb); have n2_ := Aside0.mk (below_step (by repeat (first | (with_reducible first | exact HB.out | apply below_alloc | apply pw_below_drewN | apply below_drew1 | refine below_set ?_ GE157.out) | exact HB.out)) hb); clear BK157; clear HB; have HO248 := n0_; have BK157 := n1_; have HB := n2_; clear n0_ n1_ n2_; clear hb ho171; obtain ⟨Ao172, co172, eo172⟩ := Kd.R_slice HO248.out; subst eo172) | ((with_reducible refine gate_callee (f := 84) rfl ?_); refine goesL_ (some 204) rfl rfl Try.func84 (by kernel_rfl) rfl #[.int .i64 18, .slice Ao172 y246.length co172] rfl (by (try simp only [List.map_toArray, List.map_cons, List.map_nil]); first | done | rfl | (simp only [List.length_drop, List.length_take]; rfl)) ?_; (with_reducible refine (spec_l01Jumps.calls kj40 18 _ _ y246 t249 t250 _ ?side1 ?side2 A169.out).mono ?_); (case side1 => repeat (first | exact (Kd.R_reads' HO248.out).2.2 | (with_reducible refine Kd.C_alloc ?_ _) | (with_reducible refine Kd.C_drewN ?_ _) | (with_reducible refine Kd.C_drew ?_))); (case side2 => exact (Kd.R_reads' HO248.out).2.1); rintro e w173 ⟨v251, rfl, ho0, hb⟩; refine ⟨_, rfl, ?_⟩; have n0_ := Aside0.mk (Kd.R_elder' (by (with_reducible repeat (first | apply Kd.R_alloc | apply Kd.R_drewN | apply Kd.R_drew)); exact HO248.out) (Kd.R_base ho0) hb); have n1_ := Aside0.mk (Kd.R_lower (Kd.R_new' ho0 (Kd.R_lt (by (with_reducible repeat (first | apply Kd.R_alloc | apply Kd.R_drewN | apply Kd.R_drew)); exact HO248.out))) (below_size (by repeat (first | (with_reducible first | exact HB.out | apply below_alloc | apply pw_below_drewN | apply below_drew1 | refine below_set ?_ GE157.out) | exact HB.out)))); have n2_ := Aside0.mk (blk_below (g := gb157) (o := .cells #[.int .i64 0, .slice none 0 0] 34 (0, 0)) (by (with_reducible repeat (first | refine blk_drewN ?_ _ | refine blk_drew ?_ | refine blk_alloc ?_ _)); exact BK157.out) hb); have n3_ := Aside0.mk (below_step (by repeat (first | (with_reducible first | exact HB.out | apply below_alloc | apply pw_below_drewN | apply below_drew1 | refine below_set ?_ GE157.out) | exact HB.out)) hb); clear HO248; clear BK157; clear HB; have HO248 := n0_; have HO252 := n1_; have BK157 := n2_; have HB := n3_; clear n0_ n1_ n2_ n3_; (try clear hb); (try clear hb2); (try clear hk); (try clear hi); (try clear ho0); have hcz174_0 : w173.cell? ⟨gb157, 0, none⟩ = some (.int .i64 0) := (blk_cell BK157.out 0).trans rfl; have hcz174_1 : w173.cell? ⟨gb157, 1, none⟩ = some (.slice none 0 0) := (blk_cell BK157.out 1).trans rfl; have hfz174_0 := blk_frozen BK157.out 0; have hfz174_1 := blk_frozen BK157.out 1; obtain ⟨Ao175, co175, eo175⟩ := Kd.R_slice HO252.out; subst eo175))
                          refine bodyPost_ret (results_ct rfl _ _ gb157 34 #[.int .i64 t249, .slice Ao175 t250.length co175] (0, 0) _ rfl (by (with_reducible repeat (first | refine blk_drewN ?_ _ | refine blk_drew ?_ | refine blk_alloc ?_ _)); refine blk_put (cs := #[.int .i64 t249, .slice none 0 0]) ?_ 1 _ rfl; (with_reducible repeat (first | refine blk_drewN ?_ _ | refine blk_drew ?_ | refine blk_alloc ?_ _)); refine blk_put (cs := #[.int .i64 0, .slice none 0 0]) ?_ 0 _ rfl; (with_reducible repeat (first | refine blk_drewN ?_ _ | refine blk_drew ?_ | refine blk_alloc ?_ _)); exact BK157.out) Try.underlying34 rfl (by kernel_rfl)) rfl ?_
                          exact ⟨_, by first | rfl | (simp [errW_none, errW_some] <;> rfl) | (simp [*, errW_none, errW_some] <;> rfl), by (with_reducible repeat (first | apply Kd.R_alloc | apply Kd.R_drewN | apply Kd.R_drew)); exact Kd.R_mono (Kd.R_far (p := ⟨gb157, 1, none⟩) (Kd.R_far (p := ⟨gb157, 0, none⟩) (Kd.R_types HO252.out BK157.out (by decide)) (fun _ hk => hk.2) (.int .i64 t249)) (fun _ hk => hk.2) (.slice Ao175 t250.length co175)) (fun _ hk => trivial), by repeat (first | (with_reducible first | exact HB.out | apply below_alloc | apply pw_below_drewN | apply below_drew1 | refine below_set ?_ GE157.out) | exact HB.out)⟩
                        · rw [if_neg c168] at H
                          have c168b0 : (a0.toList == ([112, 97, 112, 112, 117, 115] : List UInt8)) = false := beq_eq_false_iff_ne.mpr c168
                          have c168b1 : (a0.toList != ([112, 97, 112, 112, 117, 115] : List UInt8)) = true := bne_iff_ne.mpr c168
                          by_cases c176 : a0.toList = ([100, 101, 115, 97, 114, 103, 117, 101, 115] : List UInt8)
                          · rw [if_pos c176] at H
                            have c176b0 : (a0.toList == ([100, 101, 115, 97, 114, 103, 117, 101, 115] : List UInt8)) = true := beq_iff_eq.mpr c176
                            have c176b1 : (a0.toList != ([100, 101, 115, 97, 114, 103, 117, 101, 115] : List UInt8)) = false := bne_eq_false_iff_eq.mpr c176
                            clear c176
                            obtain ⟨y253, hy253⟩ : ∃ y_ : List Int, y_ = (([5, 15, 9, 11] : List Int)) := ⟨_, rfl⟩
                            replace H : ((spec_l01Jumps.f kj40 20 y253).bind fun bt256 => (some (bt256.1, bt256.2, true))) = some (r1, r2, r3) := by first | (rw [hy253]; with_reducible exact H) | (have H2_ := (Option.bind_some _ _).symm.trans H; rw [hy253]; with_reducible exact H2_) | (have H2_ := (Option.bind_some _ _).symm.trans H; with_reducible exact H2_) | with_reducible exact H | (rw [hy253]; exact H) | exact H
                            have Ny253 := Aside0.mk hy253
                            clear hy253
                            replace H := Option.bind_eq_some_iff.mp H
                            obtain ⟨⟨t256, t257⟩, A1770, H⟩ := H
                            replace H : (some (t256, t257, true)) = some (r1, r2, r3) := H
                            have A177 := Aside0.mk A1770
                            clear A1770
                            simp only [Option.some.injEq, Prod.mk.injEq] at H
                            obtain ⟨rfl, rfl, rfl⟩ := H
                            go_wp2_with (first | ((with_reducible refine gate_dst (N := 207) rfl ?_); refine Kd.R_lit (Kd.int .i64) _ 2 ?hg (N := 207) ?hd (xs := ([5, 15, 9, 11] : List Int)) (inner := [.int .i64 5, .int .i64 15, .int .i64 9, .int .i64 11]) (ok := fun _ => True) (okp := fun _ => True) ?hr ?hp (fun _ hk => hk) trivial (Below.refl _ _) (Nat.le_refl _) (by simp) ?_; (case hd => rfl); (case hg => rfl); (case hr => first | (go_simp; done) | (go_simp; rfl)); (case hp => exact (Reps.one (show Kd.M (Kd.int .i64) _ _ _ 5 [.int .i64 5] from rfl) (Reps.one (show Kd.M (Kd.int .i64) _ _ _ 15 [.int .i64 15] from rfl) (Reps.one (show Kd.M (Kd.int .i64) _ _ _ 9 [.int .i64 9] from rfl) (Reps.one (show Kd.M (Kd.int .i64) _ _ _ 11 [.int .i64 11] from rfl) (Reps.none _ _)))))); intro v254 w178 ho179 hb hg_ hnew_; clear hg_ hnew_; (first | rw [← Ny253.out] at ho179 | (simp only [Int.reduceToNat] at ho179; rw [← Ny253.out] at ho179)); have n0_ := Aside0.mk (Kd.R_lower ho179 (below_size (by repeat (first | (with_reducible first | exact HB.out | apply below_alloc | apply pw_below_drewN | apply below_drew1 | refine below_set ?_ GE157.out) | exact HB.out)))); have n1_ := Aside0.mk (blk_below (g := gb157) (o := .cells #[.int .i64 0, .slice none 0 0] 34 (0, 0)) (by (with_reducible repeat (first | refine blk_drewN ?_ _ | refine blk_drew ?_ | refine blk_alloc ?_ _)); exact BK157.out) hb); have n2_ := Aside0.mk (below_step (by repeat (first | (with_reducible first | exact HB.out | apply below_alloc | apply pw_below_drewN | apply below_drew1 | refine below_set ?_ GE157.out) | exact HB.out)) hb); clear BK157; clear HB; have HO255 := n0_; have BK157 := n1_; have HB := n2_; clear n0_ n1_ n2_; clear hb ho179; obtain ⟨Ao180, co180, eo180⟩ := Kd.R_slice HO255.out; subst eo180) | ((with_reducible refine gate_callee (f := 84) rfl ?_); refine goesL_ (some 208) rfl rfl Try.func84 (by kernel_rfl) rfl #[.int .i64 20, .slice Ao180 y253.length co180] rfl (by (try simp only [List.map_toArray, List.map_cons, List.map_nil]); first | done | rfl | (simp only [List.length_drop, List.length_take]; rfl)) ?_; (with_reducible refine (spec_l01Jumps.calls kj40 20 _ _ y253 t256 t257 _ ?side1 ?side2 A177.out).mono ?_); (case side1 => repeat (first | exact (Kd.R_reads' HO255.out).2.2 | (with_reducible refine Kd.C_alloc ?_ _) | (with_reducible refine Kd.C_drewN ?_ _) | (with_reducible refine Kd.C_drew ?_))); (case side2 => exact (Kd.R_reads' HO255.out).2.1); rintro e w181 ⟨v258, rfl, ho0, hb⟩; refine ⟨_, rfl, ?_⟩; have n0_ := Aside0.mk (Kd.R_elder' (by (with_reducible repeat (first | apply Kd.R_alloc | apply Kd.R_drewN | apply Kd.R_drew)); exact HO255.out) (Kd.R_base ho0) hb); have n1_ := Aside0.mk (Kd.R_lower (Kd.R_new' ho0 (Kd.R_lt (by (with_reducible repeat (first | apply Kd.R_alloc | apply Kd.R_drewN | apply Kd.R_drew)); exact HO255.out))) (below_size (by repeat (first | (with_reducible first | exact HB.out | apply below_alloc | apply pw_below_drewN | apply below_drew1 | refine below_set ?_ GE157.out) | exact HB.out)))); have n2_ := Aside0.mk (blk_below (g := gb157) (o := .cells #[.int .i64 0, .slice none 0 0] 34 (0, 0)) (by (with_reducible repeat (first | refine blk_drewN ?_ _ | refine blk_drew ?_ | refine blk_alloc ?_ _)); exact BK157.out) hb); have n3_ := Aside0.mk (below_step (by repeat (first | (with_reducible first | exact HB.out | apply below_alloc | apply pw_below_drewN | apply below_drew1 | refine below_set ?_ GE157.out) | exact HB.out)) hb); clear HO255; clear BK157; clear HB; have HO255 := n0_; have HO259 := n1_; have BK157 := n2_; have HB := n3_; clear n0_ n1_ n2_ n3_; (try clear hb); (try clear hb2); (try clear hk); (try clear hi); (try clear ho0); have hcz182_0 : w181.cell? ⟨gb157, 0, none⟩ = some (.int .i64 0) := (blk_cell BK157.out 0).trans rfl; have hcz182_1 : w181.cell? ⟨gb157, 1, none⟩ = some (.slice none 0 0) := (blk_cell BK157.out 1).trans rfl; have hfz182_0 := blk_frozen BK157.out 0; have hfz182_1 := blk_frozen BK157.out 1; obtain ⟨Ao183, co183, eo183⟩ := Kd.R_slice HO259.out; subst eo183))
                            refine bodyPost_ret (results_ct rfl _ _ gb157 34 #[.int .i64 t256, .slice Ao183 t257.length co183] (0, 0) _ rfl (by (with_reducible repeat (first | refine blk_drewN ?_ _ | refine blk_drew ?_ | refine blk_alloc ?_ _)); refine blk_put (cs := #[.int .i64 t256, .slice none 0 0]) ?_ 1 _ rfl; (with_reducible repeat (first | refine blk_drewN ?_ _ | refine blk_drew ?_ | refine blk_alloc ?_ _)); refine blk_put (cs := #[.int .i64 0, .slice none 0 0]) ?_ 0 _ rfl; (with_reducible repeat (first | refine blk_drewN ?_ _ | refine blk_drew ?_ | refine blk_alloc ?_ _)); exact BK157.out) Try.underlying34 rfl (by kernel_rfl)) rfl ?_
                            exact ⟨_, by first | rfl | (simp [errW_none, errW_some] <;> rfl) | (simp [*, errW_none, errW_some] <;> rfl), by (with_reducible repeat (first | apply Kd.R_alloc | apply Kd.R_drewN | apply Kd.R_drew)); exact Kd.R_mono (Kd.R_far (p := ⟨gb157, 1, none⟩) (Kd.R_far (p := ⟨gb157, 0, none⟩) (Kd.R_types HO259.out BK157.out (by decide)) (fun _ hk => hk.2) (.int .i64 t256)) (fun _ hk => hk.2) (.slice Ao183 t257.length co183)) (fun _ hk => trivial), by repeat (first | (with_reducible first | exact HB.out | apply below_alloc | apply pw_below_drewN | apply below_drew1 | refine below_set ?_ GE157.out) | exact HB.out)⟩
                          · rw [if_neg c176] at H
                            have c176b0 : (a0.toList == ([100, 101, 115, 97, 114, 103, 117, 101, 115] : List UInt8)) = false := beq_eq_false_iff_ne.mpr c176
                            have c176b1 : (a0.toList != ([100, 101, 115, 97, 114, 103, 117, 101, 115] : List UInt8)) = true := bne_iff_ne.mpr c176
                            by_cases c184 : a0.toList = ([100, 111, 100, 101, 99, 97, 104, 101, 100, 114, 111, 110] : List UInt8)
                            · rw [if_pos c184] at H
                              have c184b0 : (a0.toList == ([100, 111, 100, 101, 99, 97, 104, 101, 100, 114, 111, 110] : List UInt8)) = true := beq_iff_eq.mpr c184
                              have c184b1 : (a0.toList != ([100, 111, 100, 101, 99, 97, 104, 101, 100, 114, 111, 110] : List UInt8)) = false := bne_eq_false_iff_eq.mpr c184
                              clear c184
                              obtain ⟨y260, hy260⟩ : ∃ y_ : List Int, y_ = (([10, 7, 4, 16, 13, 10, 16, 7, 13, 4] : List Int)) := ⟨_, rfl⟩
                              replace H : ((spec_l01Jumps.f kj40 20 y260).bind fun bt263 => (some (bt263.1, bt263.2, true))) = some (r1, r2, r3) := by first | (rw [hy260]; with_reducible exact H) | (have H2_ := (Option.bind_some _ _).symm.trans H; rw [hy260]; with_reducible exact H2_) | (have H2_ := (Option.bind_some _ _).symm.trans H; with_reducible exact H2_) | with_reducible exact H | (rw [hy260]; exact H) | exact H
                              have Ny260 := Aside0.mk hy260
                              clear hy260
                              replace H := Option.bind_eq_some_iff.mp H
                              obtain ⟨⟨t263, t264⟩, A1850, H⟩ := H
                              replace H : (some (t263, t264, true)) = some (r1, r2, r3) := H
                              have A185 := Aside0.mk A1850
                              clear A1850
                              simp only [Option.some.injEq, Prod.mk.injEq] at H
                              obtain ⟨rfl, rfl, rfl⟩ := H
                              go_wp2_with (first | ((with_reducible refine gate_dst (N := 211) rfl ?_); refine Kd.R_lit (Kd.int .i64) _ 2 ?hg (N := 211) ?hd (xs := ([10, 7, 4, 16, 13, 10, 16, 7, 13, 4] : List Int)) (inner := [.int .i64 10, .int .i64 7, .int .i64 4, .int .i64 16, .int .i64 13, .int .i64 10, .int .i64 16, .int .i64 7, .int .i64 13, .int .i64 4]) (ok := fun _ => True) (okp := fun _ => True) ?hr ?hp (fun _ hk => hk) trivial (Below.refl _ _) (Nat.le_refl _) (by simp) ?_; (case hd => rfl); (case hg => rfl); (case hr => first | (go_simp; done) | (go_simp; rfl)); (case hp => exact (Reps.one (show Kd.M (Kd.int .i64) _ _ _ 10 [.int .i64 10] from rfl) (Reps.one (show Kd.M (Kd.int .i64) _ _ _ 7 [.int .i64 7] from rfl) (Reps.one (show Kd.M (Kd.int .i64) _ _ _ 4 [.int .i64 4] from rfl) (Reps.one (show Kd.M (Kd.int .i64) _ _ _ 16 [.int .i64 16] from rfl) (Reps.one (show Kd.M (Kd.int .i64) _ _ _ 13 [.int .i64 13] from rfl) (Reps.one (show Kd.M (Kd.int .i64) _ _ _ 10 [.int .i64 10] from rfl) (Reps.one (show Kd.M (Kd.int .i64) _ _ _ 16 [.int .i64 16] from rfl) (Reps.one (show Kd.M (Kd.int .i64) _ _ _ 7 [.int .i64 7] from rfl) (Reps.one (show Kd.M (Kd.int .i64) _ _ _ 13 [.int .i64 13] from rfl) (Reps.one (show Kd.M (Kd.int .i64) _ _ _ 4 [.int .i64 4] from rfl) (Reps.none _ _)))))))))))); intro v261 w186 ho187 hb hg_ hnew_; clear hg_ hnew_; (first | rw [← Ny260.out] at ho187 | (simp only [Int.reduceToNat] at ho187; rw [← Ny260.out] at ho187)); have n0_ := Aside0.mk (Kd.R_lower ho187 (below_size (by repeat (first | (with_reducible first | exact HB.out | apply below_alloc | apply pw_below_drewN | apply below_drew1 | refine below_set ?_ GE157.out) | exact HB.out)))); have n1_ := Aside0.mk (blk_below (g := gb157) (o := .cells #[.int .i64 0, .slice none 0 0] 34 (0, 0)) (by (with_reducible repeat (first | refine blk_drewN ?_ _ | refine blk_drew ?_ | refine blk_alloc ?_ _)); exact BK157.out) hb); have n2_ := Aside0.mk (below_step (by repeat (first | (with_reducible first | exact HB.out | apply below_alloc | apply pw_below_drewN | apply below_drew1 | refine below_set ?_ GE157.out) | exact HB.out)) hb); clear BK157; clear HB; have HO262 := n0_; have BK157 := n1_; have HB := n2_; clear n0_ n1_ n2_; clear hb ho187; obtain ⟨Ao188, co188, eo188⟩ := Kd.R_slice HO262.out; subst eo188) | ((with_reducible refine gate_callee (f := 84) rfl ?_); refine goesL_ (some 212) rfl rfl Try.func84 (by kernel_rfl) rfl #[.int .i64 20, .slice Ao188 y260.length co188] rfl (by (try simp only [List.map_toArray, List.map_cons, List.map_nil]); first | done | rfl | (simp only [List.length_drop, List.length_take]; rfl)) ?_; (with_reducible refine (spec_l01Jumps.calls kj40 20 _ _ y260 t263 t264 _ ?side1 ?side2 A185.out).mono ?_); (case side1 => repeat (first | exact (Kd.R_reads' HO262.out).2.2 | (with_reducible refine Kd.C_alloc ?_ _) | (with_reducible refine Kd.C_drewN ?_ _) | (with_reducible refine Kd.C_drew ?_))); (case side2 => exact (Kd.R_reads' HO262.out).2.1); rintro e w189 ⟨v265, rfl, ho0, hb⟩; refine ⟨_, rfl, ?_⟩; have n0_ := Aside0.mk (Kd.R_elder' (by (with_reducible repeat (first | apply Kd.R_alloc | apply Kd.R_drewN | apply Kd.R_drew)); exact HO262.out) (Kd.R_base ho0) hb); have n1_ := Aside0.mk (Kd.R_lower (Kd.R_new' ho0 (Kd.R_lt (by (with_reducible repeat (first | apply Kd.R_alloc | apply Kd.R_drewN | apply Kd.R_drew)); exact HO262.out))) (below_size (by repeat (first | (with_reducible first | exact HB.out | apply below_alloc | apply pw_below_drewN | apply below_drew1 | refine below_set ?_ GE157.out) | exact HB.out)))); have n2_ := Aside0.mk (blk_below (g := gb157) (o := .cells #[.int .i64 0, .slice none 0 0] 34 (0, 0)) (by (with_reducible repeat (first | refine blk_drewN ?_ _ | refine blk_drew ?_ | refine blk_alloc ?_ _)); exact BK157.out) hb); have n3_ := Aside0.mk (below_step (by repeat (first | (with_reducible first | exact HB.out | apply below_alloc | apply pw_below_drewN | apply below_drew1 | refine below_set ?_ GE157.out) | exact HB.out)) hb); clear HO262; clear BK157; clear HB; have HO262 := n0_; have HO266 := n1_; have BK157 := n2_; have HB := n3_; clear n0_ n1_ n2_ n3_; (try clear hb); (try clear hb2); (try clear hk); (try clear hi); (try clear ho0); have hcz190_0 : w189.cell? ⟨gb157, 0, none⟩ = some (.int .i64 0) := (blk_cell BK157.out 0).trans rfl; have hcz190_1 : w189.cell? ⟨gb157, 1, none⟩ = some (.slice none 0 0) := (blk_cell BK157.out 1).trans rfl; have hfz190_0 := blk_frozen BK157.out 0; have hfz190_1 := blk_frozen BK157.out 1; obtain ⟨Ao191, co191, eo191⟩ := Kd.R_slice HO266.out; subst eo191))
                              refine bodyPost_ret (results_ct rfl _ _ gb157 34 #[.int .i64 t263, .slice Ao191 t264.length co191] (0, 0) _ rfl (by (with_reducible repeat (first | refine blk_drewN ?_ _ | refine blk_drew ?_ | refine blk_alloc ?_ _)); refine blk_put (cs := #[.int .i64 t263, .slice none 0 0]) ?_ 1 _ rfl; (with_reducible repeat (first | refine blk_drewN ?_ _ | refine blk_drew ?_ | refine blk_alloc ?_ _)); refine blk_put (cs := #[.int .i64 0, .slice none 0 0]) ?_ 0 _ rfl; (with_reducible repeat (first | refine blk_drewN ?_ _ | refine blk_drew ?_ | refine blk_alloc ?_ _)); exact BK157.out) Try.underlying34 rfl (by kernel_rfl)) rfl ?_
                              exact ⟨_, by first | rfl | (simp [errW_none, errW_some] <;> rfl) | (simp [*, errW_none, errW_some] <;> rfl), by (with_reducible repeat (first | apply Kd.R_alloc | apply Kd.R_drewN | apply Kd.R_drew)); exact Kd.R_mono (Kd.R_far (p := ⟨gb157, 1, none⟩) (Kd.R_far (p := ⟨gb157, 0, none⟩) (Kd.R_types HO266.out BK157.out (by decide)) (fun _ hk => hk.2) (.int .i64 t263)) (fun _ hk => hk.2) (.slice Ao191 t264.length co191)) (fun _ hk => trivial), by repeat (first | (with_reducible first | exact HB.out | apply below_alloc | apply pw_below_drewN | apply below_drew1 | refine below_set ?_ GE157.out) | exact HB.out)⟩
                            · rw [if_neg c184] at H
                              have c184b0 : (a0.toList == ([100, 111, 100, 101, 99, 97, 104, 101, 100, 114, 111, 110] : List UInt8)) = false := beq_eq_false_iff_ne.mpr c184
                              have c184b1 : (a0.toList != ([100, 111, 100, 101, 99, 97, 104, 101, 100, 114, 111, 110] : List UInt8)) = true := bne_iff_ne.mpr c184
                              by_cases c192 : a0.toList = ([109, 99, 103, 101, 101] : List UInt8)
                              · rw [if_pos c192] at H
                                have c192b0 : (a0.toList == ([109, 99, 103, 101, 101] : List UInt8)) = true := beq_iff_eq.mpr c192
                                have c192b1 : (a0.toList != ([109, 99, 103, 101, 101] : List UInt8)) = false := bne_eq_false_iff_eq.mpr c192
                                clear c192
                                obtain ⟨y267, hy267⟩ : ∃ y_ : List Int, y_ = (([12, 7, 17] : List Int)) := ⟨_, rfl⟩
                                replace H : ((spec_l01Jumps.f kj40 24 y267).bind fun bt270 => (some (bt270.1, bt270.2, true))) = some (r1, r2, r3) := by first | (rw [hy267]; with_reducible exact H) | (have H2_ := (Option.bind_some _ _).symm.trans H; rw [hy267]; with_reducible exact H2_) | (have H2_ := (Option.bind_some _ _).symm.trans H; with_reducible exact H2_) | with_reducible exact H | (rw [hy267]; exact H) | exact H
                                have Ny267 := Aside0.mk hy267
                                clear hy267
                                replace H := Option.bind_eq_some_iff.mp H
                                obtain ⟨⟨t270, t271⟩, A1930, H⟩ := H
                                replace H : (some (t270, t271, true)) = some (r1, r2, r3) := H
                                have A193 := Aside0.mk A1930
                                clear A1930
                                simp only [Option.some.injEq, Prod.mk.injEq] at H
                                obtain ⟨rfl, rfl, rfl⟩ := H
                                go_wp2_with (first | ((with_reducible refine gate_dst (N := 215) rfl ?_); refine Kd.R_lit (Kd.int .i64) _ 2 ?hg (N := 215) ?hd (xs := ([12, 7, 17] : List Int)) (inner := [.int .i64 12, .int .i64 7, .int .i64 17]) (ok := fun _ => True) (okp := fun _ => True) ?hr ?hp (fun _ hk => hk) trivial (Below.refl _ _) (Nat.le_refl _) (by simp) ?_; (case hd => rfl); (case hg => rfl); (case hr => first | (go_simp; done) | (go_simp; rfl)); (case hp => exact (Reps.one (show Kd.M (Kd.int .i64) _ _ _ 12 [.int .i64 12] from rfl) (Reps.one (show Kd.M (Kd.int .i64) _ _ _ 7 [.int .i64 7] from rfl) (Reps.one (show Kd.M (Kd.int .i64) _ _ _ 17 [.int .i64 17] from rfl) (Reps.none _ _))))); intro v268 w194 ho195 hb hg_ hnew_; clear hg_ hnew_; (first | rw [← Ny267.out] at ho195 | (simp only [Int.reduceToNat] at ho195; rw [← Ny267.out] at ho195)); have n0_ := Aside0.mk (Kd.R_lower ho195 (below_size (by repeat (first | (with_reducible first | exact HB.out | apply below_alloc | apply pw_below_drewN | apply below_drew1 | refine below_set ?_ GE157.out) | exact HB.out)))); have n1_ := Aside0.mk (blk_below (g := gb157) (o := .cells #[.int .i64 0, .slice none 0 0] 34 (0, 0)) (by (with_reducible repeat (first | refine blk_drewN ?_ _ | refine blk_drew ?_ | refine blk_alloc ?_ _)); exact BK157.out) hb); have n2_ := Aside0.mk (below_step (by repeat (first | (with_reducible first | exact HB.out | apply below_alloc | apply pw_below_drewN | apply below_drew1 | refine below_set ?_ GE157.out) | exact HB.out)) hb); clear BK157; clear HB; have HO269 := n0_; have BK157 := n1_; have HB := n2_; clear n0_ n1_ n2_; clear hb ho195; obtain ⟨Ao196, co196, eo196⟩ := Kd.R_slice HO269.out; subst eo196) | ((with_reducible refine gate_callee (f := 84) rfl ?_); refine goesL_ (some 216) rfl rfl Try.func84 (by kernel_rfl) rfl #[.int .i64 24, .slice Ao196 y267.length co196] rfl (by (try simp only [List.map_toArray, List.map_cons, List.map_nil]); first | done | rfl | (simp only [List.length_drop, List.length_take]; rfl)) ?_; (with_reducible refine (spec_l01Jumps.calls kj40 24 _ _ y267 t270 t271 _ ?side1 ?side2 A193.out).mono ?_); (case side1 => repeat (first | exact (Kd.R_reads' HO269.out).2.2 | (with_reducible refine Kd.C_alloc ?_ _) | (with_reducible refine Kd.C_drewN ?_ _) | (with_reducible refine Kd.C_drew ?_))); (case side2 => exact (Kd.R_reads' HO269.out).2.1); rintro e w197 ⟨v272, rfl, ho0, hb⟩; refine ⟨_, rfl, ?_⟩; have n0_ := Aside0.mk (Kd.R_elder' (by (with_reducible repeat (first | apply Kd.R_alloc | apply Kd.R_drewN | apply Kd.R_drew)); exact HO269.out) (Kd.R_base ho0) hb); have n1_ := Aside0.mk (Kd.R_lower (Kd.R_new' ho0 (Kd.R_lt (by (with_reducible repeat (first | apply Kd.R_alloc | apply Kd.R_drewN | apply Kd.R_drew)); exact HO269.out))) (below_size (by repeat (first | (with_reducible first | exact HB.out | apply below_alloc | apply pw_below_drewN | apply below_drew1 | refine below_set ?_ GE157.out) | exact HB.out)))); have n2_ := Aside0.mk (blk_below (g := gb157) (o := .cells #[.int .i64 0, .slice none 0 0] 34 (0, 0)) (by (with_reducible repeat (first | refine blk_drewN ?_ _ | refine blk_drew ?_ | refine blk_alloc ?_ _)); exact BK157.out) hb); have n3_ := Aside0.mk (below_step (by repeat (first | (with_reducible first | exact HB.out | apply below_alloc | apply pw_below_drewN | apply below_drew1 | refine below_set ?_ GE157.out) | exact HB.out)) hb); clear HO269; clear BK157; clear HB; have HO269 := n0_; have HO273 := n1_; have BK157 := n2_; have HB := n3_; clear n0_ n1_ n2_ n3_; (try clear hb); (try clear hb2); (try clear hk); (try clear hi); (try clear ho0); have hcz198_0 : w197.cell? ⟨gb157, 0, none⟩ = some (.int .i64 0) := (blk_cell BK157.out 0).trans rfl; have hcz198_1 : w197.cell? ⟨gb157, 1, none⟩ = some (.slice none 0 0) := (blk_cell BK157.out 1).trans rfl; have hfz198_0 := blk_frozen BK157.out 0; have hfz198_1 := blk_frozen BK157.out 1; obtain ⟨Ao199, co199, eo199⟩ := Kd.R_slice HO273.out; subst eo199))
                                refine bodyPost_ret (results_ct rfl _ _ gb157 34 #[.int .i64 t270, .slice Ao199 t271.length co199] (0, 0) _ rfl (by (with_reducible repeat (first | refine blk_drewN ?_ _ | refine blk_drew ?_ | refine blk_alloc ?_ _)); refine blk_put (cs := #[.int .i64 t270, .slice none 0 0]) ?_ 1 _ rfl; (with_reducible repeat (first | refine blk_drewN ?_ _ | refine blk_drew ?_ | refine blk_alloc ?_ _)); refine blk_put (cs := #[.int .i64 0, .slice none 0 0]) ?_ 0 _ rfl; (with_reducible repeat (first | refine blk_drewN ?_ _ | refine blk_drew ?_ | refine blk_alloc ?_ _)); exact BK157.out) Try.underlying34 rfl (by kernel_rfl)) rfl ?_
                                exact ⟨_, by first | rfl | (simp [errW_none, errW_some] <;> rfl) | (simp [*, errW_none, errW_some] <;> rfl), by (with_reducible repeat (first | apply Kd.R_alloc | apply Kd.R_drewN | apply Kd.R_drew)); exact Kd.R_mono (Kd.R_far (p := ⟨gb157, 1, none⟩) (Kd.R_far (p := ⟨gb157, 0, none⟩) (Kd.R_types HO273.out BK157.out (by decide)) (fun _ hk => hk.2) (.int .i64 t270)) (fun _ hk => hk.2) (.slice Ao199 t271.length co199)) (fun _ hk => trivial), by repeat (first | (with_reducible first | exact HB.out | apply below_alloc | apply pw_below_drewN | apply below_drew1 | refine below_set ?_ GE157.out) | exact HB.out)⟩
                              · rw [if_neg c192] at H
                                have c192b0 : (a0.toList == ([109, 99, 103, 101, 101] : List UInt8)) = false := beq_eq_false_iff_ne.mpr c192
                                have c192b1 : (a0.toList != ([109, 99, 103, 101, 101] : List UInt8)) = true := bne_iff_ne.mpr c192
                                by_cases c200 : a0.toList = ([116, 117, 116, 116, 101, 99, 111, 120, 101, 116, 101, 114] : List UInt8)
                                · rw [if_pos c200] at H
                                  have c200b0 : (a0.toList == ([116, 117, 116, 116, 101, 99, 111, 120, 101, 116, 101, 114] : List UInt8)) = true := beq_iff_eq.mpr c200
                                  have c200b1 : (a0.toList != ([116, 117, 116, 116, 101, 99, 111, 120, 101, 116, 101, 114] : List UInt8)) = false := bne_eq_false_iff_eq.mpr c200
                                  clear c200
                                  obtain ⟨y274, hy274⟩ : ∃ y_ : List Int, y_ = (([17, 21, 7, 23, 9, 13] : List Int)) := ⟨_, rfl⟩
                                  replace H : ((spec_l01Jumps.f kj40 30 y274).bind fun bt277 => (some (bt277.1, bt277.2, true))) = some (r1, r2, r3) := by first | (rw [hy274]; with_reducible exact H) | (have H2_ := (Option.bind_some _ _).symm.trans H; rw [hy274]; with_reducible exact H2_) | (have H2_ := (Option.bind_some _ _).symm.trans H; with_reducible exact H2_) | with_reducible exact H | (rw [hy274]; exact H) | exact H
                                  have Ny274 := Aside0.mk hy274
                                  clear hy274
                                  replace H := Option.bind_eq_some_iff.mp H
                                  obtain ⟨⟨t277, t278⟩, A2010, H⟩ := H
                                  replace H : (some (t277, t278, true)) = some (r1, r2, r3) := H
                                  have A201 := Aside0.mk A2010
                                  clear A2010
                                  simp only [Option.some.injEq, Prod.mk.injEq] at H
                                  obtain ⟨rfl, rfl, rfl⟩ := H
                                  go_wp2_with (first | ((with_reducible refine gate_dst (N := 219) rfl ?_); refine Kd.R_lit (Kd.int .i64) _ 2 ?hg (N := 219) ?hd (xs := ([17, 21, 7, 23, 9, 13] : List Int)) (inner := [.int .i64 17, .int .i64 21, .int .i64 7, .int .i64 23, .int .i64 9, .int .i64 13]) (ok := fun _ => True) (okp := fun _ => True) ?hr ?hp (fun _ hk => hk) trivial (Below.refl _ _) (Nat.le_refl _) (by simp) ?_; (case hd => rfl); (case hg => rfl); (case hr => first | (go_simp; done) | (go_simp; rfl)); (case hp => exact (Reps.one (show Kd.M (Kd.int .i64) _ _ _ 17 [.int .i64 17] from rfl) (Reps.one (show Kd.M (Kd.int .i64) _ _ _ 21 [.int .i64 21] from rfl) (Reps.one (show Kd.M (Kd.int .i64) _ _ _ 7 [.int .i64 7] from rfl) (Reps.one (show Kd.M (Kd.int .i64) _ _ _ 23 [.int .i64 23] from rfl) (Reps.one (show Kd.M (Kd.int .i64) _ _ _ 9 [.int .i64 9] from rfl) (Reps.one (show Kd.M (Kd.int .i64) _ _ _ 13 [.int .i64 13] from rfl) (Reps.none _ _)))))))); intro v275 w202 ho203 hb hg_ hnew_; clear hg_ hnew_; (first | rw [← Ny274.out] at ho203 | (simp only [Int.reduceToNat] at ho203; rw [← Ny274.out] at ho203)); have n0_ := Aside0.mk (Kd.R_lower ho203 (below_size (by repeat (first | (with_reducible first | exact HB.out | apply below_alloc | apply pw_below_drewN | apply below_drew1 | refine below_set ?_ GE157.out) | exact HB.out)))); have n1_ := Aside0.mk (blk_below (g := gb157) (o := .cells #[.int .i64 0, .slice none 0 0] 34 (0, 0)) (by (with_reducible repeat (first | refine blk_drewN ?_ _ | refine blk_drew ?_ | refine blk_alloc ?_ _)); exact BK157.out) hb); have n2_ := Aside0.mk (below_step (by repeat (first | (with_reducible first | exact HB.out | apply below_alloc | apply pw_below_drewN | apply below_drew1 | refine below_set ?_ GE157.out) | exact HB.out)) hb); clear BK157; clear HB; have HO276 := n0_; have BK157 := n1_; have HB := n2_; clear n0_ n1_ n2_; clear hb ho203; obtain ⟨Ao204, co204, eo204⟩ := Kd.R_slice HO276.out; subst eo204) | ((with_reducible refine gate_callee (f := 84) rfl ?_); refine goesL_ (some 220) rfl rfl Try.func84 (by kernel_rfl) rfl #[.int .i64 30, .slice Ao204 y274.length co204] rfl (by (try simp only [List.map_toArray, List.map_cons, List.map_nil]); first | done | rfl | (simp only [List.length_drop, List.length_take]; rfl)) ?_; (with_reducible refine (spec_l01Jumps.calls kj40 30 _ _ y274 t277 t278 _ ?side1 ?side2 A201.out).mono ?_); (case side1 => repeat (first | exact (Kd.R_reads' HO276.out).2.2 | (with_reducible refine Kd.C_alloc ?_ _) | (with_reducible refine Kd.C_drewN ?_ _) | (with_reducible refine Kd.C_drew ?_))); (case side2 => exact (Kd.R_reads' HO276.out).2.1); rintro e w205 ⟨v279, rfl, ho0, hb⟩; refine ⟨_, rfl, ?_⟩; have n0_ := Aside0.mk (Kd.R_elder' (by (with_reducible repeat (first | apply Kd.R_alloc | apply Kd.R_drewN | apply Kd.R_drew)); exact HO276.out) (Kd.R_base ho0) hb); have n1_ := Aside0.mk (Kd.R_lower (Kd.R_new' ho0 (Kd.R_lt (by (with_reducible repeat (first | apply Kd.R_alloc | apply Kd.R_drewN | apply Kd.R_drew)); exact HO276.out))) (below_size (by repeat (first | (with_reducible first | exact HB.out | apply below_alloc | apply pw_below_drewN | apply below_drew1 | refine below_set ?_ GE157.out) | exact HB.out)))); have n2_ := Aside0.mk (blk_below (g := gb157) (o := .cells #[.int .i64 0, .slice none 0 0] 34 (0, 0)) (by (with_reducible repeat (first | refine blk_drewN ?_ _ | refine blk_drew ?_ | refine blk_alloc ?_ _)); exact BK157.out) hb); have n3_ := Aside0.mk (below_step (by repeat (first | (with_reducible first | exact HB.out | apply below_alloc | apply pw_below_drewN | apply below_drew1 | refine below_set ?_ GE157.out) | exact HB.out)) hb); clear HO276; clear BK157; clear HB; have HO276 := n0_; have HO280 := n1_; have BK157 := n2_; have HB := n3_; clear n0_ n1_ n2_ n3_; (try clear hb); (try clear hb2); (try clear hk); (try clear hi); (try clear ho0); have hcz206_0 : w205.cell? ⟨gb157, 0, none⟩ = some (.int .i64 0) := (blk_cell BK157.out 0).trans rfl; have hcz206_1 : w205.cell? ⟨gb157, 1, none⟩ = some (.slice none 0 0) := (blk_cell BK157.out 1).trans rfl; have hfz206_0 := blk_frozen BK157.out 0; have hfz206_1 := blk_frozen BK157.out 1; obtain ⟨Ao207, co207, eo207⟩ := Kd.R_slice HO280.out; subst eo207))
                                  refine bodyPost_ret (results_ct rfl _ _ gb157 34 #[.int .i64 t277, .slice Ao207 t278.length co207] (0, 0) _ rfl (by (with_reducible repeat (first | refine blk_drewN ?_ _ | refine blk_drew ?_ | refine blk_alloc ?_ _)); refine blk_put (cs := #[.int .i64 t277, .slice none 0 0]) ?_ 1 _ rfl; (with_reducible repeat (first | refine blk_drewN ?_ _ | refine blk_drew ?_ | refine blk_alloc ?_ _)); refine blk_put (cs := #[.int .i64 0, .slice none 0 0]) ?_ 0 _ rfl; (with_reducible repeat (first | refine blk_drewN ?_ _ | refine blk_drew ?_ | refine blk_alloc ?_ _)); exact BK157.out) Try.underlying34 rfl (by kernel_rfl)) rfl ?_
                                  exact ⟨_, by first | rfl | (simp [errW_none, errW_some] <;> rfl) | (simp [*, errW_none, errW_some] <;> rfl), by (with_reducible repeat (first | apply Kd.R_alloc | apply Kd.R_drewN | apply Kd.R_drew)); exact Kd.R_mono (Kd.R_far (p := ⟨gb157, 1, none⟩) (Kd.R_far (p := ⟨gb157, 0, none⟩) (Kd.R_types HO280.out BK157.out (by decide)) (fun _ hk => hk.2) (.int .i64 t277)) (fun _ hk => hk.2) (.slice Ao207 t278.length co207)) (fun _ hk => trivial), by repeat (first | (with_reducible first | exact HB.out | apply below_alloc | apply pw_below_drewN | apply below_drew1 | refine below_set ?_ GE157.out) | exact HB.out)⟩
                                · rw [if_neg c200] at H
                                  have c200b0 : (a0.toList == ([116, 117, 116, 116, 101, 99, 111, 120, 101, 116, 101, 114] : List UInt8)) = false := beq_eq_false_iff_ne.mpr c200
                                  have c200b1 : (a0.toList != ([116, 117, 116, 116, 101, 99, 111, 120, 101, 116, 101, 114] : List UInt8)) = true := bne_iff_ne.mpr c200
                                  simp only [Option.some.injEq, Prod.mk.injEq] at H
                                  obtain ⟨rfl, rfl, rfl⟩ := H
                                  have hcz208_0 : wc.cell? ⟨gb157, 0, none⟩ = some (.int .i64 0) := (blk_cell BK157.out 0).trans rfl
                                  have hcz208_1 : wc.cell? ⟨gb157, 1, none⟩ = some (.slice none 0 0) := (blk_cell BK157.out 1).trans rfl
                                  have hfz208_0 := blk_frozen BK157.out 0
                                  have hfz208_1 := blk_frozen BK157.out 1
                                  go_wp2
                                  refine bodyPost_ret (results_ct rfl _ _ gb157 34 #[.int .i64 0, .slice none 0 0] (0, 0) _ rfl (by (with_reducible repeat (first | refine blk_drewN ?_ _ | refine blk_drew ?_ | refine blk_alloc ?_ _)); refine blk_put (cs := #[.int .i64 0, .slice none 0 0]) ?_ 1 _ rfl; (with_reducible repeat (first | refine blk_drewN ?_ _ | refine blk_drew ?_ | refine blk_alloc ?_ _)); refine blk_put (cs := #[.int .i64 0, .slice none 0 0]) ?_ 0 _ rfl; (with_reducible repeat (first | refine blk_drewN ?_ _ | refine blk_drew ?_ | refine blk_alloc ?_ _)); exact BK157.out) Try.underlying34 rfl (by kernel_rfl)) rfl ?_
                                  exact ⟨_, by first | rfl | (simp [errW_none, errW_some] <;> rfl) | (simp [*, errW_none, errW_some] <;> rfl), by first | exact Kd.R_nil _ _ _ _ _ | exact Kd.N_nil _ _ _ _ _ | exact Kd.V_nil _ _ _ _ _ | exact Kd.Q_nil _ _ _ _ _ | exact Kd.S_nil _ _ _ _ _, by repeat (first | (with_reducible first | exact HB.out | apply below_alloc | apply pw_below_drewN | apply below_drew1 | refine below_set ?_ GE157.out) | exact HB.out)⟩

end Go.Proofs.Ythnjnhdalpcfpaa.XFnExactNamedGraph
