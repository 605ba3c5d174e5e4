-- Written by this project's own program (mprint.py, cut3.py) by means of the kit's printer.
import Derived.Test.YthnjnhdalpcfpaaXFnExactPutBesidex0
import Derived.Test.YthnjnhdalpcfpaaXFnExactPutBesidex1
import Derived.Test.YthnjnhdalpcfpaaXFnExactPutBesidex2
import Derived.Test.YthnjnhdalpcfpaaXFnExactPutBesidex3
import Derived.Test.YthnjnhdalpcfpaaXFnExactPutBesidex4
import Derived.Test.YthnjnhdalpcfpaaXFnExactPutBesidex5
import Derived.Test.YthnjnhdalpcfpaaXFnExactPutBesidex6
namespace Go.Proofs.Ythnjnhdalpcfpaa.XFnExactPutBeside
open Go.RowKit Go.Proofs.YthnjnhdalpcfpaaW.PrintWords Go.Proofs.YthnjnhdalpcfpaaW.PrintLast Go.Proofs.YthnjnhdalpcfpaaW.PrintMore
attribute [local go_sem] max2_int min2_int max_two min_two max_three min_three max_four min_four
set_option linter.unusedVariables false
set_option linter.unusedSimpArgs false
/-! ### laws_FnExactPutBeside: function 6 -/
mutual
def laws_FnExactPutBeside.j0 : Nat → Int → Int → Bool → Int → List Int → Int → List Int → Int → List Int → Int → List Int → Int → List Int → Int → List Int → Option (Bool)
 | 0, _, _, _, _, _, _, _, _, _, _, _, _, _, _, _ => none
 | k + 1, x7, x11, x53, x172000, x172001, x173000, x173001, x189000, x189001, x194000, x194001, x199000, x199001, x205000, x205001 => if x53 = true then (some false) else ((laws_toGraph.f k x172000 x172001).bind fun bt206 => ((laws_eqGraph.f k x194000 x194001 bt206.1 bt206.2).bind fun t210 => (if t210 = true then ((laws_toGraph.f k x173000 x173001).bind fun bt211 => ((laws_eqGraph.f k x199000 x199001 bt211.1 bt211.2).bind fun t215 => (if t215 = true then ((laws_markGraph.f k x194000 x194001 1).bind fun bt216 => ((laws_markGraph.f k x199000 x199001 bt216.1).bind fun bt218 => (if bt218.1 < 0 then (laws_FnExactPutBeside.j1 k x7 true x172000 x172001 x173000 x173001 x189000 x189001 x205000 x205001) else ((laws_eqGraph.f k x205000 x205001 x189000 x189001).bind fun t220 => (if t220 = true then (laws_FnExactPutBeside.j1 k x7 (x11 != x7) x172000 x172001 x173000 x173001 x189000 x189001 x205000 x205001) else (laws_FnExactPutBeside.j1 k x7 true x172000 x172001 x173000 x173001 x189000 x189001 x205000 x205001)))))) else (some false)))) else (some false))))
def laws_FnExactPutBeside.j1 : Nat → Int → Bool → Int → List Int → Int → List Int → Int → List Int → Int → List Int → Option (Bool)
 | 0, _, _, _, _, _, _, _, _, _, _ => none
 | k + 1, x7, x82, x172000, x172001, x173000, x173001, x189000, x189001, x205000, x205001 => if x82 = true then (some false) else ((laws_markGraph.f k x205000 x205001 1).bind fun bt221 => ((laws_heldGraph.f k x205000 bt221.2 1).bind fun t223 => (if t223 < 0 then (some false) else (if t223 = bt221.1 then ((laws_toGraph.f k x172000 x172001).bind fun bt224 => ((laws_toGraph.f k x173000 x173001).bind fun bt228 => ((impl_PutBeside.f k bt224.1 bt224.2 bt228.1 bt228.2).bind fun bt232 => ((laws_eqGraph.f k bt232.1 bt232.2.1 x189000 x189001).bind fun t238 => (if t238 = true then (laws_FnExactPutBeside.j2 k bt221.1 (bt232.2.2 != x7) x205000 bt221.2) else (laws_FnExactPutBeside.j2 k bt221.1 true x205000 bt221.2)))))) else (some false)))))
def laws_FnExactPutBeside.j2 : Nat → Int → Bool → Int → List Int → Option (Bool)
 | 0, _, _, _, _ => none
 | k + 1, x13, x110, x205000, x205001 => if x110 = true then (some false) else ((laws_heldGraph.f k x205000 x205001 1).bind fun t239 => (if t239 < 0 then (some false) else (if t239 = x13 then (some true) else (some false))))
end
def laws_FnExactPutBeside.f (k : Nat) (a0_0 : Int) (l0_1 : List Int) (a1_0 : Int) (l1_1 : List Int) : Option (Bool) := (laws_szGraph.f a0_0 l0_1 1048576).bind fun t173 => (if t173 < 0 then (some true) else ((laws_szGraph.f a1_0 l1_1 t173).bind fun t174 => (if t174 < 0 then (some true) else ((laws_toGraph.f k a0_0 l0_1).bind fun bt175 => ((laws_toGraph.f k a1_0 l1_1).bind fun bt179 => ((spec_PutBeside.f k bt175.1 bt175.2 bt179.1 bt179.2).bind fun bt183 => ((laws_toGraph.f k a0_0 l0_1).bind fun bt189 => ((laws_toGraph.f k a1_0 l1_1).bind fun bt194 => ((impl_PutBeside.f k bt189.1 bt189.2 bt194.1 bt194.2).bind fun bt199 => ((laws_eqGraph.f k bt199.1 bt199.2.1 bt183.1 bt183.2.1).bind fun t205 => (if t205 = true then (laws_FnExactPutBeside.j0 k bt183.2.2 bt199.2.2 (bt199.2.2 != bt183.2.2) a0_0 l0_1 a1_0 l1_1 bt183.1 bt183.2.1 bt189.1 bt189.2 bt194.1 bt194.2 bt199.1 bt199.2.1) else (laws_FnExactPutBeside.j0 k bt183.2.2 bt199.2.2 true a0_0 l0_1 a1_0 l1_1 bt183.1 bt183.2.1 bt189.1 bt189.2 bt194.1 bt194.2 bt199.1 bt199.2.1))))))))))))
theorem laws_FnExactPutBeside.mono_l : ∀ k, (∀ y0 y1 y2 y3 y4 y5 y6 y7 y8 y9 y10 y11 y12 y13 y14, LeO (laws_FnExactPutBeside.j0 k y0 y1 y2 y3 y4 y5 y6 y7 y8 y9 y10 y11 y12 y13 y14) (laws_FnExactPutBeside.j0 (k + 1) y0 y1 y2 y3 y4 y5 y6 y7 y8 y9 y10 y11 y12 y13 y14)) ∧ (∀ y0 y1 y2 y3 y4 y5 y6 y7 y8 y9, LeO (laws_FnExactPutBeside.j1 k y0 y1 y2 y3 y4 y5 y6 y7 y8 y9) (laws_FnExactPutBeside.j1 (k + 1) y0 y1 y2 y3 y4 y5 y6 y7 y8 y9)) ∧ (∀ y0 y1 y2 y3, LeO (laws_FnExactPutBeside.j2 k y0 y1 y2 y3) (laws_FnExactPutBeside.j2 (k + 1) y0 y1 y2 y3))
 | 0 => ⟨fun _ _ _ _ _ _ _ _ _ _ _ _ _ _ _ r h => by simp [laws_FnExactPutBeside.j0] at h, fun _ _ _ _ _ _ _ _ _ _ r h => by simp [laws_FnExactPutBeside.j1] at h, fun _ _ _ _ r h => by simp [laws_FnExactPutBeside.j2] at h⟩
 | k + 1 => by
  obtain ⟨ih0, ih1, ih2⟩ := laws_FnExactPutBeside.mono_l k
  refine ⟨?_, ?_, ?_⟩
  ·intro y0 y1 y2 y3 y4 y5 y6 y7 y8 y9 y10 y11 y12 y13 y14
   unfold laws_FnExactPutBeside.j0
   repeat' first
   | (with_reducible exact ih0 _ _ _ _ _ _ _ _ _ _ _ _ _ _ _)
   | (with_reducible exact ih1 _ _ _ _ _ _ _ _ _ _)
   | (with_reducible exact ih2 _ _ _ _)
   | (with_reducible exact impl_PutBeside.mono _ _ _ _ _)
   | (with_reducible exact laws_eqGraph.mono _ _ _ _ _)
   | (with_reducible exact laws_heldGraph.mono _ _ _ _)
   | (with_reducible exact laws_markGraph.mono _ _ _ _)
   | (with_reducible exact laws_toGraph.mono _ _ _)
   | (with_reducible exact spec_PutBeside.mono _ _ _ _ _)
   | (with_reducible exact LeO.refl _)
   | (with_reducible exact LeO.none _)
   | (with_reducible refine LeO.ite ?_ ?_)
   | (with_reducible refine LeO.bind ?_ (fun _ => ?_))
   | exact ih0 _ _ _ _ _ _ _ _ _ _ _ _ _ _ _
   | exact ih1 _ _ _ _ _ _ _ _ _ _
   | exact ih2 _ _ _ _
   | exact impl_PutBeside.mono _ _ _ _ _
   | exact laws_eqGraph.mono _ _ _ _ _
   | exact laws_heldGraph.mono _ _ _ _
   | exact laws_markGraph.mono _ _ _ _
   | exact laws_toGraph.mono _ _ _
   | exact spec_PutBeside.mono _ _ _ _ _
   | exact LeO.none _
   | refine LeO.ite ?_ ?_
   | refine LeO.bind ?_ (fun _ => ?_)
  ·intro y0 y1 y2 y3 y4 y5 y6 y7 y8 y9
   unfold laws_FnExactPutBeside.j1
   repeat' first
   | (with_reducible exact ih0 _ _ _ _ _ _ _ _ _ _ _ _ _ _ _)
   | (with_reducible exact ih1 _ _ _ _ _ _ _ _ _ _)
   | (with_reducible exact ih2 _ _ _ _)
   | (with_reducible exact impl_PutBeside.mono _ _ _ _ _)
   | (with_reducible exact laws_eqGraph.mono _ _ _ _ _)
   | (with_reducible exact laws_heldGraph.mono _ _ _ _)
   | (with_reducible exact laws_markGraph.mono _ _ _ _)
   | (with_reducible exact laws_toGraph.mono _ _ _)
   | (with_reducible exact spec_PutBeside.mono _ _ _ _ _)
   | (with_reducible exact LeO.refl _)
   | (with_reducible exact LeO.none _)
   | (with_reducible refine LeO.ite ?_ ?_)
   | (with_reducible refine LeO.bind ?_ (fun _ => ?_))
   | exact ih0 _ _ _ _ _ _ _ _ _ _ _ _ _ _ _
   | exact ih1 _ _ _ _ _ _ _ _ _ _
   | exact ih2 _ _ _ _
   | exact impl_PutBeside.mono _ _ _ _ _
   | exact laws_eqGraph.mono _ _ _ _ _
   | exact laws_heldGraph.mono _ _ _ _
   | exact laws_markGraph.mono _ _ _ _
   | exact laws_toGraph.mono _ _ _
   | exact spec_PutBeside.mono _ _ _ _ _
   | exact LeO.none _
   | refine LeO.ite ?_ ?_
   | refine LeO.bind ?_ (fun _ => ?_)
  ·intro y0 y1 y2 y3
   unfold laws_FnExactPutBeside.j2
   repeat' first
   | (with_reducible exact ih0 _ _ _ _ _ _ _ _ _ _ _ _ _ _ _)
   | (with_reducible exact ih1 _ _ _ _ _ _ _ _ _ _)
   | (with_reducible exact ih2 _ _ _ _)
   | (with_reducible exact impl_PutBeside.mono _ _ _ _ _)
   | (with_reducible exact laws_eqGraph.mono _ _ _ _ _)
   | (with_reducible exact laws_heldGraph.mono _ _ _ _)
   | (with_reducible exact laws_markGraph.mono _ _ _ _)
   | (with_reducible exact laws_toGraph.mono _ _ _)
   | (with_reducible exact spec_PutBeside.mono _ _ _ _ _)
   | (with_reducible exact LeO.refl _)
   | (with_reducible exact LeO.none _)
   | (with_reducible refine LeO.ite ?_ ?_)
   | (with_reducible refine LeO.bind ?_ (fun _ => ?_))
   | exact ih0 _ _ _ _ _ _ _ _ _ _ _ _ _ _ _
   | exact ih1 _ _ _ _ _ _ _ _ _ _
   | exact ih2 _ _ _ _
   | exact impl_PutBeside.mono _ _ _ _ _
   | exact laws_eqGraph.mono _ _ _ _ _
   | exact laws_heldGraph.mono _ _ _ _
   | exact laws_markGraph.mono _ _ _ _
   | exact laws_toGraph.mono _ _ _
   | exact spec_PutBeside.mono _ _ _ _ _
   | exact LeO.none _
   | refine LeO.ite ?_ ?_
   | refine LeO.bind ?_ (fun _ => ?_)
theorem laws_FnExactPutBeside.mono : ∀ a0 a1 a2 a3 k, LeO (laws_FnExactPutBeside.f k a0 a1 a2 a3) (laws_FnExactPutBeside.f (k + 1) a0 a1 a2 a3) := by
 intro a0 a1 a2 a3 k
 obtain ⟨ih0, ih1, ih2⟩ := laws_FnExactPutBeside.mono_l k
 unfold laws_FnExactPutBeside.f
 repeat' first
   | (with_reducible exact ih0 _ _ _ _ _ _ _ _ _ _ _ _ _ _ _)
   | (with_reducible exact ih1 _ _ _ _ _ _ _ _ _ _)
   | (with_reducible exact ih2 _ _ _ _)
   | (with_reducible exact impl_PutBeside.mono _ _ _ _ _)
   | (with_reducible exact laws_eqGraph.mono _ _ _ _ _)
   | (with_reducible exact laws_heldGraph.mono _ _ _ _)
   | (with_reducible exact laws_markGraph.mono _ _ _ _)
   | (with_reducible exact laws_toGraph.mono _ _ _)
   | (with_reducible exact spec_PutBeside.mono _ _ _ _ _)
   | (with_reducible exact LeO.refl _)
   | (with_reducible exact LeO.none _)
   | (with_reducible refine LeO.ite ?_ ?_)
   | (with_reducible refine LeO.bind ?_ (fun _ => ?_))
   | exact ih0 _ _ _ _ _ _ _ _ _ _ _ _ _ _ _
   | exact ih1 _ _ _ _ _ _ _ _ _ _
   | exact ih2 _ _ _ _
   | exact impl_PutBeside.mono _ _ _ _ _
   | exact laws_eqGraph.mono _ _ _ _ _
   | exact laws_heldGraph.mono _ _ _ _
   | exact laws_markGraph.mono _ _ _ _
   | exact laws_toGraph.mono _ _ _
   | exact spec_PutBeside.mono _ _ _ _ _
   | exact LeO.none _
   | refine LeO.ite ?_ ?_
   | refine LeO.bind ?_ (fun _ => ?_)
def laws_FnExactPutBeside.T8 : Bool × List (List Nat × List Nat) := (true, [([], []), ([0], [0]), ([], []), ([2, 1], [2]), ([1, 3, 3], [1, 3]), ([4], [4]), ([5], [5]), ([5], [5]), ([], []), ([8, 6, 4, 0, 1, 2, 3, 4, 5, 6, 8], [6, 8]), ([7, 9, 0, 1, 2, 3, 4, 5, 6, 7, 8, 9], [7])])
def laws_FnExactPutBeside.B8 : List Nat := [0, 1, 0, 7, 15, 31, 63, 63, 0, 383, 1023]
theorem laws_FnExactPutBeside.tab8 : rtab .any (opsOf Try.f6 8) = laws_FnExactPutBeside.T8 := by kernel_rfl
theorem laws_FnExactPutBeside.bits8 : waitsOk laws_FnExactPutBeside.T8.2 laws_FnExactPutBeside.B8 = true := by kernel_rfl
def laws_FnExactPutBeside.T31 : Bool × List (List Nat × List Nat) := (true, [([], []), ([0], [0]), ([], []), ([2, 1], [2]), ([1, 3, 3], [1, 3]), ([4], [4]), ([5], [5]), ([5], [5]), ([], []), ([8, 6, 4, 0, 1, 2, 3, 4, 5, 6, 8], [6, 8]), ([7, 9, 0, 1, 2, 3, 4, 5, 6, 7, 8, 9], [7])])
def laws_FnExactPutBeside.B31 : List Nat := [0, 1, 0, 7, 15, 31, 63, 63, 0, 383, 1023]
theorem laws_FnExactPutBeside.tab31 : rtab .any (opsOf Try.f6 31) = laws_FnExactPutBeside.T31 := by kernel_rfl
theorem laws_FnExactPutBeside.bits31 : waitsOk laws_FnExactPutBeside.T31.2 laws_FnExactPutBeside.B31 = true := by kernel_rfl
structure KeptP_ (p : Prop) : Prop where
  out : p
end Go.Proofs.Ythnjnhdalpcfpaa.XFnExactPutBeside
