-- Written by this project's own program (mprint.py, cut3.py) by means of the kit's printer.
import Derived.Test.YthnjnhdalpcfpaaDoorXFnExactRenumberGraphx0
import Derived.Test.YthnjnhdalpcfpaaDoorXFnExactRenumberGraphx1
import Derived.Test.YthnjnhdalpcfpaaDoorXFnExactRenumberGraphx2
import Derived.Test.YthnjnhdalpcfpaaDoorXFnExactRenumberGraphx3
import Derived.Test.YthnjnhdalpcfpaaDoorXFnExactRenumberGraphx4
import Derived.Test.YthnjnhdalpcfpaaDoorXFnExactRenumberGraphx5
import Derived.Test.YthnjnhdalpcfpaaDoorXFnExactRenumberGraphx6
import Derived.Test.YthnjnhdalpcfpaaDoorXFnExactRenumberGraphx7
import Derived.Test.YthnjnhdalpcfpaaDoorXFnExactRenumberGraphx8
namespace Go.Proofs.YthnjnhdalpcfpaaDoor.XFnExactRenumberGraph
open Go.RowKit Go.Proofs.YthnjnhdalpcfpaaDoorW.PrintWords Go.Proofs.YthnjnhdalpcfpaaDoorW.PrintLast Go.Proofs.YthnjnhdalpcfpaaDoorW.PrintMore
attribute [local go_sem] max2_int min2_int max_two min_two max_three min_three max_four min_four
set_option linter.unusedVariables false
set_option linter.unusedSimpArgs false

/-! ### laws_FnExactRenumberGraph: function 3 -/
mutual
def laws_FnExactRenumberGraph.j0 : Nat → List Int → Int → List Int → Int → Bool → Int → List Int → Int → List Int → Int → List Int → Int → List Int → Option (Bool)
 | 0, _, _, _, _, _, _, _, _, _, _, _, _, _ => none
 | k + 1, x1, x7, x9, x11, x51, x240000, x240001, x254000, x254001, x259000, x259001, x268000, x268001 => if x51 = true then (some false) else ((laws_toGraph.f k x240000 x240001).bind fun bt269 => ((laws_eqGraph.f k x259000 x259001 bt269.1 bt269.2).bind fun t273 => (if t273 = true then ((laws_toInt64S.f k x1).bind fun t274 => ((laws_eqInt64S.f k x9 t274).bind fun t277 => (if t277 = true then ((laws_markGraph.f k x259000 x259001 1).bind fun bt278 => ((laws_markInt64S.f k x9 bt278.1).bind fun bt280 => (if bt280.1 < 0 then (laws_FnExactRenumberGraph.j1 k x1 x7 true x240000 x240001 x254000 x254001 x268000 x268001) else ((laws_eqGraph.f k x268000 x268001 x254000 x254001).bind fun t282 => (if t282 = true then (laws_FnExactRenumberGraph.j1 k x1 x7 (x11 != x7) x240000 x240001 x254000 x254001 x268000 x268001) else (laws_FnExactRenumberGraph.j1 k x1 x7 true x240000 x240001 x254000 x254001 x268000 x268001)))))) else (some false)))) else (some false))))
def laws_FnExactRenumberGraph.j1 : Nat → List Int → Int → Bool → Int → List Int → Int → List Int → Int → List Int → Option (Bool)
 | 0, _, _, _, _, _, _, _, _, _ => none
 | k + 1, x1, x7, x80, x240000, x240001, x254000, x254001, x268000, x268001 => if x80 = true then (some false) else ((laws_markGraph.f k x268000 x268001 1).bind fun bt283 => ((laws_heldGraph.f k x268000 bt283.2 1).bind fun t285 => (if t285 < 0 then (some false) else (if t285 = bt283.1 then ((laws_toGraph.f k x240000 x240001).bind fun bt286 => ((laws_toInt64S.f k x1).bind fun t290 => ((impl_RenumberGraph.f k bt286.1 bt286.2 t290).bind fun bt293 => ((laws_eqGraph.f k bt293.1 bt293.2.1 x254000 x254001).bind fun t299 => (if t299 = true then (laws_FnExactRenumberGraph.j2 k bt283.1 (bt293.2.2 != x7) x268000 bt283.2) else (laws_FnExactRenumberGraph.j2 k bt283.1 true x268000 bt283.2)))))) else (some false)))))
def laws_FnExactRenumberGraph.j2 : Nat → Int → Bool → Int → List Int → Option (Bool)
 | 0, _, _, _, _ => none
 | k + 1, x13, x108, x268000, x268001 => if x108 = true then (some false) else ((laws_heldGraph.f k x268000 x268001 1).bind fun t300 => (if t300 < 0 then (some false) else (if t300 = x13 then (some true) else (some false))))
end
def laws_FnExactRenumberGraph.f (k : Nat) (a0_0 : Int) (l0_1 : List Int) (l1 : List Int) : Option (Bool) := if (l1.length : Int) > 1048576 then (some true) else ((laws_szGraph.f a0_0 l0_1 1048576).bind fun t240 => (if t240 < 0 then (some true) else ((laws_toGraph.f k a0_0 l0_1).bind fun bt241 => ((laws_toInt64S.f k l1).bind fun t245 => ((spec_RenumberGraph.f k bt241.1 bt241.2 t245).bind fun bt248 => ((laws_toGraph.f k a0_0 l0_1).bind fun bt254 => ((laws_toInt64S.f k l1).bind fun t259 => ((impl_RenumberGraph.f k bt254.1 bt254.2 t259).bind fun bt262 => ((laws_eqGraph.f k bt262.1 bt262.2.1 bt248.1 bt248.2.1).bind fun t268 => (if t268 = true then (laws_FnExactRenumberGraph.j0 k l1 bt248.2.2 t259 bt262.2.2 (bt262.2.2 != bt248.2.2) a0_0 l0_1 bt248.1 bt248.2.1 bt254.1 bt254.2 bt262.1 bt262.2.1) else (laws_FnExactRenumberGraph.j0 k l1 bt248.2.2 t259 bt262.2.2 true a0_0 l0_1 bt248.1 bt248.2.1 bt254.1 bt254.2 bt262.1 bt262.2.1)))))))))))
theorem laws_FnExactRenumberGraph.mono_l : ∀ k, (∀ y0 y1 y2 y3 y4 y5 y6 y7 y8 y9 y10 y11 y12, LeO (laws_FnExactRenumberGraph.j0 k y0 y1 y2 y3 y4 y5 y6 y7 y8 y9 y10 y11 y12) (laws_FnExactRenumberGraph.j0 (k + 1) y0 y1 y2 y3 y4 y5 y6 y7 y8 y9 y10 y11 y12)) ∧ (∀ y0 y1 y2 y3 y4 y5 y6 y7 y8, LeO (laws_FnExactRenumberGraph.j1 k y0 y1 y2 y3 y4 y5 y6 y7 y8) (laws_FnExactRenumberGraph.j1 (k + 1) y0 y1 y2 y3 y4 y5 y6 y7 y8)) ∧ (∀ y0 y1 y2 y3, LeO (laws_FnExactRenumberGraph.j2 k y0 y1 y2 y3) (laws_FnExactRenumberGraph.j2 (k + 1) y0 y1 y2 y3))
 | 0 => ⟨fun _ _ _ _ _ _ _ _ _ _ _ _ _ r h => by simp [laws_FnExactRenumberGraph.j0] at h, fun _ _ _ _ _ _ _ _ _ r h => by simp [laws_FnExactRenumberGraph.j1] at h, fun _ _ _ _ r h => by simp [laws_FnExactRenumberGraph.j2] at h⟩
 | k + 1 => by
  obtain ⟨ih0, ih1, ih2⟩ := laws_FnExactRenumberGraph.mono_l k
  refine ⟨?_, ?_, ?_⟩
  ·intro y0 y1 y2 y3 y4 y5 y6 y7 y8 y9 y10 y11 y12
   unfold laws_FnExactRenumberGraph.j0
   repeat' first
   | (with_reducible exact ih0 _ _ _ _ _ _ _ _ _ _ _ _ _)
   | (with_reducible exact ih1 _ _ _ _ _ _ _ _ _)
   | (with_reducible exact ih2 _ _ _ _)
   | (with_reducible exact impl_RenumberGraph.mono _ _ _ _)
   | (with_reducible exact laws_eqGraph.mono _ _ _ _ _)
   | (with_reducible exact laws_eqInt64S.mono _ _ _)
   | (with_reducible exact laws_heldGraph.mono _ _ _ _)
   | (with_reducible exact laws_markGraph.mono _ _ _ _)
   | (with_reducible exact laws_markInt64S.mono _ _ _)
   | (with_reducible exact laws_toGraph.mono _ _ _)
   | (with_reducible exact laws_toInt64S.mono _ _)
   | (with_reducible exact spec_RenumberGraph.mono _ _ _ _)
   | (with_reducible exact LeO.refl _)
   | (with_reducible exact LeO.none _)
   | (with_reducible refine LeO.ite ?_ ?_)
   | (with_reducible refine LeO.bind ?_ (fun _ => ?_))
   | exact ih0 _ _ _ _ _ _ _ _ _ _ _ _ _
   | exact ih1 _ _ _ _ _ _ _ _ _
   | exact ih2 _ _ _ _
   | exact impl_RenumberGraph.mono _ _ _ _
   | exact laws_eqGraph.mono _ _ _ _ _
   | exact laws_eqInt64S.mono _ _ _
   | exact laws_heldGraph.mono _ _ _ _
   | exact laws_markGraph.mono _ _ _ _
   | exact laws_markInt64S.mono _ _ _
   | exact laws_toGraph.mono _ _ _
   | exact laws_toInt64S.mono _ _
   | exact spec_RenumberGraph.mono _ _ _ _
   | exact LeO.none _
   | refine LeO.ite ?_ ?_
   | refine LeO.bind ?_ (fun _ => ?_)
  ·intro y0 y1 y2 y3 y4 y5 y6 y7 y8
   unfold laws_FnExactRenumberGraph.j1
   repeat' first
   | (with_reducible exact ih0 _ _ _ _ _ _ _ _ _ _ _ _ _)
   | (with_reducible exact ih1 _ _ _ _ _ _ _ _ _)
   | (with_reducible exact ih2 _ _ _ _)
   | (with_reducible exact impl_RenumberGraph.mono _ _ _ _)
   | (with_reducible exact laws_eqGraph.mono _ _ _ _ _)
   | (with_reducible exact laws_eqInt64S.mono _ _ _)
   | (with_reducible exact laws_heldGraph.mono _ _ _ _)
   | (with_reducible exact laws_markGraph.mono _ _ _ _)
   | (with_reducible exact laws_markInt64S.mono _ _ _)
   | (with_reducible exact laws_toGraph.mono _ _ _)
   | (with_reducible exact laws_toInt64S.mono _ _)
   | (with_reducible exact spec_RenumberGraph.mono _ _ _ _)
   | (with_reducible exact LeO.refl _)
   | (with_reducible exact LeO.none _)
   | (with_reducible refine LeO.ite ?_ ?_)
   | (with_reducible refine LeO.bind ?_ (fun _ => ?_))
   | exact ih0 _ _ _ _ _ _ _ _ _ _ _ _ _
   | exact ih1 _ _ _ _ _ _ _ _ _
   | exact ih2 _ _ _ _
   | exact impl_RenumberGraph.mono _ _ _ _
   | exact laws_eqGraph.mono _ _ _ _ _
   | exact laws_eqInt64S.mono _ _ _
   | exact laws_heldGraph.mono _ _ _ _
   | exact laws_markGraph.mono _ _ _ _
   | exact laws_markInt64S.mono _ _ _
   | exact laws_toGraph.mono _ _ _
   | exact laws_toInt64S.mono _ _
   | exact spec_RenumberGraph.mono _ _ _ _
   | exact LeO.none _
   | refine LeO.ite ?_ ?_
   | refine LeO.bind ?_ (fun _ => ?_)
  ·intro y0 y1 y2 y3
   unfold laws_FnExactRenumberGraph.j2
   repeat' first
   | (with_reducible exact ih0 _ _ _ _ _ _ _ _ _ _ _ _ _)
   | (with_reducible exact ih1 _ _ _ _ _ _ _ _ _)
   | (with_reducible exact ih2 _ _ _ _)
   | (with_reducible exact impl_RenumberGraph.mono _ _ _ _)
   | (with_reducible exact laws_eqGraph.mono _ _ _ _ _)
   | (with_reducible exact laws_eqInt64S.mono _ _ _)
   | (with_reducible exact laws_heldGraph.mono _ _ _ _)
   | (with_reducible exact laws_markGraph.mono _ _ _ _)
   | (with_reducible exact laws_markInt64S.mono _ _ _)
   | (with_reducible exact laws_toGraph.mono _ _ _)
   | (with_reducible exact laws_toInt64S.mono _ _)
   | (with_reducible exact spec_RenumberGraph.mono _ _ _ _)
   | (with_reducible exact LeO.refl _)
   | (with_reducible exact LeO.none _)
   | (with_reducible refine LeO.ite ?_ ?_)
   | (with_reducible refine LeO.bind ?_ (fun _ => ?_))
   | exact ih0 _ _ _ _ _ _ _ _ _ _ _ _ _
   | exact ih1 _ _ _ _ _ _ _ _ _
   | exact ih2 _ _ _ _
   | exact impl_RenumberGraph.mono _ _ _ _
   | exact laws_eqGraph.mono _ _ _ _ _
   | exact laws_eqInt64S.mono _ _ _
   | exact laws_heldGraph.mono _ _ _ _
   | exact laws_markGraph.mono _ _ _ _
   | exact laws_markInt64S.mono _ _ _
   | exact laws_toGraph.mono _ _ _
   | exact laws_toInt64S.mono _ _
   | exact spec_RenumberGraph.mono _ _ _ _
   | exact LeO.none _
   | refine LeO.ite ?_ ?_
   | refine LeO.bind ?_ (fun _ => ?_)
theorem laws_FnExactRenumberGraph.mono : ∀ a0 a1 a2 k, LeO (laws_FnExactRenumberGraph.f k a0 a1 a2) (laws_FnExactRenumberGraph.f (k + 1) a0 a1 a2) := by
 intro a0 a1 a2 k
 obtain ⟨ih0, ih1, ih2⟩ := laws_FnExactRenumberGraph.mono_l k
 unfold laws_FnExactRenumberGraph.f
 repeat' first
   | (with_reducible exact ih0 _ _ _ _ _ _ _ _ _ _ _ _ _)
   | (with_reducible exact ih1 _ _ _ _ _ _ _ _ _)
   | (with_reducible exact ih2 _ _ _ _)
   | (with_reducible exact impl_RenumberGraph.mono _ _ _ _)
   | (with_reducible exact laws_eqGraph.mono _ _ _ _ _)
   | (with_reducible exact laws_eqInt64S.mono _ _ _)
   | (with_reducible exact laws_heldGraph.mono _ _ _ _)
   | (with_reducible exact laws_markGraph.mono _ _ _ _)
   | (with_reducible exact laws_markInt64S.mono _ _ _)
   | (with_reducible exact laws_toGraph.mono _ _ _)
   | (with_reducible exact laws_toInt64S.mono _ _)
   | (with_reducible exact spec_RenumberGraph.mono _ _ _ _)
   | (with_reducible exact LeO.refl _)
   | (with_reducible exact LeO.none _)
   | (with_reducible refine LeO.ite ?_ ?_)
   | (with_reducible refine LeO.bind ?_ (fun _ => ?_))
   | exact ih0 _ _ _ _ _ _ _ _ _ _ _ _ _
   | exact ih1 _ _ _ _ _ _ _ _ _
   | exact ih2 _ _ _ _
   | exact impl_RenumberGraph.mono _ _ _ _
   | exact laws_eqGraph.mono _ _ _ _ _
   | exact laws_eqInt64S.mono _ _ _
   | exact laws_heldGraph.mono _ _ _ _
   | exact laws_markGraph.mono _ _ _ _
   | exact laws_markInt64S.mono _ _ _
   | exact laws_toGraph.mono _ _ _
   | exact laws_toInt64S.mono _ _
   | exact spec_RenumberGraph.mono _ _ _ _
   | exact LeO.none _
   | refine LeO.ite ?_ ?_
   | refine LeO.bind ?_ (fun _ => ?_)
structure KeptP_ (p : Prop) : Prop where
  out : p
end Go.Proofs.YthnjnhdalpcfpaaDoor.XFnExactRenumberGraph
