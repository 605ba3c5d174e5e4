-- Written by this project's own program (mprint.py, cut3.py) by means of the kit's printer.
import Derived.Test.YthnjnhdalpcfpaaDoorXFnExactRenumberGraphx0
import Derived.Test.YthnjnhdalpcfpaaDoorXFnExactRenumberGraphx1
import Derived.Test.YthnjnhdalpcfpaaDoorXFnExactRenumberGraphx2
import Derived.Test.YthnjnhdalpcfpaaDoorXFnExactRenumberGraphx3
import Derived.Test.YthnjnhdalpcfpaaDoorXFnExactRenumberGraphx4
import Derived.Test.YthnjnhdalpcfpaaDoorXFnExactRenumberGraphx5
import Derived.Test.YthnjnhdalpcfpaaDoorXFnExactRenumberGraphx6
import Derived.Test.YthnjnhdalpcfpaaDoorXFnExactRenumberGraphx7
import Derived.Test.YthnjnhdalpcfpaaDoorXFnExactRenumberGraphx8
import Derived.Test.YthnjnhdalpcfpaaDoorXFnExactRenumberGraphx9
import Derived.Test.YthnjnhdalpcfpaaDoorXFnExactRenumberGraphx10
namespace Go.Proofs.YthnjnhdalpcfpaaDoor.XFnExactRenumberGraph
open Go.RowKit Go.Proofs.YthnjnhdalpcfpaaDoorW.PrintWords Go.Proofs.YthnjnhdalpcfpaaDoorW.PrintLast Go.Proofs.YthnjnhdalpcfpaaDoorW.PrintMore
attribute [local go_sem] max2_int min2_int max_two min_two max_three min_three max_four min_four
set_option linter.unusedVariables false
set_option linter.unusedSimpArgs false
set_option maxHeartbeats 8000000 in
set_option maxRecDepth 100000 in
noncomputable def laws_FnExactRenumberGraph.calls.cut1 : PSigma fun P_ : Prop => P_ → laws_FnExactRenumberGraph.calls.cut0.1 := by
 apply PSigma.mk
 case snd =>
  intro hP_
  replace hP_ := KeptP_.mk hP_
  intro k a0_0 A0_1 c0_1 l0_1 A1 c1 l1 r w hu24 hu26 HR0_1 HC0_1 HR1 HC1 HT t240 A5 t241 t242 A10 t245 A11 t248 t249 t252 A12 t254 t255 A13 t259 A14 t262 t263 t266 A15 q0_1_ gb239 w17 GW239 GE239 w19 w21 w22 Ao23 co23 Ao24 co24 w25 gb253 w26 GW253 GE253 NB239_253 NB253_239 hnb27 hnc27 Ao29 co29 w31 gb258 w32 GW258 GE258 NB239_258 NB258_239 NB253_258 NB258_253 hnb33 hnc33 hnb34 hnc34 Ao36 co36 w37 Ao39 co39 w40 gb267 w41 q0_2_ q0_3_ q0_4_ q0_5_ q0_6_ GW267 GE267 NB239_267 NB267_239 NB253_267 NB267_253 NB258_267 NB267_258 hnb42 hnc42 hnb43 hnc43 hnb44 hnc44 Ao46 co46 HO244 HO247 HO251 HO257 HO261 HO265 q0_7_ q0_8_ q0_9_ q0_10_ wc u17 u18 u19 u20 u21 u22 u23 u24 u25 u26 u27 u28 u29 u30 u31 u32 u33 u34 u35 u36 u37 u38 u39 u40 u41 u42 u43 u44 u45 u46 u47 u48 u49 u50 u52 u53 u54 u55 u56 u57 u58 u59 u60 u61 u62 u63 u64 u65 u66 u67 u68 u69 u70 u71 u72 u73 u74 u75 u76 u77 u78 u79 u80 u81 u82 u83 u84 u85 u86 u87 u88 u89 u90 u91 u92 u93 u94 u95 u96 u97 u98 u99 u100 u101 u102 u103 u104 u105 u106 u107 u108 u109 u110 u111 u112 u113 u114 u115 u116 x51_15 HO_9 HO_254001 HO_259001 HO_268001 BK239 BK253 BK258 BK267 HB kj15 HA HJ15
  have H := HA.out
  clear HA
  simp only [laws_FnExactRenumberGraph.j0] at H
  by_cases c65 : x51_15 = true
  ·subst c65
   have H1 : (some false) = some r := by rw [if_pos rfl] at H; exact H
   clear H
   have H := H1
   clear H1
   obtain rfl := Option.some.inj H
   go_wp2
   go_ret
   exact ⟨by first | rfl | (simp [errW_none, errW_some] <;> rfl) | (simp [*, errW_none, errW_some] <;> rfl), by repeat (first | (with_reducible first | exact HB.out | apply below_alloc | apply pw_below_drewN | apply below_drew1 | refine below_set ?_ GE239.out | refine below_set ?_ GE253.out | refine below_set ?_ GE258.out | refine below_set ?_ GE267.out) | exact HB.out)⟩
  ·replace c65 := Bool.eq_false_iff.mpr c65
   subst c65
   have H1 : ((laws_toGraph.f kj15 a0_0 l0_1).bind fun bt269 => ((laws_eqGraph.f kj15 t254 t255 bt269.1 bt269.2).bind fun t273 => (if t273 = true then ((laws_toInt64S.f kj15 l1).bind fun t274 => ((laws_eqInt64S.f kj15 t259 t274).bind fun t277 => (if t277 = true then ((laws_markGraph.f kj15 t254 t255 1).bind fun bt278 => ((laws_markInt64S.f kj15 t259 bt278.1).bind fun bt280 => (if bt280.1 < 0 then (laws_FnExactRenumberGraph.j1 kj15 l1 t252 true a0_0 l0_1 t248 t249 t262 t263) else ((laws_eqGraph.f kj15 t262 t263 t248 t249).bind fun t282 => (if t282 = true then (laws_FnExactRenumberGraph.j1 kj15 l1 t252 (t266 != t252) a0_0 l0_1 t248 t249 t262 t263) else (laws_FnExactRenumberGraph.j1 kj15 l1 t252 true a0_0 l0_1 t248 t249 t262 t263)))))) else (some false)))) else (some false)))) = some r := by rw [if_neg (show ¬ (false = true) by decide)] at H; exact H
   clear H
   have H := H1
   clear H1
   replace H := Option.bind_eq_some_iff.mp H
   obtain ⟨⟨t269, t270⟩, A660, H⟩ := H
   replace H : ((laws_eqGraph.f kj15 t254 t255 t269 t270).bind fun t273 => (if t273 = true then ((laws_toInt64S.f kj15 l1).bind fun t274 => ((laws_eqInt64S.f kj15 t259 t274).bind fun t277 => (if t277 = true then ((laws_markGraph.f kj15 t254 t255 1).bind fun bt278 => ((laws_markInt64S.f kj15 t259 bt278.1).bind fun bt280 => (if bt280.1 < 0 then (laws_FnExactRenumberGraph.j1 kj15 l1 t252 true a0_0 l0_1 t248 t249 t262 t263) else ((laws_eqGraph.f kj15 t262 t263 t248 t249).bind fun t282 => (if t282 = true then (laws_FnExactRenumberGraph.j1 kj15 l1 t252 (t266 != t252) a0_0 l0_1 t248 t249 t262 t263) else (laws_FnExactRenumberGraph.j1 kj15 l1 t252 true a0_0 l0_1 t248 t249 t262 t263)))))) else (some false)))) else (some false))) = some r := H
   have A66 := Aside0.mk A660
   clear A660
   replace H := Option.bind_eq_some_iff.mp H
   obtain ⟨t273, A670, H⟩ := H
   replace H : (if t273 = true then ((laws_toInt64S.f kj15 l1).bind fun t274 => ((laws_eqInt64S.f kj15 t259 t274).bind fun t277 => (if t277 = true then ((laws_markGraph.f kj15 t254 t255 1).bind fun bt278 => ((laws_markInt64S.f kj15 t259 bt278.1).bind fun bt280 => (if bt280.1 < 0 then (laws_FnExactRenumberGraph.j1 kj15 l1 t252 true a0_0 l0_1 t248 t249 t262 t263) else ((laws_eqGraph.f kj15 t262 t263 t248 t249).bind fun t282 => (if t282 = true then (laws_FnExactRenumberGraph.j1 kj15 l1 t252 (t266 != t252) a0_0 l0_1 t248 t249 t262 t263) else (laws_FnExactRenumberGraph.j1 kj15 l1 t252 true a0_0 l0_1 t248 t249 t262 t263)))))) else (some false)))) else (some false)) = some r := H
   have A67 := Aside0.mk A670
   clear A670
   by_cases c68 : t273 = true
   ·subst c68
    have H1 : ((laws_toInt64S.f kj15 l1).bind fun t274 => ((laws_eqInt64S.f kj15 t259 t274).bind fun t277 => (if t277 = true then ((laws_markGraph.f kj15 t254 t255 1).bind fun bt278 => ((laws_markInt64S.f kj15 t259 bt278.1).bind fun bt280 => (if bt280.1 < 0 then (laws_FnExactRenumberGraph.j1 kj15 l1 t252 true a0_0 l0_1 t248 t249 t262 t263) else ((laws_eqGraph.f kj15 t262 t263 t248 t249).bind fun t282 => (if t282 = true then (laws_FnExactRenumberGraph.j1 kj15 l1 t252 (t266 != t252) a0_0 l0_1 t248 t249 t262 t263) else (laws_FnExactRenumberGraph.j1 kj15 l1 t252 true a0_0 l0_1 t248 t249 t262 t263)))))) else (some false)))) = some r := by rw [if_pos rfl] at H; exact H
    clear H
    have H := H1
    clear H1
    replace H := Option.bind_eq_some_iff.mp H
    obtain ⟨t274, A690, H⟩ := H
    replace H : ((laws_eqInt64S.f kj15 t259 t274).bind fun t277 => (if t277 = true then ((laws_markGraph.f kj15 t254 t255 1).bind fun bt278 => ((laws_markInt64S.f kj15 t259 bt278.1).bind fun bt280 => (if bt280.1 < 0 then (laws_FnExactRenumberGraph.j1 kj15 l1 t252 true a0_0 l0_1 t248 t249 t262 t263) else ((laws_eqGraph.f kj15 t262 t263 t248 t249).bind fun t282 => (if t282 = true then (laws_FnExactRenumberGraph.j1 kj15 l1 t252 (t266 != t252) a0_0 l0_1 t248 t249 t262 t263) else (laws_FnExactRenumberGraph.j1 kj15 l1 t252 true a0_0 l0_1 t248 t249 t262 t263)))))) else (some false))) = some r := H
    have A69 := Aside0.mk A690
    clear A690
    replace H := Option.bind_eq_some_iff.mp H
    obtain ⟨t277, A700, H⟩ := H
    replace H : (if t277 = true then ((laws_markGraph.f kj15 t254 t255 1).bind fun bt278 => ((laws_markInt64S.f kj15 t259 bt278.1).bind fun bt280 => (if bt280.1 < 0 then (laws_FnExactRenumberGraph.j1 kj15 l1 t252 true a0_0 l0_1 t248 t249 t262 t263) else ((laws_eqGraph.f kj15 t262 t263 t248 t249).bind fun t282 => (if t282 = true then (laws_FnExactRenumberGraph.j1 kj15 l1 t252 (t266 != t252) a0_0 l0_1 t248 t249 t262 t263) else (laws_FnExactRenumberGraph.j1 kj15 l1 t252 true a0_0 l0_1 t248 t249 t262 t263)))))) else (some false)) = some r := H
    have A70 := Aside0.mk A700
    clear A700
    by_cases c71 : t277 = true
    ·subst c71
     have H1 : ((laws_markGraph.f kj15 t254 t255 1).bind fun bt278 => ((laws_markInt64S.f kj15 t259 bt278.1).bind fun bt280 => (if bt280.1 < 0 then (laws_FnExactRenumberGraph.j1 kj15 l1 t252 true a0_0 l0_1 t248 t249 t262 t263) else ((laws_eqGraph.f kj15 t262 t263 t248 t249).bind fun t282 => (if t282 = true then (laws_FnExactRenumberGraph.j1 kj15 l1 t252 (t266 != t252) a0_0 l0_1 t248 t249 t262 t263) else (laws_FnExactRenumberGraph.j1 kj15 l1 t252 true a0_0 l0_1 t248 t249 t262 t263)))))) = some r := by rw [if_pos rfl] at H; exact H
     clear H
     have H := H1
     clear H1
     replace H := Option.bind_eq_some_iff.mp H
     obtain ⟨⟨t278, t279⟩, A720, H⟩ := H
     replace H : ((laws_markInt64S.f kj15 t259 t278).bind fun bt280 => (if bt280.1 < 0 then (laws_FnExactRenumberGraph.j1 kj15 l1 t252 true a0_0 l0_1 t248 t249 t262 t263) else ((laws_eqGraph.f kj15 t262 t263 t248 t249).bind fun t282 => (if t282 = true then (laws_FnExactRenumberGraph.j1 kj15 l1 t252 (t266 != t252) a0_0 l0_1 t248 t249 t262 t263) else (laws_FnExactRenumberGraph.j1 kj15 l1 t252 true a0_0 l0_1 t248 t249 t262 t263))))) = some r := H
     have A72 := Aside0.mk A720
     clear A720
     replace H := Option.bind_eq_some_iff.mp H
     obtain ⟨⟨t280, t281⟩, A730, H⟩ := H
     replace H : (if t280 < 0 then (laws_FnExactRenumberGraph.j1 kj15 l1 t252 true a0_0 l0_1 t248 t249 t262 t263) else ((laws_eqGraph.f kj15 t262 t263 t248 t249).bind fun t282 => (if t282 = true then (laws_FnExactRenumberGraph.j1 kj15 l1 t252 (t266 != t252) a0_0 l0_1 t248 t249 t262 t263) else (laws_FnExactRenumberGraph.j1 kj15 l1 t252 true a0_0 l0_1 t248 t249 t262 t263)))) = some r := H
     have A73 := Aside0.mk A730
     clear A730
     have HC74 := Aside0.mk H
     clear H
     try go_wp2
     have n0_ := Aside0.mk (Kd.R_drew HO_9.out)
     have n1_ := Aside0.mk (Kd.R_drew HO_254001.out)
     have n2_ := Aside0.mk (Kd.R_drew HO_259001.out)
     have n3_ := Aside0.mk (Kd.R_drew HO_268001.out)
     have n4_ := Aside0.mk (blk_drew BK239.out)
     have n5_ := Aside0.mk (blk_drew BK253.out)
     have n6_ := Aside0.mk (blk_drew BK258.out)
     have n7_ := Aside0.mk (blk_drew BK267.out)
     have n8_ := Aside0.mk (below_drew1 HB.out)
     clear HO_9
     clear HO_254001
     clear HO_259001
     clear HO_268001
     clear BK239
     clear BK253
     clear BK258
     clear BK267
     clear HB
     have HO_9 := n0_
     have HO_254001 := n1_
     have HO_259001 := n2_
     have HO_268001 := n3_
     have BK239 := n4_
     have BK253 := n5_
     have BK258 := n6_
     have BK267 := n7_
     have HB := n8_
     clear n0_ n1_ n2_ n3_ n4_ n5_ n6_ n7_ n8_
     refine start_ (n := 5) (S := fun w' => w'.cell? ⟨gb258, 0, none⟩ = some (.int .i64 t254) ∧ w'.cell? ⟨gb258, 1, none⟩ = some (.slice Ao36 t255.length co36) ∧ w'.cell? ⟨gb239, 0, none⟩ = some (.int .i64 a0_0) ∧ w'.cell? ⟨gb239, 1, none⟩ = some (.slice A0_1 l0_1.length c0_1)) (ds := []) #[false, false, false, false, false] (by kernel_rfl) rfl rfl ⟨(blk_cell BK258.out 0).trans rfl, (blk_cell BK258.out 1).trans rfl, (blk_cell BK239.out 0).trans rfl, (blk_cell BK239.out 1).trans rfl⟩ (fun hHeld => ?_)
     generalize wc.drew = w75 at HO_9 HO_254001 HO_259001 HO_268001 BK239 BK253 BK258 BK267 HB hHeld ⊢
     refine take_ (i := 0) (N := some 52) (v := ?_) (a' := ?_) #[true, false, false, false, false] rfl rfl (by kernel_rfl) (fun _ _ _ h => h) (Or.inl ⟨by rfl, ?_⟩) hHeld ?_ ?_
     rotate_left
     ·rintro w' ⟨s0, s1, s2, s3⟩
      go_simp
      with_reducible rfl
     rotate_left
     ·simp only [Act.put, List.setIfInBounds_toArray, List.set_cons_zero, List.set_cons_succ, i64_w, i32_w]
      rfl
     refine take_ (i := 1) (N := some 53) (v := ?_) (a' := ?_) #[true, true, false, false, false] rfl rfl (by kernel_rfl) (fun _ _ _ h => h) (Or.inl ⟨by rfl, ?_⟩) hHeld ?_ ?_
     rotate_left
     ·rintro w' ⟨s0, s1, s2, s3⟩
      go_simp
      with_reducible rfl
     rotate_left
     ·simp only [Act.put, List.setIfInBounds_toArray, List.set_cons_zero, List.set_cons_succ, i64_w, i32_w]
      rfl
     refine one_ (i := 2) (N := some 54) #[true, true, true, false, false] rfl rfl (by kernel_rfl) (by decide) (fun K hK => ?_)
     refine goes_ Tryd.func9 (by kernel_rfl) rfl #[.agg #[.int .i64 a0_0, .slice A0_1 l0_1.length c0_1]] (by rfl) rfl rfl (by (try simp only [List.map_toArray, List.map_cons, List.map_nil]); first | done | rfl | (simp only [List.length_drop, List.length_take]; rfl)) ?_
     with_reducible refine (laws_toGraph.calls kj15 a0_0 _ _ l0_1 t269 t270 _ ?side1 ?side2 A66.out).mono ?_
     (case side1 => repeat (first | exact (Kd.C_below HR0_1.out HB.out) | (with_reducible refine Kd.C_alloc ?_ _) | (with_reducible refine Kd.C_drewN ?_ _) | (with_reducible refine Kd.C_drew ?_)))
     (case side2 => exact HC0_1.out)
     rintro e w76 ⟨v271, rfl, ho0, hb⟩
     refine ⟨_, rfl, ?_⟩
     have n0_ := Aside0.mk (Kd.R_elder' (by (with_reducible repeat (first | apply Kd.R_alloc | apply Kd.R_drewN | apply Kd.R_drew)); exact HO_9.out) (Kd.R_base ho0) hb)
     have n1_ := Aside0.mk (Kd.R_elder' (by (with_reducible repeat (first | apply Kd.R_alloc | apply Kd.R_drewN | apply Kd.R_drew)); exact HO_254001.out) (Kd.R_base ho0) hb)
     have n2_ := Aside0.mk (Kd.R_elder' (by (with_reducible repeat (first | apply Kd.R_alloc | apply Kd.R_drewN | apply Kd.R_drew)); exact HO_259001.out) (Kd.R_base ho0) hb)
     have n3_ := Aside0.mk (Kd.R_elder' (by (with_reducible repeat (first | apply Kd.R_alloc | apply Kd.R_drewN | apply Kd.R_drew)); exact HO_268001.out) (Kd.R_base ho0) hb)
     have n4_ := Aside0.mk (Kd.R_lower (Kd.R_new' (Kd.R_new' (Kd.R_new' (Kd.R_new' ho0 (Kd.R_lt (by (with_reducible repeat (first | apply Kd.R_alloc | apply Kd.R_drewN | apply Kd.R_drew)); exact HO_9.out))) (Kd.R_lt (by (with_reducible repeat (first | apply Kd.R_alloc | apply Kd.R_drewN | apply Kd.R_drew)); exact HO_254001.out))) (Kd.R_lt (by (with_reducible repeat (first | apply Kd.R_alloc | apply Kd.R_drewN | apply Kd.R_drew)); exact HO_259001.out))) (Kd.R_lt (by (with_reducible repeat (first | apply Kd.R_alloc | apply Kd.R_drewN | apply Kd.R_drew)); exact HO_268001.out))) (below_size (by repeat (first | (with_reducible first | exact HB.out | apply below_alloc | apply pw_below_drewN | apply below_drew1 | refine below_set ?_ GE239.out | refine below_set ?_ GE253.out | refine below_set ?_ GE258.out | refine below_set ?_ GE267.out) | exact HB.out))))
     have n5_ := Aside0.mk (blk_below (g := gb239) (o := .cells #[.int .i64 a0_0, .slice A0_1 l0_1.length c0_1] 24 (0, 0)) (by (with_reducible repeat (first | refine blk_drewN ?_ _ | refine blk_drew ?_ | refine blk_alloc ?_ _)); exact BK239.out) hb)
     have n6_ := Aside0.mk (blk_below (g := gb253) (o := .cells #[.int .i64 t248, .slice Ao29 t249.length co29] 26 (0, 0)) (by (with_reducible repeat (first | refine blk_drewN ?_ _ | refine blk_drew ?_ | refine blk_alloc ?_ _)); exact BK253.out) hb)
     have n7_ := Aside0.mk (blk_below (g := gb258) (o := .cells #[.int .i64 t254, .slice Ao36 t255.length co36] 26 (0, 0)) (by (with_reducible repeat (first | refine blk_drewN ?_ _ | refine blk_drew ?_ | refine blk_alloc ?_ _)); exact BK258.out) hb)
     have n8_ := Aside0.mk (blk_below (g := gb267) (o := .cells #[.int .i64 t262, .slice Ao46 t263.length co46] 26 (0, 0)) (by (with_reducible repeat (first | refine blk_drewN ?_ _ | refine blk_drew ?_ | refine blk_alloc ?_ _)); exact BK267.out) hb)
     have n9_ := Aside0.mk (below_step (by repeat (first | (with_reducible first | exact HB.out | apply below_alloc | apply pw_below_drewN | apply below_drew1 | refine below_set ?_ GE239.out | refine below_set ?_ GE253.out | refine below_set ?_ GE258.out | refine below_set ?_ GE267.out) | exact HB.out)) hb)
     clear HO_9
     clear HO_254001
     clear HO_259001
     clear HO_268001
     clear BK239
     clear BK253
     clear BK258
     clear BK267
     clear HB
     have HO_9 := n0_
     have HO_254001 := n1_
     have HO_259001 := n2_
     have HO_268001 := n3_
     have HO272 := n4_
     have BK239 := n5_
     have BK253 := n6_
     have BK258 := n7_
     have BK267 := n8_
     have HB := n9_
     clear n0_ n1_ n2_ n3_ n4_ n5_ n6_ n7_ n8_ n9_
     (try clear hb)
     (try clear hb2)
     (try clear hk)
     (try clear hi)
     (try clear ho0)
     obtain ⟨Ao77, co77, eo77⟩ := Kd.R_slice HO272.out
     (first | subst eo77 | (injection eo77 with f1_ f2_ f3_; have f4_ := f1_.symm; have f5_ := f3_.symm; clear f1_ f2_ f3_; subst f4_; subst f5_))
     refine hK.out _ _ ⟨(blk_cell BK258.out 0).trans rfl, (blk_cell BK258.out 1).trans rfl, (blk_cell BK239.out 0).trans rfl, (blk_cell BK239.out 1).trans rfl⟩ (fun hHeld => ?_)
     clear hK K
     refine norm_ (a' := ?_) ?_ ?_
     rotate_left
     ·show Act.put _ (some 54) _ = _
      simp only [Act.put, List.setIfInBounds_toArray, List.set_cons_zero, List.set_cons_succ, i64_w, i32_w]
      rfl
     refine one_ (i := 3) (N := some 55) #[true, true, true, true, false] rfl rfl (by kernel_rfl) (by decide) (fun K hK => ?_)
     refine goes_ Tryd.func12 (by kernel_rfl) rfl #[.agg #[.int .i64 t254, .slice Ao36 t255.length co36], .agg #[.int .i64 t269, .slice Ao77 t270.length co77]] (by rfl) rfl rfl (by (try simp only [List.map_toArray, List.map_cons, List.map_nil]); first | done | rfl | (simp only [List.length_drop, List.length_take]; rfl)) ?_
     with_reducible refine (laws_eqGraph.calls kj15 t254 _ _ t255 t269 _ _ t270 true _ ?side1 ?side2 ?side3 ?side4 A67.out).mono ?_
     (case side1 => repeat (first | exact (Kd.R_reads' HO_259001.out).2.2 | (with_reducible refine Kd.C_alloc ?_ _) | (with_reducible refine Kd.C_drewN ?_ _) | (with_reducible refine Kd.C_drew ?_)))
     (case side2 => exact (Kd.R_reads' HO_259001.out).2.1)
     (case side3 => repeat (first | exact (Kd.R_reads' HO272.out).2.2 | (with_reducible refine Kd.C_alloc ?_ _) | (with_reducible refine Kd.C_drewN ?_ _) | (with_reducible refine Kd.C_drew ?_)))
     (case side4 => exact (Kd.R_reads' HO272.out).2.1)
     rintro e w78 ⟨rfl, hb⟩
     refine ⟨_, rfl, ?_⟩
     have n0_ := Aside0.mk (Kd.R_below (by (with_reducible repeat (first | apply Kd.R_alloc | apply Kd.R_drewN | apply Kd.R_drew)); exact HO_9.out) hb)
     have n1_ := Aside0.mk (Kd.R_below (by (with_reducible repeat (first | apply Kd.R_alloc | apply Kd.R_drewN | apply Kd.R_drew)); exact HO_254001.out) hb)
     have n2_ := Aside0.mk (Kd.R_below (by (with_reducible repeat (first | apply Kd.R_alloc | apply Kd.R_drewN | apply Kd.R_drew)); exact HO_259001.out) hb)
     have n3_ := Aside0.mk (Kd.R_below (by (with_reducible repeat (first | apply Kd.R_alloc | apply Kd.R_drewN | apply Kd.R_drew)); exact HO_268001.out) hb)
     have n4_ := Aside0.mk (Kd.R_below (by (with_reducible repeat (first | apply Kd.R_alloc | apply Kd.R_drewN | apply Kd.R_drew)); exact HO272.out) hb)
     have n5_ := Aside0.mk (blk_below (g := gb239) (o := .cells #[.int .i64 a0_0, .slice A0_1 l0_1.length c0_1] 24 (0, 0)) (by (with_reducible repeat (first | refine blk_drewN ?_ _ | refine blk_drew ?_ | refine blk_alloc ?_ _)); exact BK239.out) hb)
     have n6_ := Aside0.mk (blk_below (g := gb253) (o := .cells #[.int .i64 t248, .slice Ao29 t249.length co29] 26 (0, 0)) (by (with_reducible repeat (first | refine blk_drewN ?_ _ | refine blk_drew ?_ | refine blk_alloc ?_ _)); exact BK253.out) hb)
     have n7_ := Aside0.mk (blk_below (g := gb258) (o := .cells #[.int .i64 t254, .slice Ao36 t255.length co36] 26 (0, 0)) (by (with_reducible repeat (first | refine blk_drewN ?_ _ | refine blk_drew ?_ | refine blk_alloc ?_ _)); exact BK258.out) hb)
     have n8_ := Aside0.mk (blk_below (g := gb267) (o := .cells #[.int .i64 t262, .slice Ao46 t263.length co46] 26 (0, 0)) (by (with_reducible repeat (first | refine blk_drewN ?_ _ | refine blk_drew ?_ | refine blk_alloc ?_ _)); exact BK267.out) hb)
     have n9_ := Aside0.mk (below_step (by repeat (first | (with_reducible first | exact HB.out | apply below_alloc | apply pw_below_drewN | apply below_drew1 | refine below_set ?_ GE239.out | refine below_set ?_ GE253.out | refine below_set ?_ GE258.out | refine below_set ?_ GE267.out) | exact HB.out)) hb)
     clear HO_9
     clear HO_254001
     clear HO_259001
     clear HO_268001
     clear HO272
     clear BK239
     clear BK253
     clear BK258
     clear BK267
     clear HB
     have HO_9 := n0_
     have HO_254001 := n1_
     have HO_259001 := n2_
     have HO_268001 := n3_
     have HO272 := n4_
     have BK239 := n5_
     have BK253 := n6_
     have BK258 := n7_
     have BK267 := n8_
     have HB := n9_
     clear n0_ n1_ n2_ n3_ n4_ n5_ n6_ n7_ n8_ n9_
     (try clear hb)
     (try clear hb2)
     (try clear hk)
     (try clear hi)
     refine hK.out _ _ ⟨(blk_cell BK258.out 0).trans rfl, (blk_cell BK258.out 1).trans rfl, (blk_cell BK239.out 0).trans rfl, (blk_cell BK239.out 1).trans rfl⟩ (fun hHeld => ?_)
     clear hK K
     refine norm_ (a' := ?_) ?_ ?_
     rotate_left
     ·show Act.put _ (some 55) _ = _
      simp only [Act.put, List.setIfInBounds_toArray, List.set_cons_zero, List.set_cons_succ, i64_w, i32_w]
      rfl
     refine pure_ (i := 4) (N := some 56) (v := ?_) (a' := ?_) #[true, true, true, true, true] rfl rfl (by kernel_rfl) (fun _ _ _ h => h) (Or.inl ⟨by rfl, ?_⟩) ?_ ?_
     rotate_left
     ·intro w'
      go_simp
      with_reducible rfl
     rotate_left
     ·simp only [Act.put, List.setIfInBounds_toArray, List.set_cons_zero, List.set_cons_succ, i64_w, i32_w]
      rfl
     refine done_ (by kernel_rfl) ?_
     go_upto_region 20 with (first | ((with_reducible refine gate_callee (f := 10) rfl ?_); refine goesL_ (some 59) rfl rfl Tryd.func10 (by kernel_rfl) rfl #[.slice A1 l1.length c1] rfl (by (try simp only [List.map_toArray, List.map_cons, List.map_nil]); first | done | rfl | (simp only [List.length_drop, List.length_take]; rfl)) ?_; (with_reducible refine (laws_toInt64S.calls kj15 _ _ l1 t274 _ ?side1 ?side2 A69.out).mono ?_); (case side1 => repeat (first | exact (Kd.C_below HR1.out HB.out) | (with_reducible refine Kd.C_alloc ?_ _) | (with_reducible refine Kd.C_drewN ?_ _) | (with_reducible refine Kd.C_drew ?_))); (case side2 => exact HC1.out); rintro e w79 ⟨v275, rfl, ho0, hb⟩; refine ⟨_, rfl, ?_⟩; have n0_ := Aside0.mk (Kd.R_elder' (by (with_reducible repeat (first | apply Kd.R_alloc | apply Kd.R_drewN | apply Kd.R_drew)); exact HO_9.out) (Kd.R_base ho0) hb); have n1_ := Aside0.mk (Kd.R_elder' (by (with_reducible repeat (first | apply Kd.R_alloc | apply Kd.R_drewN | apply Kd.R_drew)); exact HO_254001.out) (Kd.R_base ho0) hb); have n2_ := Aside0.mk (Kd.R_elder' (by (with_reducible repeat (first | apply Kd.R_alloc | apply Kd.R_drewN | apply Kd.R_drew)); exact HO_259001.out) (Kd.R_base ho0) hb); have n3_ := Aside0.mk (Kd.R_elder' (by (with_reducible repeat (first | apply Kd.R_alloc | apply Kd.R_drewN | apply Kd.R_drew)); exact HO_268001.out) (Kd.R_base ho0) hb); have n4_ := Aside0.mk (Kd.R_elder' (by (with_reducible repeat (first | apply Kd.R_alloc | apply Kd.R_drewN | apply Kd.R_drew)); exact HO272.out) (Kd.R_base ho0) hb); have n5_ := Aside0.mk (Kd.R_lower (Kd.R_new' (Kd.R_new' (Kd.R_new' (Kd.R_new' (Kd.R_new' ho0 (Kd.R_lt (by (with_reducible repeat (first | apply Kd.R_alloc | apply Kd.R_drewN | apply Kd.R_drew)); exact HO_9.out))) (Kd.R_lt (by (with_reducible repeat (first | apply Kd.R_alloc | apply Kd.R_drewN | apply Kd.R_drew)); exact HO_254001.out))) (Kd.R_lt (by (with_reducible repeat (first | apply Kd.R_alloc | apply Kd.R_drewN | apply Kd.R_drew)); exact HO_259001.out))) (Kd.R_lt (by (with_reducible repeat (first | apply Kd.R_alloc | apply Kd.R_drewN | apply Kd.R_drew)); exact HO_268001.out))) (Kd.R_lt (by (with_reducible repeat (first | apply Kd.R_alloc | apply Kd.R_drewN | apply Kd.R_drew)); exact HO272.out))) (below_size (by repeat (first | (with_reducible first | exact HB.out | apply below_alloc | apply pw_below_drewN | apply below_drew1 | refine below_set ?_ GE239.out | refine below_set ?_ GE253.out | refine below_set ?_ GE258.out | refine below_set ?_ GE267.out) | exact HB.out)))); have n6_ := Aside0.mk (blk_below (g := gb239) (o := .cells #[.int .i64 a0_0, .slice A0_1 l0_1.length c0_1] 24 (0, 0)) (by (with_reducible repeat (first | refine blk_drewN ?_ _ | refine blk_drew ?_ | refine blk_alloc ?_ _)); exact BK239.out) hb); have n7_ := Aside0.mk (blk_below (g := gb253) (o := .cells #[.int .i64 t248, .slice Ao29 t249.length co29] 26 (0, 0)) (by (with_reducible repeat (first | refine blk_drewN ?_ _ | refine blk_drew ?_ | refine blk_alloc ?_ _)); exact BK253.out) hb); have n8_ := Aside0.mk (blk_below (g := gb258) (o := .cells #[.int .i64 t254, .slice Ao36 t255.length co36] 26 (0, 0)) (by (with_reducible repeat (first | refine blk_drewN ?_ _ | refine blk_drew ?_ | refine blk_alloc ?_ _)); exact BK258.out) hb); have n9_ := Aside0.mk (blk_below (g := gb267) (o := .cells #[.int .i64 t262, .slice Ao46 t263.length co46] 26 (0, 0)) (by (with_reducible repeat (first | refine blk_drewN ?_ _ | refine blk_drew ?_ | refine blk_alloc ?_ _)); exact BK267.out) hb); have n10_ := Aside0.mk (below_step (by repeat (first | (with_reducible first | exact HB.out | apply below_alloc | apply pw_below_drewN | apply below_drew1 | refine below_set ?_ GE239.out | refine below_set ?_ GE253.out | refine below_set ?_ GE258.out | refine below_set ?_ GE267.out) | exact HB.out)) hb); clear HO_9; clear HO_254001; clear HO_259001; clear HO_268001; clear HO272; clear BK239; clear BK253; clear BK258; clear BK267; clear HB; have HO_9 := n0_; have HO_254001 := n1_; have HO_259001 := n2_; have HO_268001 := n3_; have HO272 := n4_; have HO276 := n5_; have BK239 := n6_; have BK253 := n7_; have BK258 := n8_; have BK267 := n9_; have HB := n10_; clear n0_ n1_ n2_ n3_ n4_ n5_ n6_ n7_ n8_ n9_ n10_; (try clear hb); (try clear hb2); (try clear hk); (try clear hi); (try clear ho0); obtain ⟨Ao80, co80, eo80⟩ := Kd.R_slice HO276.out; subst eo80) | ((with_reducible refine gate_callee (f := 13) rfl ?_); refine goesL_ (some 60) rfl rfl Tryd.func13 (by kernel_rfl) rfl #[.slice Ao39 t259.length co39, .slice Ao80 t274.length co80] rfl (by (try simp only [List.map_toArray, List.map_cons, List.map_nil]); first | done | rfl | (simp only [List.length_drop, List.length_take]; rfl)) ?_; (with_reducible refine (laws_eqInt64S.calls kj15 _ _ t259 _ _ t274 true _ ?side1 ?side2 ?side3 ?side4 A70.out).mono ?_); (case side1 => repeat (first | exact (Kd.R_reads' HO_9.out).2.2 | (with_reducible refine Kd.C_alloc ?_ _) | (with_reducible refine Kd.C_drewN ?_ _) | (with_reducible refine Kd.C_drew ?_))); (case side2 => exact (Kd.R_reads' HO_9.out).2.1); (case side3 => repeat (first | exact (Kd.R_reads' HO276.out).2.2 | (with_reducible refine Kd.C_alloc ?_ _) | (with_reducible refine Kd.C_drewN ?_ _) | (with_reducible refine Kd.C_drew ?_))); (case side4 => exact (Kd.R_reads' HO276.out).2.1); rintro e w' ⟨rfl, ⟨nd, rfl⟩⟩; refine ⟨_, rfl, ?_⟩; have hnb81 := NB258_239.out; have hnc81 := NB239_258.out; have hnb82 := NB258_253.out; have hnc82 := NB253_258.out; have hnb83 := NB258_267.out; have hnc83 := NB267_258.out; have hcz84_0 : w79.cell? ⟨gb258, 0, none⟩ = some (.int .i64 t254) := (blk_cell BK258.out 0).trans rfl; have hcz84_1 : w79.cell? ⟨gb258, 1, none⟩ = some (.slice Ao36 t255.length co36) := (blk_cell BK258.out 1).trans rfl; have hfz84_0 := blk_frozen BK258.out 0; have hfz84_1 := blk_frozen BK258.out 1) | ((with_reducible refine gate_callee (f := 14) rfl ?_); refine goesL_ (some 64) rfl rfl Tryd.func14 (by kernel_rfl) rfl #[.agg #[.int .i64 t254, .slice Ao36 t255.length co36], .int .i64 1] rfl (by (try simp only [List.map_toArray, List.map_cons, List.map_nil]); first | done | rfl | (simp only [List.length_drop, List.length_take]; rfl)) ?_; (with_reducible refine (laws_markGraph.calls kj15 t254 (fun k_ => some k_ = (.slice Ao36 t255.length co36 : Value).ownBlock) (.slice Ao36 t255.length co36) t255 1 t278 t279 w _ ?side1 ?side2 A72.out).mono ?_); (case side1 => repeat (first | (with_reducible first | exact HB.out | apply below_alloc | apply pw_below_drewN | apply below_drew1 | refine below_set ?_ GE239.out | refine below_set ?_ GE253.out | refine below_set ?_ GE258.out | refine below_set ?_ GE267.out) | exact HB.out)); (case side2 => exact Kd.R_tight rfl HO_259001.out); rintro e w85 ⟨rfl, hy0, hb, hkp⟩; refine ⟨_, rfl, ?_⟩; have n0_ := Aside0.mk (Kd.R_mono (ok' := fun k_ => some k_ ≠ (.slice Ao29 t249.length co29 : Value).ownBlock ∧ some k_ ≠ (.slice Ao36 t255.length co36 : Value).ownBlock ∧ some k_ ≠ (.slice Ao46 t263.length co46 : Value).ownBlock ∧ some k_ ≠ (.slice Ao77 t270.length co77 : Value).ownBlock ∧ some k_ ≠ (.slice Ao80 t274.length co80 : Value).ownBlock) (Kd.R_keptB (HO_9.out) hkp (fun k_ hk_ hs_ => (hk_.1.1.2.1) hs_)) (fun k_ hk_ => ⟨hk_.1.1.1.1, hk_.1.1.1.2.1, hk_.1.1.1.2.2, hk_.1.1.2, hk_.1.2⟩)); have n1_ := Aside0.mk (Kd.R_mono (ok' := fun k_ => some k_ ≠ (.slice Ao39 t259.length co39 : Value).ownBlock ∧ some k_ ≠ (.slice Ao36 t255.length co36 : Value).ownBlock ∧ some k_ ≠ (.slice Ao46 t263.length co46 : Value).ownBlock ∧ some k_ ≠ (.slice Ao77 t270.length co77 : Value).ownBlock ∧ some k_ ≠ (.slice Ao80 t274.length co80 : Value).ownBlock) (Kd.R_keptB (HO_254001.out) hkp (fun k_ hk_ hs_ => (hk_.1.1.2.1) hs_)) (fun k_ hk_ => ⟨hk_.1.1.1.1, hk_.1.1.1.2.1, hk_.1.1.1.2.2, hk_.1.1.2, hk_.1.2⟩)); have n2_ := Aside0.mk (Kd.R_reok rfl hy0 (fun k_ e_ => HO_259001.out.1 k_ e_)); have n3_ := Aside0.mk (Kd.R_mono (ok' := fun k_ => some k_ ≠ (.slice Ao39 t259.length co39 : Value).ownBlock ∧ some k_ ≠ (.slice Ao29 t249.length co29 : Value).ownBlock ∧ some k_ ≠ (.slice Ao36 t255.length co36 : Value).ownBlock ∧ some k_ ≠ (.slice Ao77 t270.length co77 : Value).ownBlock ∧ some k_ ≠ (.slice Ao80 t274.length co80 : Value).ownBlock) (Kd.R_keptB (HO_268001.out) hkp (fun k_ hk_ hs_ => (hk_.1.1.2.2) hs_)) (fun k_ hk_ => ⟨hk_.1.1.1.1, hk_.1.1.1.2.1, hk_.1.1.1.2.2, hk_.1.1.2, hk_.1.2⟩)); have n4_ := Aside0.mk (blk_kept (by (with_reducible repeat (first | refine blk_drewN ?_ _ | refine blk_drew ?_ | refine blk_alloc ?_ _)); exact BK239.out) hkp (fun hs_ => (fun e_ => (Kd.R_ne HO_259001.out BK239.out (by decide)) e_) hs_)); have n5_ := Aside0.mk (blk_kept (by (with_reducible repeat (first | refine blk_drewN ?_ _ | refine blk_drew ?_ | refine blk_alloc ?_ _)); exact BK253.out) hkp (fun hs_ => (fun e_ => (Kd.R_ne HO_259001.out BK253.out (by decide)) e_) hs_)); have n6_ := Aside0.mk (blk_kept (by (with_reducible repeat (first | refine blk_drewN ?_ _ | refine blk_drew ?_ | refine blk_alloc ?_ _)); exact BK258.out) hkp (fun hs_ => (fun e_ => (Kd.R_ne HO_259001.out BK258.out (by decide)) e_) hs_)); have n7_ := Aside0.mk (blk_kept (by (with_reducible repeat (first | refine blk_drewN ?_ _ | refine blk_drew ?_ | refine blk_alloc ?_ _)); exact BK267.out) hkp (fun hs_ => (fun e_ => (Kd.R_ne HO_259001.out BK267.out (by decide)) e_) hs_)); have n8_ := Aside0.mk (Kd.R_mono (ok' := fun k_ => some k_ ≠ (.slice Ao39 t259.length co39 : Value).ownBlock ∧ some k_ ≠ (.slice Ao29 t249.length co29 : Value).ownBlock ∧ some k_ ≠ (.slice Ao36 t255.length co36 : Value).ownBlock ∧ some k_ ≠ (.slice Ao46 t263.length co46 : Value).ownBlock ∧ some k_ ≠ (.slice Ao80 t274.length co80 : Value).ownBlock) (Kd.R_keptB (HO272.out) hkp (fun k_ hk_ hs_ => (hk_.1.1.2) hs_)) (fun k_ hk_ => ⟨hk_.1.1.1.1.1.2, hk_.1.1.1.1.2, hk_.1.1.1.2, hk_.1.1.2, hk_.1.2⟩)); have n9_ := Aside0.mk (Kd.R_mono (ok' := fun k_ => some k_ ≠ (.slice Ao39 t259.length co39 : Value).ownBlock ∧ some k_ ≠ (.slice Ao29 t249.length co29 : Value).ownBlock ∧ some k_ ≠ (.slice Ao36 t255.length co36 : Value).ownBlock ∧ some k_ ≠ (.slice Ao46 t263.length co46 : Value).ownBlock ∧ some k_ ≠ (.slice Ao77 t270.length co77 : Value).ownBlock) (Kd.R_keptB (HO276.out) hkp (fun k_ hk_ hs_ => (hk_.1.1.2) hs_)) (fun k_ hk_ => ⟨hk_.1.1.1.1.1.2, hk_.1.1.1.1.2, hk_.1.1.1.2, hk_.1.1.2, hk_.1.2⟩)); have n10_ := Aside0.mk (hb); clear HO_9; clear HO_254001; clear HO_259001; clear HO_268001; clear BK239; clear BK253; clear BK258; clear BK267; clear HO272; clear HO276; clear HB; have HO_9 := n0_; have HO_254001 := n1_; have HO_259001 := n2_; have HO_268001 := n3_; have BK239 := n4_; have BK253 := n5_; have BK258 := n6_; have BK267 := n7_; have HO272 := n8_; have HO276 := n9_; have HB := n10_; clear n0_ n1_ n2_ n3_ n4_ n5_ n6_ n7_ n8_ n9_ n10_; (try clear hb); (try clear hkp); (try clear hy0)) | ((with_reducible refine gate_callee (f := 15) rfl ?_); refine goesL_ (some 67) rfl rfl Tryd.func15 (by kernel_rfl) rfl #[.slice Ao39 t259.length co39, .int .i64 t278] rfl (by (try simp only [List.map_toArray, List.map_cons, List.map_nil]); first | done | rfl | (simp only [List.length_drop, List.length_take]; rfl)) ?_; (with_reducible refine (laws_markInt64S.calls kj15 (fun k_ => some k_ = (.slice Ao39 t259.length co39 : Value).ownBlock) (.slice Ao39 t259.length co39) t259 t278 t280 t281 w _ ?side1 ?side2 A73.out).mono ?_); (case side1 => repeat (first | (with_reducible first | exact HB.out | apply below_alloc | apply pw_below_drewN | apply below_drew1 | refine below_set ?_ GE239.out | refine below_set ?_ GE253.out | refine below_set ?_ GE258.out | refine below_set ?_ GE267.out) | exact HB.out)); (case side2 => exact Kd.R_tight rfl HO_9.out); rintro e w86 ⟨rfl, hy0, hb, hkp⟩; refine ⟨_, rfl, ?_⟩; have n0_ := Aside0.mk (Kd.R_reok rfl hy0 (fun k_ e_ => HO_9.out.1 k_ e_)); have n1_ := Aside0.mk (Kd.R_mono (ok' := fun k_ => some k_ ≠ (.slice Ao39 t259.length co39 : Value).ownBlock ∧ some k_ ≠ (.slice Ao36 t255.length co36 : Value).ownBlock ∧ some k_ ≠ (.slice Ao46 t263.length co46 : Value).ownBlock ∧ some k_ ≠ (.slice Ao77 t270.length co77 : Value).ownBlock ∧ some k_ ≠ (.slice Ao80 t274.length co80 : Value).ownBlock) (Kd.R_keptB (HO_254001.out) hkp (fun k_ hk_ hs_ => (hk_.1) hs_)) (fun k_ hk_ => ⟨hk_.1.1, hk_.1.2.1, hk_.1.2.2.1, hk_.1.2.2.2.1, hk_.1.2.2.2.2⟩)); have n2_ := Aside0.mk (Kd.R_mono (ok' := fun k_ => some k_ ≠ (.slice Ao39 t259.length co39 : Value).ownBlock ∧ some k_ ≠ (.slice Ao29 t249.length co29 : Value).ownBlock ∧ some k_ ≠ (.slice Ao46 t263.length co46 : Value).ownBlock ∧ some k_ ≠ (.slice Ao77 t270.length co77 : Value).ownBlock ∧ some k_ ≠ (.slice Ao80 t274.length co80 : Value).ownBlock) (Kd.R_keptB (HO_259001.out) hkp (fun k_ hk_ hs_ => (hk_.1.1.1) hs_)) (fun k_ hk_ => ⟨hk_.1.1.1.1, hk_.1.1.1.2.1, hk_.1.1.1.2.2, hk_.1.1.2, hk_.1.2⟩)); have n3_ := Aside0.mk (Kd.R_mono (ok' := fun k_ => some k_ ≠ (.slice Ao39 t259.length co39 : Value).ownBlock ∧ some k_ ≠ (.slice Ao29 t249.length co29 : Value).ownBlock ∧ some k_ ≠ (.slice Ao36 t255.length co36 : Value).ownBlock ∧ some k_ ≠ (.slice Ao77 t270.length co77 : Value).ownBlock ∧ some k_ ≠ (.slice Ao80 t274.length co80 : Value).ownBlock) (Kd.R_keptB (HO_268001.out) hkp (fun k_ hk_ hs_ => (hk_.1) hs_)) (fun k_ hk_ => ⟨hk_.1.1, hk_.1.2.1, hk_.1.2.2.1, hk_.1.2.2.2.1, hk_.1.2.2.2.2⟩)); have n4_ := Aside0.mk (blk_kept (by (with_reducible repeat (first | refine blk_drewN ?_ _ | refine blk_drew ?_ | refine blk_alloc ?_ _)); exact BK239.out) hkp (fun hs_ => (fun e_ => (Kd.R_ne HO_9.out BK239.out (by decide)) e_) hs_)); have n5_ := Aside0.mk (blk_kept (by (with_reducible repeat (first | refine blk_drewN ?_ _ | refine blk_drew ?_ | refine blk_alloc ?_ _)); exact BK253.out) hkp (fun hs_ => (fun e_ => (Kd.R_ne HO_9.out BK253.out (by decide)) e_) hs_)); have n6_ := Aside0.mk (blk_kept (by (with_reducible repeat (first | refine blk_drewN ?_ _ | refine blk_drew ?_ | refine blk_alloc ?_ _)); exact BK258.out) hkp (fun hs_ => (fun e_ => (Kd.R_ne HO_9.out BK258.out (by decide)) e_) hs_)); have n7_ := Aside0.mk (blk_kept (by (with_reducible repeat (first | refine blk_drewN ?_ _ | refine blk_drew ?_ | refine blk_alloc ?_ _)); exact BK267.out) hkp (fun hs_ => (fun e_ => (Kd.R_ne HO_9.out BK267.out (by decide)) e_) hs_)); have n8_ := Aside0.mk (Kd.R_mono (ok' := fun k_ => some k_ ≠ (.slice Ao39 t259.length co39 : Value).ownBlock ∧ some k_ ≠ (.slice Ao29 t249.length co29 : Value).ownBlock ∧ some k_ ≠ (.slice Ao36 t255.length co36 : Value).ownBlock ∧ some k_ ≠ (.slice Ao46 t263.length co46 : Value).ownBlock ∧ some k_ ≠ (.slice Ao80 t274.length co80 : Value).ownBlock) (Kd.R_keptB (HO272.out) hkp (fun k_ hk_ hs_ => (hk_.1) hs_)) (fun k_ hk_ => ⟨hk_.1.1, hk_.1.2.1, hk_.1.2.2.1, hk_.1.2.2.2.1, hk_.1.2.2.2.2⟩)); have n9_ := Aside0.mk (Kd.R_mono (ok' := fun k_ => some k_ ≠ (.slice Ao39 t259.length co39 : Value).ownBlock ∧ some k_ ≠ (.slice Ao29 t249.length co29 : Value).ownBlock ∧ some k_ ≠ (.slice Ao36 t255.length co36 : Value).ownBlock ∧ some k_ ≠ (.slice Ao46 t263.length co46 : Value).ownBlock ∧ some k_ ≠ (.slice Ao77 t270.length co77 : Value).ownBlock) (Kd.R_keptB (HO276.out) hkp (fun k_ hk_ hs_ => (hk_.1) hs_)) (fun k_ hk_ => ⟨hk_.1.1, hk_.1.2.1, hk_.1.2.2.1, hk_.1.2.2.2.1, hk_.1.2.2.2.2⟩)); have n10_ := Aside0.mk (hb); clear HO_9; clear HO_254001; clear HO_259001; clear HO_268001; clear BK239; clear BK253; clear BK258; clear BK267; clear HO272; clear HO276; clear HB; have HO_9 := n0_; have HO_254001 := n1_; have HO_259001 := n2_; have HO_268001 := n3_; have BK239 := n4_; have BK253 := n5_; have BK258 := n6_; have BK267 := n7_; have HO272 := n8_; have HO276 := n9_; have HB := n10_; clear n0_ n1_ n2_ n3_ n4_ n5_ n6_ n7_ n8_ n9_ n10_; (try clear hb); (try clear hkp); (try clear hy0)))
     (try simp only [Act.put, List.setIfInBounds_toArray, List.set_cons_zero, List.set_cons_succ])
     go_cut [80] (fun v80 wc => ∃ (kq : Nat) (x80_73 : Bool), v80 = .bool x80_73 ∧ Aside0 (laws_FnExactRenumberGraph.j1 kq l1 t252 x80_73 a0_0 l0_1 t248 t249 t262 t263 = some r) ∧ Aside0 (kq ≤ kj15) ∧ Aside0 (Kd.R (Kd.int .i64) 2 wc w.heap.size (fun k_ => some k_ ≠ ((.slice Ao36 t255.length co36) : Value).ownBlock ∧ some k_ ≠ ((.slice Ao46 t263.length co46) : Value).ownBlock) (.slice Ao29 t249.length co29) t249) ∧ Aside0 (Kd.R (Kd.int .i64) 2 wc w.heap.size (fun k_ => some k_ ≠ ((.slice Ao29 t249.length co29) : Value).ownBlock ∧ some k_ ≠ ((.slice Ao46 t263.length co46) : Value).ownBlock) (.slice Ao36 t255.length co36) t279) ∧ Aside0 (Kd.R (Kd.int .i64) 2 wc w.heap.size (fun k_ => some k_ ≠ ((.slice Ao29 t249.length co29) : Value).ownBlock ∧ some k_ ≠ ((.slice Ao36 t255.length co36) : Value).ownBlock) (.slice Ao46 t263.length co46) t263) ∧ Aside0 (wc.heap[gb239]? = some (.cells #[.int .i64 a0_0, (.slice A0_1 l0_1.length c0_1)] 24 (0, 0))) ∧ Aside0 (wc.heap[gb253]? = some (.cells #[.int .i64 t248, (.slice Ao29 t249.length co29)] 26 (0, 0))) ∧ Aside0 (wc.heap[gb258]? = some (.cells #[.int .i64 t254, (.slice Ao36 t255.length co36)] 26 (0, 0))) ∧ Aside0 (wc.heap[gb267]? = some (.cells #[.int .i64 t262, (.slice Ao46 t263.length co46)] 26 (0, 0))) ∧ Aside0 (Below w.heap.size w wc))
     case first =>
      have H := HC74.out
      clear HC74
      by_cases c87 : t280 < 0
      ·rw [if_pos c87] at H
       have c87b0 : decide (t280 < 0) = true := decide_eq_true c87
       clear c87
       (first | rw [c87b0] | (simp only [i64_w, i32_w]; rw [c87b0]) | skip)
       have H' := Aside0.mk H
       clear H
       go_wp2
       go_meet
       case rel => exact ⟨_, (true), (by first | rfl | (simp; done) | (simp [*]; done)), H', ⟨by have := HJ15.out; first | omega | exact Nat.le_refl _⟩, ⟨by (with_reducible repeat (first | apply Kd.R_alloc | apply Kd.R_drewN | apply Kd.R_drew)); exact Kd.R_mono HO_254001.out (fun _ hk => ⟨hk.2.1, hk.2.2.1⟩)⟩, ⟨by (with_reducible repeat (first | apply Kd.R_alloc | apply Kd.R_drewN | apply Kd.R_drew)); exact Kd.R_mono HO_259001.out (fun _ hk => ⟨hk.2.1, hk.2.2.1⟩)⟩, ⟨by (with_reducible repeat (first | apply Kd.R_alloc | apply Kd.R_drewN | apply Kd.R_drew)); exact Kd.R_mono HO_268001.out (fun _ hk => ⟨hk.2.1, hk.2.2.1⟩)⟩, ⟨by (with_reducible repeat (first | refine blk_drewN ?_ _ | refine blk_drew ?_ | refine blk_alloc ?_ _)); exact BK239.out⟩, ⟨by (with_reducible repeat (first | refine blk_drewN ?_ _ | refine blk_drew ?_ | refine blk_alloc ?_ _)); exact BK253.out⟩, ⟨by (with_reducible repeat (first | refine blk_drewN ?_ _ | refine blk_drew ?_ | refine blk_alloc ?_ _)); exact BK258.out⟩, ⟨by (with_reducible repeat (first | refine blk_drewN ?_ _ | refine blk_drew ?_ | refine blk_alloc ?_ _)); exact BK267.out⟩, ⟨by repeat (first | (with_reducible first | exact HB.out | apply below_alloc | apply pw_below_drewN | apply below_drew1 | refine below_set ?_ GE239.out | refine below_set ?_ GE253.out | refine below_set ?_ GE258.out | refine below_set ?_ GE267.out) | exact HB.out)⟩⟩
      ·rw [if_neg c87] at H
       have c87b0 : decide (t280 < 0) = false := decide_eq_false c87
       clear c87
       (first | rw [c87b0] | (simp only [i64_w, i32_w]; rw [c87b0]) | skip)
       replace H := Option.bind_eq_some_iff.mp H
       obtain ⟨t282, A880, H⟩ := H
       replace H : (if t282 = true then (laws_FnExactRenumberGraph.j1 kj15 l1 t252 (t266 != t252) a0_0 l0_1 t248 t249 t262 t263) else (laws_FnExactRenumberGraph.j1 kj15 l1 t252 true a0_0 l0_1 t248 t249 t262 t263)) = some r := H
       have A88 := Aside0.mk A880
       clear A880
       by_cases c89 : t282 = true
       ·subst c89
        have H1 : (laws_FnExactRenumberGraph.j1 kj15 l1 t252 (t266 != t252) a0_0 l0_1 t248 t249 t262 t263) = some r := by rw [if_pos rfl] at H; exact H
        clear H
        have H := H1
        clear H1
        have H' := Aside0.mk H
        clear H
        have hnb90 := NB267_239.out
        have hnc90 := NB239_267.out
        have hnb91 := NB267_253.out
        have hnc91 := NB253_267.out
        have hnb92 := NB267_258.out
        have hnc92 := NB258_267.out
        have hcz93_0 : w86.cell? ⟨gb267, 0, none⟩ = some (.int .i64 t262) := (blk_cell BK267.out 0).trans rfl
        have hcz93_1 : w86.cell? ⟨gb267, 1, none⟩ = some (.slice Ao46 t263.length co46) := (blk_cell BK267.out 1).trans rfl
        have hfz93_0 := blk_frozen BK267.out 0
        have hfz93_1 := blk_frozen BK267.out 1
        have hnb94 := NB253_239.out
        have hnc94 := NB239_253.out
        have hnb95 := NB253_258.out
        have hnc95 := NB258_253.out
        have hcz96_0 : w86.cell? ⟨gb253, 0, none⟩ = some (.int .i64 t248) := (blk_cell BK253.out 0).trans rfl
        have hcz96_1 : w86.cell? ⟨gb253, 1, none⟩ = some (.slice Ao29 t249.length co29) := (blk_cell BK253.out 1).trans rfl
        have hfz96_0 := blk_frozen BK253.out 0
        have hfz96_1 := blk_frozen BK253.out 1
        go_wp2_with (first | (go_at_call 12; (with_reducible refine (laws_eqGraph.calls kj15 t262 _ _ t263 t248 _ _ t249 true _ ?side1 ?side2 ?side3 ?side4 A88.out).mono ?_); (case side1 => repeat (first | exact (Kd.R_reads' HO_268001.out).2.2 | (with_reducible refine Kd.C_alloc ?_ _) | (with_reducible refine Kd.C_drewN ?_ _) | (with_reducible refine Kd.C_drew ?_))); (case side2 => exact (Kd.R_reads' HO_268001.out).2.1); (case side3 => repeat (first | exact (Kd.R_reads' HO_254001.out).2.2 | (with_reducible refine Kd.C_alloc ?_ _) | (with_reducible refine Kd.C_drewN ?_ _) | (with_reducible refine Kd.C_drew ?_))); (case side4 => exact (Kd.R_reads' HO_254001.out).2.1); rintro e w97 ⟨rfl, hb⟩; have n0_ := Aside0.mk (Kd.R_below (by (with_reducible repeat (first | apply Kd.R_alloc | apply Kd.R_drewN | apply Kd.R_drew)); exact HO_9.out) hb); have n1_ := Aside0.mk (Kd.R_below (by (with_reducible repeat (first | apply Kd.R_alloc | apply Kd.R_drewN | apply Kd.R_drew)); exact HO_254001.out) hb); have n2_ := Aside0.mk (Kd.R_below (by (with_reducible repeat (first | apply Kd.R_alloc | apply Kd.R_drewN | apply Kd.R_drew)); exact HO_259001.out) hb); have n3_ := Aside0.mk (Kd.R_below (by (with_reducible repeat (first | apply Kd.R_alloc | apply Kd.R_drewN | apply Kd.R_drew)); exact HO_268001.out) hb); have n4_ := Aside0.mk (Kd.R_below (by (with_reducible repeat (first | apply Kd.R_alloc | apply Kd.R_drewN | apply Kd.R_drew)); exact HO272.out) hb); have n5_ := Aside0.mk (Kd.R_below (by (with_reducible repeat (first | apply Kd.R_alloc | apply Kd.R_drewN | apply Kd.R_drew)); exact HO276.out) hb); have n6_ := Aside0.mk (blk_below (g := gb239) (o := .cells #[.int .i64 a0_0, .slice A0_1 l0_1.length c0_1] 24 (0, 0)) (by (with_reducible repeat (first | refine blk_drewN ?_ _ | refine blk_drew ?_ | refine blk_alloc ?_ _)); exact BK239.out) hb); have n7_ := Aside0.mk (blk_below (g := gb253) (o := .cells #[.int .i64 t248, .slice Ao29 t249.length co29] 26 (0, 0)) (by (with_reducible repeat (first | refine blk_drewN ?_ _ | refine blk_drew ?_ | refine blk_alloc ?_ _)); exact BK253.out) hb); have n8_ := Aside0.mk (blk_below (g := gb258) (o := .cells #[.int .i64 t254, .slice Ao36 t255.length co36] 26 (0, 0)) (by (with_reducible repeat (first | refine blk_drewN ?_ _ | refine blk_drew ?_ | refine blk_alloc ?_ _)); exact BK258.out) hb); have n9_ := Aside0.mk (blk_below (g := gb267) (o := .cells #[.int .i64 t262, .slice Ao46 t263.length co46] 26 (0, 0)) (by (with_reducible repeat (first | refine blk_drewN ?_ _ | refine blk_drew ?_ | refine blk_alloc ?_ _)); exact BK267.out) hb); have n10_ := Aside0.mk (below_step (by repeat (first | (with_reducible first | exact HB.out | apply below_alloc | apply pw_below_drewN | apply below_drew1 | refine below_set ?_ GE239.out | refine below_set ?_ GE253.out | refine below_set ?_ GE258.out | refine below_set ?_ GE267.out) | exact HB.out)) hb); clear HO_9; clear HO_254001; clear HO_259001; clear HO_268001; clear HO272; clear HO276; clear BK239; clear BK253; clear BK258; clear BK267; clear HB; have HO_9 := n0_; have HO_254001 := n1_; have HO_259001 := n2_; have HO_268001 := n3_; have HO272 := n4_; have HO276 := n5_; have BK239 := n6_; have BK253 := n7_; have BK258 := n8_; have BK267 := n9_; have HB := n10_; clear n0_ n1_ n2_ n3_ n4_ n5_ n6_ n7_ n8_ n9_ n10_; (try clear hb); (try clear hb2); (try clear hk); (try clear hi)))
        go_meet
        case rel => exact ⟨_, ((t266 != t252)), (by first | rfl | (simp; done) | (simp [*]; done)), H', ⟨by have := HJ15.out; first | omega | exact Nat.le_refl _⟩, ⟨by (with_reducible repeat (first | apply Kd.R_alloc | apply Kd.R_drewN | apply Kd.R_drew)); exact Kd.R_mono HO_254001.out (fun _ hk => ⟨hk.2.1, hk.2.2.1⟩)⟩, ⟨by (with_reducible repeat (first | apply Kd.R_alloc | apply Kd.R_drewN | apply Kd.R_drew)); exact Kd.R_mono HO_259001.out (fun _ hk => ⟨hk.2.1, hk.2.2.1⟩)⟩, ⟨by (with_reducible repeat (first | apply Kd.R_alloc | apply Kd.R_drewN | apply Kd.R_drew)); exact Kd.R_mono HO_268001.out (fun _ hk => ⟨hk.2.1, hk.2.2.1⟩)⟩, ⟨by (with_reducible repeat (first | refine blk_drewN ?_ _ | refine blk_drew ?_ | refine blk_alloc ?_ _)); exact BK239.out⟩, ⟨by (with_reducible repeat (first | refine blk_drewN ?_ _ | refine blk_drew ?_ | refine blk_alloc ?_ _)); exact BK253.out⟩, ⟨by (with_reducible repeat (first | refine blk_drewN ?_ _ | refine blk_drew ?_ | refine blk_alloc ?_ _)); exact BK258.out⟩, ⟨by (with_reducible repeat (first | refine blk_drewN ?_ _ | refine blk_drew ?_ | refine blk_alloc ?_ _)); exact BK267.out⟩, ⟨by repeat (first | (with_reducible first | exact HB.out | apply below_alloc | apply pw_below_drewN | apply below_drew1 | refine below_set ?_ GE239.out | refine below_set ?_ GE253.out | refine below_set ?_ GE258.out | refine below_set ?_ GE267.out) | exact HB.out)⟩⟩
       ·replace c89 := Bool.eq_false_iff.mpr c89
        subst c89
        have H1 : (laws_FnExactRenumberGraph.j1 kj15 l1 t252 true a0_0 l0_1 t248 t249 t262 t263) = some r := by rw [if_neg (show ¬ (false = true) by decide)] at H; exact H
        clear H
        have H := H1
        clear H1
        have H' := Aside0.mk H
        clear H
        have hnb98 := NB267_239.out
        have hnc98 := NB239_267.out
        have hnb99 := NB267_253.out
        have hnc99 := NB253_267.out
        have hnb100 := NB267_258.out
        have hnc100 := NB258_267.out
        have hcz101_0 : w86.cell? ⟨gb267, 0, none⟩ = some (.int .i64 t262) := (blk_cell BK267.out 0).trans rfl
        have hcz101_1 : w86.cell? ⟨gb267, 1, none⟩ = some (.slice Ao46 t263.length co46) := (blk_cell BK267.out 1).trans rfl
        have hfz101_0 := blk_frozen BK267.out 0
        have hfz101_1 := blk_frozen BK267.out 1
        have hnb102 := NB253_239.out
        have hnc102 := NB239_253.out
        have hnb103 := NB253_258.out
        have hnc103 := NB258_253.out
        have hcz104_0 : w86.cell? ⟨gb253, 0, none⟩ = some (.int .i64 t248) := (blk_cell BK253.out 0).trans rfl
        have hcz104_1 : w86.cell? ⟨gb253, 1, none⟩ = some (.slice Ao29 t249.length co29) := (blk_cell BK253.out 1).trans rfl
        have hfz104_0 := blk_frozen BK253.out 0
        have hfz104_1 := blk_frozen BK253.out 1
        go_wp2_with (first | (go_at_call 12; (with_reducible refine (laws_eqGraph.calls kj15 t262 _ _ t263 t248 _ _ t249 false _ ?side1 ?side2 ?side3 ?side4 A88.out).mono ?_); (case side1 => repeat (first | exact (Kd.R_reads' HO_268001.out).2.2 | (with_reducible refine Kd.C_alloc ?_ _) | (with_reducible refine Kd.C_drewN ?_ _) | (with_reducible refine Kd.C_drew ?_))); (case side2 => exact (Kd.R_reads' HO_268001.out).2.1); (case side3 => repeat (first | exact (Kd.R_reads' HO_254001.out).2.2 | (with_reducible refine Kd.C_alloc ?_ _) | (with_reducible refine Kd.C_drewN ?_ _) | (with_reducible refine Kd.C_drew ?_))); (case side4 => exact (Kd.R_reads' HO_254001.out).2.1); rintro e w105 ⟨rfl, hb⟩; have n0_ := Aside0.mk (Kd.R_below (by (with_reducible repeat (first | apply Kd.R_alloc | apply Kd.R_drewN | apply Kd.R_drew)); exact HO_9.out) hb); have n1_ := Aside0.mk (Kd.R_below (by (with_reducible repeat (first | apply Kd.R_alloc | apply Kd.R_drewN | apply Kd.R_drew)); exact HO_254001.out) hb); have n2_ := Aside0.mk (Kd.R_below (by (with_reducible repeat (first | apply Kd.R_alloc | apply Kd.R_drewN | apply Kd.R_drew)); exact HO_259001.out) hb); have n3_ := Aside0.mk (Kd.R_below (by (with_reducible repeat (first | apply Kd.R_alloc | apply Kd.R_drewN | apply Kd.R_drew)); exact HO_268001.out) hb); have n4_ := Aside0.mk (Kd.R_below (by (with_reducible repeat (first | apply Kd.R_alloc | apply Kd.R_drewN | apply Kd.R_drew)); exact HO272.out) hb); have n5_ := Aside0.mk (Kd.R_below (by (with_reducible repeat (first | apply Kd.R_alloc | apply Kd.R_drewN | apply Kd.R_drew)); exact HO276.out) hb); have n6_ := Aside0.mk (blk_below (g := gb239) (o := .cells #[.int .i64 a0_0, .slice A0_1 l0_1.length c0_1] 24 (0, 0)) (by (with_reducible repeat (first | refine blk_drewN ?_ _ | refine blk_drew ?_ | refine blk_alloc ?_ _)); exact BK239.out) hb); have n7_ := Aside0.mk (blk_below (g := gb253) (o := .cells #[.int .i64 t248, .slice Ao29 t249.length co29] 26 (0, 0)) (by (with_reducible repeat (first | refine blk_drewN ?_ _ | refine blk_drew ?_ | refine blk_alloc ?_ _)); exact BK253.out) hb); have n8_ := Aside0.mk (blk_below (g := gb258) (o := .cells #[.int .i64 t254, .slice Ao36 t255.length co36] 26 (0, 0)) (by (with_reducible repeat (first | refine blk_drewN ?_ _ | refine blk_drew ?_ | refine blk_alloc ?_ _)); exact BK258.out) hb); have n9_ := Aside0.mk (blk_below (g := gb267) (o := .cells #[.int .i64 t262, .slice Ao46 t263.length co46] 26 (0, 0)) (by (with_reducible repeat (first | refine blk_drewN ?_ _ | refine blk_drew ?_ | refine blk_alloc ?_ _)); exact BK267.out) hb); have n10_ := Aside0.mk (below_step (by repeat (first | (with_reducible first | exact HB.out | apply below_alloc | apply pw_below_drewN | apply below_drew1 | refine below_set ?_ GE239.out | refine below_set ?_ GE253.out | refine below_set ?_ GE258.out | refine below_set ?_ GE267.out) | exact HB.out)) hb); clear HO_9; clear HO_254001; clear HO_259001; clear HO_268001; clear HO272; clear HO276; clear BK239; clear BK253; clear BK258; clear BK267; clear HB; have HO_9 := n0_; have HO_254001 := n1_; have HO_259001 := n2_; have HO_268001 := n3_; have HO272 := n4_; have HO276 := n5_; have BK239 := n6_; have BK253 := n7_; have BK258 := n8_; have BK267 := n9_; have HB := n10_; clear n0_ n1_ n2_ n3_ n4_ n5_ n6_ n7_ n8_ n9_ n10_; (try clear hb); (try clear hb2); (try clear hk); (try clear hi)))
        go_meet
        case rel => exact ⟨_, (true), (by first | rfl | (simp; done) | (simp [*]; done)), H', ⟨by have := HJ15.out; first | omega | exact Nat.le_refl _⟩, ⟨by (with_reducible repeat (first | apply Kd.R_alloc | apply Kd.R_drewN | apply Kd.R_drew)); exact Kd.R_mono HO_254001.out (fun _ hk => ⟨hk.2.1, hk.2.2.1⟩)⟩, ⟨by (with_reducible repeat (first | apply Kd.R_alloc | apply Kd.R_drewN | apply Kd.R_drew)); exact Kd.R_mono HO_259001.out (fun _ hk => ⟨hk.2.1, hk.2.2.1⟩)⟩, ⟨by (with_reducible repeat (first | apply Kd.R_alloc | apply Kd.R_drewN | apply Kd.R_drew)); exact Kd.R_mono HO_268001.out (fun _ hk => ⟨hk.2.1, hk.2.2.1⟩)⟩, ⟨by (with_reducible repeat (first | refine blk_drewN ?_ _ | refine blk_drew ?_ | refine blk_alloc ?_ _)); exact BK239.out⟩, ⟨by (with_reducible repeat (first | refine blk_drewN ?_ _ | refine blk_drew ?_ | refine blk_alloc ?_ _)); exact BK253.out⟩, ⟨by (with_reducible repeat (first | refine blk_drewN ?_ _ | refine blk_drew ?_ | refine blk_alloc ?_ _)); exact BK258.out⟩, ⟨by (with_reducible repeat (first | refine blk_drewN ?_ _ | refine blk_drew ?_ | refine blk_alloc ?_ _)); exact BK267.out⟩, ⟨by repeat (first | (with_reducible first | exact HB.out | apply below_alloc | apply pw_below_drewN | apply below_drew1 | refine below_set ?_ GE239.out | refine below_set ?_ GE253.out | refine below_set ?_ GE258.out | refine below_set ?_ GE267.out) | exact HB.out)⟩⟩
     case rest =>
      clear HC74
      try clear c1
      try clear c2
      try clear p2
      try clear c3
      try clear c3b0
      try clear c3b1
      try clear c4
      try clear c5
      try clear c6
      try clear c6b0
      try clear c7
      try clear c8
      try clear c9
      try clear c10
      try clear c11
      try clear c12
      try clear c13
      try clear c14
      try clear c15
      try clear c27
      try clear c33
      try clear c34
      try clear c42
      try clear c43
      try clear c44
      try clear c48
      try clear c49
      try clear c50
      try clear c51
      try clear c53
      try clear c54
      try clear c57
      try clear c58
      try clear c59
      try clear c61
      try clear c62
      try clear c65
      try clear c68
      try clear c71
      try clear c81
      try clear c82
      try clear c83
      try clear c87
      try clear c87b0
      try clear c89
      try clear c90
      try clear c91
      try clear c92
      try clear c94
      try clear c95
      try clear c98
      try clear c99
      try clear c100
      try clear c102
      try clear c103
      try clear hcz101_0
      try clear hcz101_1
      try clear hcz104_0
      try clear hcz104_1
      try clear hcz18_0
      try clear hcz18_1
      try clear hcz20_0
      try clear hcz20_1
      try clear hcz28_0
      try clear hcz28_1
      try clear hcz30_0
      try clear hcz30_1
      try clear hcz35_0
      try clear hcz35_1
      try clear hcz38_0
      try clear hcz38_1
      try clear hcz45_0
      try clear hcz45_1
      try clear hcz52_0
      try clear hcz52_1
      try clear hcz55_0
      try clear hcz55_1
      try clear hcz60_0
      try clear hcz60_1
      try clear hcz63_0
      try clear hcz63_1
      try clear hcz84_0
      try clear hcz84_1
      try clear hcz8_0
      try clear hcz8_1
      try clear hcz93_0
      try clear hcz93_1
      try clear hcz96_0
      try clear hcz96_1
      try clear hfz101_0
      try clear hfz101_1
      try clear hfz104_0
      try clear hfz104_1
      try clear hfz18_0
      try clear hfz18_1
      try clear hfz20_0
      try clear hfz20_1
      try clear hfz28_0
      try clear hfz28_1
      try clear hfz30_0
      try clear hfz30_1
      try clear hfz35_0
      try clear hfz35_1
      try clear hfz38_0
      try clear hfz38_1
      try clear hfz45_0
      try clear hfz45_1
      try clear hfz52_0
      try clear hfz52_1
      try clear hfz55_0
      try clear hfz55_1
      try clear hfz60_0
      try clear hfz60_1
      try clear hfz63_0
      try clear hfz63_1
      try clear hfz84_0
      try clear hfz84_1
      try clear hfz8_0
      try clear hfz8_1
      try clear hfz93_0
      try clear hfz93_1
      try clear hfz96_0
      try clear hfz96_1
      try clear p2
      obtain ⟨kq, x80_73, rfl, HA, HJ73, HO_254001, HO_259001, HO_268001, BK239, BK253, BK258, BK267, HB⟩ := hcut
      have hl259001_73 := (Kd.R_reads' HO_259001.out).1
      rw [hl259001_73] at HO_259001
      (try simp only [hl259001_73])
      (try simp only [hl259001_73] at BK239)
      (try simp only [hl259001_73] at BK253)
      (try simp only [hl259001_73] at BK258)
      (try simp only [hl259001_73] at BK267)
      (try simp only [hl259001_73] at HO_254001)
      (try simp only [hl259001_73] at HO_268001)
      cases kq with
      | zero => exact absurd HA.out (by simp [laws_FnExactRenumberGraph.j1])
      | succ kj73 =>
       rename_i q1_1_ q1_2_ q1_3_ q1_4_ q1_5_ q1_6_ q1_7_ q1_8_ q1_9_ q1_10_ q1_11_ q1_12_ q1_13_ q1_14_ q1_15_ q1_16_ q1_17_ q1_18_ q1_19_ q1_20_ q1_21_ q1_22_ q1_23_ q1_24_ q1_25_ q1_26_ q1_27_ q1_28_ q1_29_ q1_30_ q1_31_ q1_32_ q1_33_ q1_34_ q1_35_ q1_36_ q1_37_ q1_38_ q1_39_ q1_40_ q1_41_ q1_42_ q1_43_ q1_44_ q1_45_ q1_46_ q1_47_ q1_48_ q1_49_ q1_50_ q1_51_ q1_52_ q1_53_ q1_54_ q1_55_ q1_56_ q1_57_ q1_58_ q1_59_ q1_60_ q1_61_ q1_62_ q1_63_ q1_64_ q1_65_ q1_66_ q1_67_ q1_68_ q1_69_ q1_70_ q1_71_ q1_72_ q1_73_ q1_74_ q1_75_ q1_76_ q1_77_ q1_78_ q1_79_ q1_80_ q1_81_ q1_82_ q1_83_ q1_84_ q1_85_ q1_86_ q1_87_ q1_88_ q1_89_ q1_90_ q1_91_ q1_92_ q1_93_ q1_94_ q1_95_ q1_96_ q1_97_ q1_98_ q1_99_ q1_100_ q1_101_ q1_102_ q1_103_ q1_104_ q1_105_ q1_106_ q1_107_ q1_108_ q1_109_ q1_110_ q1_111_ q1_112_ q1_113_
       revert k a0_0 A0_1 c0_1 l0_1 A1 c1 l1 r w hu24 hu26 HR0_1 HC0_1 HR1 HC1 HT t240 A5 t241 t242 A10 t245 A11 t248 t249 t252 A12 t254 t255 A13 t259 A14 t262 t263 t266 A15 q0_1_ gb239 w17 GW239 GE239 w19 w21 w22 Ao23 co23 Ao24 co24 w25 gb253 w26 GW253 GE253 NB239_253 NB253_239 hnb27 hnc27 Ao29 co29 w31 gb258 w32 GW258 GE258 NB239_258 NB258_239 NB253_258 NB258_253 hnb33 hnc33 hnb34 hnc34 Ao36 co36 w37 Ao39 co39 w40 gb267 w41 q0_2_ q0_3_ q0_4_ q0_5_ q0_6_ GW267 GE267 NB239_267 NB267_239 NB253_267 NB267_253 NB258_267 NB267_258 hnb42 hnc42 hnb43 hnc43 hnb44 hnc44 Ao46 co46 HO244 HO247 HO251 HO257 HO261 HO265 q1_1_ q1_2_ q1_3_ q1_4_ q1_5_ q1_6_ q1_7_ q1_8_ q1_9_ q1_10_ q1_11_ q1_12_ q1_13_ q1_14_ q1_15_ q1_16_ q1_17_ q1_18_ q1_19_ q1_20_ q1_21_ q1_22_ q1_23_ q1_24_ q1_25_ q1_26_ q1_27_ q1_28_ q1_29_ q1_30_ q1_31_ q1_32_ q1_33_ q1_34_ q1_35_ q1_36_ q1_37_ q1_38_ q1_39_ q1_40_ q1_41_ q1_42_ q1_43_ q1_44_ q1_45_ q1_46_ q1_47_ q1_48_ q1_49_ q1_50_ q1_51_ q1_52_ q1_53_ q1_54_ q1_55_ q1_56_ q1_57_ q1_58_ q1_59_ q1_60_ q1_61_ q1_62_ q1_63_ u80 q1_64_ q1_65_ q1_66_ q1_67_ q1_68_ q1_69_ q1_70_ q1_71_ q1_72_ q1_73_ q1_74_ q1_75_ q1_76_ q1_77_ q1_78_ q1_79_ q1_80_ q1_81_ q1_82_ q1_83_ q1_84_ q1_85_ q1_86_ q1_87_ q1_88_ q1_89_ q1_90_ q1_91_ q1_92_ q1_93_ q1_94_ q1_95_ q1_96_ q1_97_ q1_98_ q1_99_ kj15 HJ15 t269 t270 A66 A67 t274 A69 A70 t278 t279 A72 t280 t281 A73 w75 q1_100_ w76 Ao77 co77 q1_101_ w78 hHeld w79 Ao80 co80 nd hnb81 hnc81 hnb82 hnc82 hnb83 hnc83 w85 w86 HO_9 q1_102_ q1_103_ q1_104_ q1_105_ q1_106_ q1_107_ q1_108_ HO272 HO276 q1_109_ q1_110_ q1_111_ q1_112_ q1_113_ wc u17 u18 u19 u20 u21 u22 u23 u24 u25 u26 u27 u28 u29 u30 u31 u32 u33 u34 u35 u36 u37 u38 u39 u40 u41 u42 u43 u44 u45 u46 u47 u48 u49 u50 u51 u52 u53 u54 u55 u56 u57 u58 u59 u60 u61 u62 u63 u64 u65 u66 u67 u68 u69 u70 u71 u72 u73 u74 u75 u76 u77 u78 u79 u81 u82 u83 u84 u85 u86 u87 u88 u89 u90 u91 u92 u93 u94 u95 u96 u97 u98 u99 u100 u101 u102 u103 u104 u105 u106 u107 u108 u109 u110 u111 u112 u113 u114 u115 u116 x80_73 HO_259001 BK239 BK253 BK267 HB hl259001_73 BK258 HO_254001 HO_268001 kj73 HA HJ73
       exact hP_.out
    ·replace c71 := Bool.eq_false_iff.mpr c71
     subst c71
     have H1 : (some false) = some r := by rw [if_neg (show ¬ (false = true) by decide)] at H; exact H
     clear H
     have H := H1
     clear H1
     obtain rfl := Option.some.inj H
     try go_wp2
     have n0_ := Aside0.mk (Kd.R_drew HO_9.out)
     have n1_ := Aside0.mk (Kd.R_drew HO_254001.out)
     have n2_ := Aside0.mk (Kd.R_drew HO_259001.out)
     have n3_ := Aside0.mk (Kd.R_drew HO_268001.out)
     have n4_ := Aside0.mk (blk_drew BK239.out)
     have n5_ := Aside0.mk (blk_drew BK253.out)
     have n6_ := Aside0.mk (blk_drew BK258.out)
     have n7_ := Aside0.mk (blk_drew BK267.out)
     have n8_ := Aside0.mk (below_drew1 HB.out)
     clear HO_9
     clear HO_254001
     clear HO_259001
     clear HO_268001
     clear BK239
     clear BK253
     clear BK258
     clear BK267
     clear HB
     have HO_9 := n0_
     have HO_254001 := n1_
     have HO_259001 := n2_
     have HO_268001 := n3_
     have BK239 := n4_
     have BK253 := n5_
     have BK258 := n6_
     have BK267 := n7_
     have HB := n8_
     clear n0_ n1_ n2_ n3_ n4_ n5_ n6_ n7_ n8_
     refine start_ (n := 5) (S := fun w' => w'.cell? ⟨gb258, 0, none⟩ = some (.int .i64 t254) ∧ w'.cell? ⟨gb258, 1, none⟩ = some (.slice Ao36 t255.length co36) ∧ w'.cell? ⟨gb239, 0, none⟩ = some (.int .i64 a0_0) ∧ w'.cell? ⟨gb239, 1, none⟩ = some (.slice A0_1 l0_1.length c0_1)) (ds := []) #[false, false, false, false, false] (by kernel_rfl) rfl rfl ⟨(blk_cell BK258.out 0).trans rfl, (blk_cell BK258.out 1).trans rfl, (blk_cell BK239.out 0).trans rfl, (blk_cell BK239.out 1).trans rfl⟩ (fun hHeld => ?_)
     generalize wc.drew = w195 at HO_9 HO_254001 HO_259001 HO_268001 BK239 BK253 BK258 BK267 HB hHeld ⊢
     refine take_ (i := 0) (N := some 52) (v := ?_) (a' := ?_) #[true, false, false, false, false] rfl rfl (by kernel_rfl) (fun _ _ _ h => h) (Or.inl ⟨by rfl, ?_⟩) hHeld ?_ ?_
     rotate_left
     ·rintro w' ⟨s0, s1, s2, s3⟩
      go_simp
      with_reducible rfl
     rotate_left
     ·simp only [Act.put, List.setIfInBounds_toArray, List.set_cons_zero, List.set_cons_succ, i64_w, i32_w]
      rfl
     refine take_ (i := 1) (N := some 53) (v := ?_) (a' := ?_) #[true, true, false, false, false] rfl rfl (by kernel_rfl) (fun _ _ _ h => h) (Or.inl ⟨by rfl, ?_⟩) hHeld ?_ ?_
     rotate_left
     ·rintro w' ⟨s0, s1, s2, s3⟩
      go_simp
      with_reducible rfl
     rotate_left
     ·simp only [Act.put, List.setIfInBounds_toArray, List.set_cons_zero, List.set_cons_succ, i64_w, i32_w]
      rfl
     refine one_ (i := 2) (N := some 54) #[true, true, true, false, false] rfl rfl (by kernel_rfl) (by decide) (fun K hK => ?_)
     refine goes_ Tryd.func9 (by kernel_rfl) rfl #[.agg #[.int .i64 a0_0, .slice A0_1 l0_1.length c0_1]] (by rfl) rfl rfl (by (try simp only [List.map_toArray, List.map_cons, List.map_nil]); first | done | rfl | (simp only [List.length_drop, List.length_take]; rfl)) ?_
     with_reducible refine (laws_toGraph.calls kj15 a0_0 _ _ l0_1 t269 t270 _ ?side1 ?side2 A66.out).mono ?_
     (case side1 => repeat (first | exact (Kd.C_below HR0_1.out HB.out) | (with_reducible refine Kd.C_alloc ?_ _) | (with_reducible refine Kd.C_drewN ?_ _) | (with_reducible refine Kd.C_drew ?_)))
     (case side2 => exact HC0_1.out)
     rintro e w196 ⟨v271, rfl, ho0, hb⟩
     refine ⟨_, rfl, ?_⟩
     have n0_ := Aside0.mk (Kd.R_elder' (by (with_reducible repeat (first | apply Kd.R_alloc | apply Kd.R_drewN | apply Kd.R_drew)); exact HO_9.out) (Kd.R_base ho0) hb)
     have n1_ := Aside0.mk (Kd.R_elder' (by (with_reducible repeat (first | apply Kd.R_alloc | apply Kd.R_drewN | apply Kd.R_drew)); exact HO_254001.out) (Kd.R_base ho0) hb)
     have n2_ := Aside0.mk (Kd.R_elder' (by (with_reducible repeat (first | apply Kd.R_alloc | apply Kd.R_drewN | apply Kd.R_drew)); exact HO_259001.out) (Kd.R_base ho0) hb)
     have n3_ := Aside0.mk (Kd.R_elder' (by (with_reducible repeat (first | apply Kd.R_alloc | apply Kd.R_drewN | apply Kd.R_drew)); exact HO_268001.out) (Kd.R_base ho0) hb)
     have n4_ := Aside0.mk (Kd.R_lower (Kd.R_new' (Kd.R_new' (Kd.R_new' (Kd.R_new' ho0 (Kd.R_lt (by (with_reducible repeat (first | apply Kd.R_alloc | apply Kd.R_drewN | apply Kd.R_drew)); exact HO_9.out))) (Kd.R_lt (by (with_reducible repeat (first | apply Kd.R_alloc | apply Kd.R_drewN | apply Kd.R_drew)); exact HO_254001.out))) (Kd.R_lt (by (with_reducible repeat (first | apply Kd.R_alloc | apply Kd.R_drewN | apply Kd.R_drew)); exact HO_259001.out))) (Kd.R_lt (by (with_reducible repeat (first | apply Kd.R_alloc | apply Kd.R_drewN | apply Kd.R_drew)); exact HO_268001.out))) (below_size (by repeat (first | (with_reducible first | exact HB.out | apply below_alloc | apply pw_below_drewN | apply below_drew1 | refine below_set ?_ GE239.out | refine below_set ?_ GE253.out | refine below_set ?_ GE258.out | refine below_set ?_ GE267.out) | exact HB.out))))
     have n5_ := Aside0.mk (blk_below (g := gb239) (o := .cells #[.int .i64 a0_0, .slice A0_1 l0_1.length c0_1] 24 (0, 0)) (by (with_reducible repeat (first | refine blk_drewN ?_ _ | refine blk_drew ?_ | refine blk_alloc ?_ _)); exact BK239.out) hb)
     have n6_ := Aside0.mk (blk_below (g := gb253) (o := .cells #[.int .i64 t248, .slice Ao29 t249.length co29] 26 (0, 0)) (by (with_reducible repeat (first | refine blk_drewN ?_ _ | refine blk_drew ?_ | refine blk_alloc ?_ _)); exact BK253.out) hb)
     have n7_ := Aside0.mk (blk_below (g := gb258) (o := .cells #[.int .i64 t254, .slice Ao36 t255.length co36] 26 (0, 0)) (by (with_reducible repeat (first | refine blk_drewN ?_ _ | refine blk_drew ?_ | refine blk_alloc ?_ _)); exact BK258.out) hb)
     have n8_ := Aside0.mk (blk_below (g := gb267) (o := .cells #[.int .i64 t262, .slice Ao46 t263.length co46] 26 (0, 0)) (by (with_reducible repeat (first | refine blk_drewN ?_ _ | refine blk_drew ?_ | refine blk_alloc ?_ _)); exact BK267.out) hb)
     have n9_ := Aside0.mk (below_step (by repeat (first | (with_reducible first | exact HB.out | apply below_alloc | apply pw_below_drewN | apply below_drew1 | refine below_set ?_ GE239.out | refine below_set ?_ GE253.out | refine below_set ?_ GE258.out | refine below_set ?_ GE267.out) | exact HB.out)) hb)
     clear HO_9
     clear HO_254001
     clear HO_259001
     clear HO_268001
     clear BK239
     clear BK253
     clear BK258
     clear BK267
     clear HB
     have HO_9 := n0_
     have HO_254001 := n1_
     have HO_259001 := n2_
     have HO_268001 := n3_
     have HO272 := n4_
     have BK239 := n5_
     have BK253 := n6_
     have BK258 := n7_
     have BK267 := n8_
     have HB := n9_
     clear n0_ n1_ n2_ n3_ n4_ n5_ n6_ n7_ n8_ n9_
     (try clear hb)
     (try clear hb2)
     (try clear hk)
     (try clear hi)
     (try clear ho0)
     obtain ⟨Ao197, co197, eo197⟩ := Kd.R_slice HO272.out
     (first | subst eo197 | (injection eo197 with f1_ f2_ f3_; have f4_ := f1_.symm; have f5_ := f3_.symm; clear f1_ f2_ f3_; subst f4_; subst f5_))
     refine hK.out _ _ ⟨(blk_cell BK258.out 0).trans rfl, (blk_cell BK258.out 1).trans rfl, (blk_cell BK239.out 0).trans rfl, (blk_cell BK239.out 1).trans rfl⟩ (fun hHeld => ?_)
     clear hK K
     refine norm_ (a' := ?_) ?_ ?_
     rotate_left
     ·show Act.put _ (some 54) _ = _
      simp only [Act.put, List.setIfInBounds_toArray, List.set_cons_zero, List.set_cons_succ, i64_w, i32_w]
      rfl
     refine one_ (i := 3) (N := some 55) #[true, true, true, true, false] rfl rfl (by kernel_rfl) (by decide) (fun K hK => ?_)
     refine goes_ Tryd.func12 (by kernel_rfl) rfl #[.agg #[.int .i64 t254, .slice Ao36 t255.length co36], .agg #[.int .i64 t269, .slice Ao197 t270.length co197]] (by rfl) rfl rfl (by (try simp only [List.map_toArray, List.map_cons, List.map_nil]); first | done | rfl | (simp only [List.length_drop, List.length_take]; rfl)) ?_
     with_reducible refine (laws_eqGraph.calls kj15 t254 _ _ t255 t269 _ _ t270 true _ ?side1 ?side2 ?side3 ?side4 A67.out).mono ?_
     (case side1 => repeat (first | exact (Kd.R_reads' HO_259001.out).2.2 | (with_reducible refine Kd.C_alloc ?_ _) | (with_reducible refine Kd.C_drewN ?_ _) | (with_reducible refine Kd.C_drew ?_)))
     (case side2 => exact (Kd.R_reads' HO_259001.out).2.1)
     (case side3 => repeat (first | exact (Kd.R_reads' HO272.out).2.2 | (with_reducible refine Kd.C_alloc ?_ _) | (with_reducible refine Kd.C_drewN ?_ _) | (with_reducible refine Kd.C_drew ?_)))
     (case side4 => exact (Kd.R_reads' HO272.out).2.1)
     rintro e w198 ⟨rfl, hb⟩
     refine ⟨_, rfl, ?_⟩
     have n0_ := Aside0.mk (Kd.R_below (by (with_reducible repeat (first | apply Kd.R_alloc | apply Kd.R_drewN | apply Kd.R_drew)); exact HO_9.out) hb)
     have n1_ := Aside0.mk (Kd.R_below (by (with_reducible repeat (first | apply Kd.R_alloc | apply Kd.R_drewN | apply Kd.R_drew)); exact HO_254001.out) hb)
     have n2_ := Aside0.mk (Kd.R_below (by (with_reducible repeat (first | apply Kd.R_alloc | apply Kd.R_drewN | apply Kd.R_drew)); exact HO_259001.out) hb)
     have n3_ := Aside0.mk (Kd.R_below (by (with_reducible repeat (first | apply Kd.R_alloc | apply Kd.R_drewN | apply Kd.R_drew)); exact HO_268001.out) hb)
     have n4_ := Aside0.mk (Kd.R_below (by (with_reducible repeat (first | apply Kd.R_alloc | apply Kd.R_drewN | apply Kd.R_drew)); exact HO272.out) hb)
     have n5_ := Aside0.mk (blk_below (g := gb239) (o := .cells #[.int .i64 a0_0, .slice A0_1 l0_1.length c0_1] 24 (0, 0)) (by (with_reducible repeat (first | refine blk_drewN ?_ _ | refine blk_drew ?_ | refine blk_alloc ?_ _)); exact BK239.out) hb)
     have n6_ := Aside0.mk (blk_below (g := gb253) (o := .cells #[.int .i64 t248, .slice Ao29 t249.length co29] 26 (0, 0)) (by (with_reducible repeat (first | refine blk_drewN ?_ _ | refine blk_drew ?_ | refine blk_alloc ?_ _)); exact BK253.out) hb)
     have n7_ := Aside0.mk (blk_below (g := gb258) (o := .cells #[.int .i64 t254, .slice Ao36 t255.length co36] 26 (0, 0)) (by (with_reducible repeat (first | refine blk_drewN ?_ _ | refine blk_drew ?_ | refine blk_alloc ?_ _)); exact BK258.out) hb)
     have n8_ := Aside0.mk (blk_below (g := gb267) (o := .cells #[.int .i64 t262, .slice Ao46 t263.length co46] 26 (0, 0)) (by (with_reducible repeat (first | refine blk_drewN ?_ _ | refine blk_drew ?_ | refine blk_alloc ?_ _)); exact BK267.out) hb)
     have n9_ := Aside0.mk (below_step (by repeat (first | (with_reducible first | exact HB.out | apply below_alloc | apply pw_below_drewN | apply below_drew1 | refine below_set ?_ GE239.out | refine below_set ?_ GE253.out | refine below_set ?_ GE258.out | refine below_set ?_ GE267.out) | exact HB.out)) hb)
     clear HO_9
     clear HO_254001
     clear HO_259001
     clear HO_268001
     clear HO272
     clear BK239
     clear BK253
     clear BK258
     clear BK267
     clear HB
     have HO_9 := n0_
     have HO_254001 := n1_
     have HO_259001 := n2_
     have HO_268001 := n3_
     have HO272 := n4_
     have BK239 := n5_
     have BK253 := n6_
     have BK258 := n7_
     have BK267 := n8_
     have HB := n9_
     clear n0_ n1_ n2_ n3_ n4_ n5_ n6_ n7_ n8_ n9_
     (try clear hb)
     (try clear hb2)
     (try clear hk)
     (try clear hi)
     refine hK.out _ _ ⟨(blk_cell BK258.out 0).trans rfl, (blk_cell BK258.out 1).trans rfl, (blk_cell BK239.out 0).trans rfl, (blk_cell BK239.out 1).trans rfl⟩ (fun hHeld => ?_)
     clear hK K
     refine norm_ (a' := ?_) ?_ ?_
     rotate_left
     ·show Act.put _ (some 55) _ = _
      simp only [Act.put, List.setIfInBounds_toArray, List.set_cons_zero, List.set_cons_succ, i64_w, i32_w]
      rfl
     refine pure_ (i := 4) (N := some 56) (v := ?_) (a' := ?_) #[true, true, true, true, true] rfl rfl (by kernel_rfl) (fun _ _ _ h => h) (Or.inl ⟨by rfl, ?_⟩) ?_ ?_
     rotate_left
     ·intro w'
      go_simp
      with_reducible rfl
     rotate_left
     ·simp only [Act.put, List.setIfInBounds_toArray, List.set_cons_zero, List.set_cons_succ, i64_w, i32_w]
      rfl
     refine done_ (by kernel_rfl) ?_
     try go_wp2_with (first | ((with_reducible refine gate_callee (f := 10) rfl ?_); refine goesL_ (some 59) rfl rfl Tryd.func10 (by kernel_rfl) rfl #[.slice A1 l1.length c1] rfl (by (try simp only [List.map_toArray, List.map_cons, List.map_nil]); first | done | rfl | (simp only [List.length_drop, List.length_take]; rfl)) ?_; (with_reducible refine (laws_toInt64S.calls kj15 _ _ l1 t274 _ ?side1 ?side2 A69.out).mono ?_); (case side1 => repeat (first | exact (Kd.C_below HR1.out HB.out) | (with_reducible refine Kd.C_alloc ?_ _) | (with_reducible refine Kd.C_drewN ?_ _) | (with_reducible refine Kd.C_drew ?_))); (case side2 => exact HC1.out); rintro e w199 ⟨v275, rfl, ho0, hb⟩; refine ⟨_, rfl, ?_⟩; have n0_ := Aside0.mk (Kd.R_elder' (by (with_reducible repeat (first | apply Kd.R_alloc | apply Kd.R_drewN | apply Kd.R_drew)); exact HO_9.out) (Kd.R_base ho0) hb); have n1_ := Aside0.mk (Kd.R_elder' (by (with_reducible repeat (first | apply Kd.R_alloc | apply Kd.R_drewN | apply Kd.R_drew)); exact HO_254001.out) (Kd.R_base ho0) hb); have n2_ := Aside0.mk (Kd.R_elder' (by (with_reducible repeat (first | apply Kd.R_alloc | apply Kd.R_drewN | apply Kd.R_drew)); exact HO_259001.out) (Kd.R_base ho0) hb); have n3_ := Aside0.mk (Kd.R_elder' (by (with_reducible repeat (first | apply Kd.R_alloc | apply Kd.R_drewN | apply Kd.R_drew)); exact HO_268001.out) (Kd.R_base ho0) hb); have n4_ := Aside0.mk (Kd.R_elder' (by (with_reducible repeat (first | apply Kd.R_alloc | apply Kd.R_drewN | apply Kd.R_drew)); exact HO272.out) (Kd.R_base ho0) hb); have n5_ := Aside0.mk (Kd.R_lower (Kd.R_new' (Kd.R_new' (Kd.R_new' (Kd.R_new' (Kd.R_new' ho0 (Kd.R_lt (by (with_reducible repeat (first | apply Kd.R_alloc | apply Kd.R_drewN | apply Kd.R_drew)); exact HO_9.out))) (Kd.R_lt (by (with_reducible repeat (first | apply Kd.R_alloc | apply Kd.R_drewN | apply Kd.R_drew)); exact HO_254001.out))) (Kd.R_lt (by (with_reducible repeat (first | apply Kd.R_alloc | apply Kd.R_drewN | apply Kd.R_drew)); exact HO_259001.out))) (Kd.R_lt (by (with_reducible repeat (first | apply Kd.R_alloc | apply Kd.R_drewN | apply Kd.R_drew)); exact HO_268001.out))) (Kd.R_lt (by (with_reducible repeat (first | apply Kd.R_alloc | apply Kd.R_drewN | apply Kd.R_drew)); exact HO272.out))) (below_size (by repeat (first | (with_reducible first | exact HB.out | apply below_alloc | apply pw_below_drewN | apply below_drew1 | refine below_set ?_ GE239.out | refine below_set ?_ GE253.out | refine below_set ?_ GE258.out | refine below_set ?_ GE267.out) | exact HB.out)))); have n6_ := Aside0.mk (blk_below (g := gb239) (o := .cells #[.int .i64 a0_0, .slice A0_1 l0_1.length c0_1] 24 (0, 0)) (by (with_reducible repeat (first | refine blk_drewN ?_ _ | refine blk_drew ?_ | refine blk_alloc ?_ _)); exact BK239.out) hb); have n7_ := Aside0.mk (blk_below (g := gb253) (o := .cells #[.int .i64 t248, .slice Ao29 t249.length co29] 26 (0, 0)) (by (with_reducible repeat (first | refine blk_drewN ?_ _ | refine blk_drew ?_ | refine blk_alloc ?_ _)); exact BK253.out) hb); have n8_ := Aside0.mk (blk_below (g := gb258) (o := .cells #[.int .i64 t254, .slice Ao36 t255.length co36] 26 (0, 0)) (by (with_reducible repeat (first | refine blk_drewN ?_ _ | refine blk_drew ?_ | refine blk_alloc ?_ _)); exact BK258.out) hb); have n9_ := Aside0.mk (blk_below (g := gb267) (o := .cells #[.int .i64 t262, .slice Ao46 t263.length co46] 26 (0, 0)) (by (with_reducible repeat (first | refine blk_drewN ?_ _ | refine blk_drew ?_ | refine blk_alloc ?_ _)); exact BK267.out) hb); have n10_ := Aside0.mk (below_step (by repeat (first | (with_reducible first | exact HB.out | apply below_alloc | apply pw_below_drewN | apply below_drew1 | refine below_set ?_ GE239.out | refine below_set ?_ GE253.out | refine below_set ?_ GE258.out | refine below_set ?_ GE267.out) | exact HB.out)) hb); clear HO_9; clear HO_254001; clear HO_259001; clear HO_268001; clear HO272; clear BK239; clear BK253; clear BK258; clear BK267; clear HB; have HO_9 := n0_; have HO_254001 := n1_; have HO_259001 := n2_; have HO_268001 := n3_; have HO272 := n4_; have HO276 := n5_; have BK239 := n6_; have BK253 := n7_; have BK258 := n8_; have BK267 := n9_; have HB := n10_; clear n0_ n1_ n2_ n3_ n4_ n5_ n6_ n7_ n8_ n9_ n10_; (try clear hb); (try clear hb2); (try clear hk); (try clear hi); (try clear ho0); obtain ⟨Ao200, co200, eo200⟩ := Kd.R_slice HO276.out; subst eo200) | ((with_reducible refine gate_callee (f := 13) rfl ?_); refine goesL_ (some 60) rfl rfl Tryd.func13 (by kernel_rfl) rfl #[.slice Ao39 t259.length co39, .slice Ao200 t274.length co200] rfl (by (try simp only [List.map_toArray, List.map_cons, List.map_nil]); first | done | rfl | (simp only [List.length_drop, List.length_take]; rfl)) ?_; (with_reducible refine (laws_eqInt64S.calls kj15 _ _ t259 _ _ t274 false _ ?side1 ?side2 ?side3 ?side4 A70.out).mono ?_); (case side1 => repeat (first | exact (Kd.R_reads' HO_9.out).2.2 | (with_reducible refine Kd.C_alloc ?_ _) | (with_reducible refine Kd.C_drewN ?_ _) | (with_reducible refine Kd.C_drew ?_))); (case side2 => exact (Kd.R_reads' HO_9.out).2.1); (case side3 => repeat (first | exact (Kd.R_reads' HO276.out).2.2 | (with_reducible refine Kd.C_alloc ?_ _) | (with_reducible refine Kd.C_drewN ?_ _) | (with_reducible refine Kd.C_drew ?_))); (case side4 => exact (Kd.R_reads' HO276.out).2.1); rintro e w' ⟨rfl, ⟨nd, rfl⟩⟩; refine ⟨_, rfl, ?_⟩))
     go_ret
     exact ⟨by first | rfl | (simp [errW_none, errW_some] <;> rfl) | (simp [*, errW_none, errW_some] <;> rfl), by repeat (first | (with_reducible first | exact HB.out | apply below_alloc | apply pw_below_drewN | apply below_drew1 | refine below_set ?_ GE239.out | refine below_set ?_ GE253.out | refine below_set ?_ GE258.out | refine below_set ?_ GE267.out) | exact HB.out)⟩
   ·replace c68 := Bool.eq_false_iff.mpr c68
    subst c68
    have H1 : (some false) = some r := by rw [if_neg (show ¬ (false = true) by decide)] at H; exact H
    clear H
    have H := H1
    clear H1
    obtain rfl := Option.some.inj H
    try go_wp2
    have n0_ := Aside0.mk (Kd.R_drew HO_9.out)
    have n1_ := Aside0.mk (Kd.R_drew HO_254001.out)
    have n2_ := Aside0.mk (Kd.R_drew HO_259001.out)
    have n3_ := Aside0.mk (Kd.R_drew HO_268001.out)
    have n4_ := Aside0.mk (blk_drew BK239.out)
    have n5_ := Aside0.mk (blk_drew BK253.out)
    have n6_ := Aside0.mk (blk_drew BK258.out)
    have n7_ := Aside0.mk (blk_drew BK267.out)
    have n8_ := Aside0.mk (below_drew1 HB.out)
    clear HO_9
    clear HO_254001
    clear HO_259001
    clear HO_268001
    clear BK239
    clear BK253
    clear BK258
    clear BK267
    clear HB
    have HO_9 := n0_
    have HO_254001 := n1_
    have HO_259001 := n2_
    have HO_268001 := n3_
    have BK239 := n4_
    have BK253 := n5_
    have BK258 := n6_
    have BK267 := n7_
    have HB := n8_
    clear n0_ n1_ n2_ n3_ n4_ n5_ n6_ n7_ n8_
    refine start_ (n := 5) (S := fun w' => w'.cell? ⟨gb258, 0, none⟩ = some (.int .i64 t254) ∧ w'.cell? ⟨gb258, 1, none⟩ = some (.slice Ao36 t255.length co36) ∧ w'.cell? ⟨gb239, 0, none⟩ = some (.int .i64 a0_0) ∧ w'.cell? ⟨gb239, 1, none⟩ = some (.slice A0_1 l0_1.length c0_1)) (ds := []) #[false, false, false, false, false] (by kernel_rfl) rfl rfl ⟨(blk_cell BK258.out 0).trans rfl, (blk_cell BK258.out 1).trans rfl, (blk_cell BK239.out 0).trans rfl, (blk_cell BK239.out 1).trans rfl⟩ (fun hHeld => ?_)
    generalize wc.drew = w201 at HO_9 HO_254001 HO_259001 HO_268001 BK239 BK253 BK258 BK267 HB hHeld ⊢
    refine take_ (i := 0) (N := some 52) (v := ?_) (a' := ?_) #[true, false, false, false, false] rfl rfl (by kernel_rfl) (fun _ _ _ h => h) (Or.inl ⟨by rfl, ?_⟩) hHeld ?_ ?_
    rotate_left
    ·rintro w' ⟨s0, s1, s2, s3⟩
     go_simp
     with_reducible rfl
    rotate_left
    ·simp only [Act.put, List.setIfInBounds_toArray, List.set_cons_zero, List.set_cons_succ, i64_w, i32_w]
     rfl
    refine take_ (i := 1) (N := some 53) (v := ?_) (a' := ?_) #[true, true, false, false, false] rfl rfl (by kernel_rfl) (fun _ _ _ h => h) (Or.inl ⟨by rfl, ?_⟩) hHeld ?_ ?_
    rotate_left
    ·rintro w' ⟨s0, s1, s2, s3⟩
     go_simp
     with_reducible rfl
    rotate_left
    ·simp only [Act.put, List.setIfInBounds_toArray, List.set_cons_zero, List.set_cons_succ, i64_w, i32_w]
     rfl
    refine one_ (i := 2) (N := some 54) #[true, true, true, false, false] rfl rfl (by kernel_rfl) (by decide) (fun K hK => ?_)
    refine goes_ Tryd.func9 (by kernel_rfl) rfl #[.agg #[.int .i64 a0_0, .slice A0_1 l0_1.length c0_1]] (by rfl) rfl rfl (by (try simp only [List.map_toArray, List.map_cons, List.map_nil]); first | done | rfl | (simp only [List.length_drop, List.length_take]; rfl)) ?_
    with_reducible refine (laws_toGraph.calls kj15 a0_0 _ _ l0_1 t269 t270 _ ?side1 ?side2 A66.out).mono ?_
    (case side1 => repeat (first | exact (Kd.C_below HR0_1.out HB.out) | (with_reducible refine Kd.C_alloc ?_ _) | (with_reducible refine Kd.C_drewN ?_ _) | (with_reducible refine Kd.C_drew ?_)))
    (case side2 => exact HC0_1.out)
    rintro e w202 ⟨v271, rfl, ho0, hb⟩
    refine ⟨_, rfl, ?_⟩
    have n0_ := Aside0.mk (Kd.R_elder' (by (with_reducible repeat (first | apply Kd.R_alloc | apply Kd.R_drewN | apply Kd.R_drew)); exact HO_9.out) (Kd.R_base ho0) hb)
    have n1_ := Aside0.mk (Kd.R_elder' (by (with_reducible repeat (first | apply Kd.R_alloc | apply Kd.R_drewN | apply Kd.R_drew)); exact HO_254001.out) (Kd.R_base ho0) hb)
    have n2_ := Aside0.mk (Kd.R_elder' (by (with_reducible repeat (first | apply Kd.R_alloc | apply Kd.R_drewN | apply Kd.R_drew)); exact HO_259001.out) (Kd.R_base ho0) hb)
    have n3_ := Aside0.mk (Kd.R_elder' (by (with_reducible repeat (first | apply Kd.R_alloc | apply Kd.R_drewN | apply Kd.R_drew)); exact HO_268001.out) (Kd.R_base ho0) hb)
    have n4_ := Aside0.mk (Kd.R_lower (Kd.R_new' (Kd.R_new' (Kd.R_new' (Kd.R_new' ho0 (Kd.R_lt (by (with_reducible repeat (first | apply Kd.R_alloc | apply Kd.R_drewN | apply Kd.R_drew)); exact HO_9.out))) (Kd.R_lt (by (with_reducible repeat (first | apply Kd.R_alloc | apply Kd.R_drewN | apply Kd.R_drew)); exact HO_254001.out))) (Kd.R_lt (by (with_reducible repeat (first | apply Kd.R_alloc | apply Kd.R_drewN | apply Kd.R_drew)); exact HO_259001.out))) (Kd.R_lt (by (with_reducible repeat (first | apply Kd.R_alloc | apply Kd.R_drewN | apply Kd.R_drew)); exact HO_268001.out))) (below_size (by repeat (first | (with_reducible first | exact HB.out | apply below_alloc | apply pw_below_drewN | apply below_drew1 | refine below_set ?_ GE239.out | refine below_set ?_ GE253.out | refine below_set ?_ GE258.out | refine below_set ?_ GE267.out) | exact HB.out))))
    have n5_ := Aside0.mk (blk_below (g := gb239) (o := .cells #[.int .i64 a0_0, .slice A0_1 l0_1.length c0_1] 24 (0, 0)) (by (with_reducible repeat (first | refine blk_drewN ?_ _ | refine blk_drew ?_ | refine blk_alloc ?_ _)); exact BK239.out) hb)
    have n6_ := Aside0.mk (blk_below (g := gb253) (o := .cells #[.int .i64 t248, .slice Ao29 t249.length co29] 26 (0, 0)) (by (with_reducible repeat (first | refine blk_drewN ?_ _ | refine blk_drew ?_ | refine blk_alloc ?_ _)); exact BK253.out) hb)
    have n7_ := Aside0.mk (blk_below (g := gb258) (o := .cells #[.int .i64 t254, .slice Ao36 t255.length co36] 26 (0, 0)) (by (with_reducible repeat (first | refine blk_drewN ?_ _ | refine blk_drew ?_ | refine blk_alloc ?_ _)); exact BK258.out) hb)
    have n8_ := Aside0.mk (blk_below (g := gb267) (o := .cells #[.int .i64 t262, .slice Ao46 t263.length co46] 26 (0, 0)) (by (with_reducible repeat (first | refine blk_drewN ?_ _ | refine blk_drew ?_ | refine blk_alloc ?_ _)); exact BK267.out) hb)
    have n9_ := Aside0.mk (below_step (by repeat (first | (with_reducible first | exact HB.out | apply below_alloc | apply pw_below_drewN | apply below_drew1 | refine below_set ?_ GE239.out | refine below_set ?_ GE253.out | refine below_set ?_ GE258.out | refine below_set ?_ GE267.out) | exact HB.out)) hb)
    clear HO_9
    clear HO_254001
    clear HO_259001
    clear HO_268001
    clear BK239
    clear BK253
    clear BK258
    clear BK267
    clear HB
    have HO_9 := n0_
    have HO_254001 := n1_
    have HO_259001 := n2_
    have HO_268001 := n3_
    have HO272 := n4_
    have BK239 := n5_
    have BK253 := n6_
    have BK258 := n7_
    have BK267 := n8_
    have HB := n9_
    clear n0_ n1_ n2_ n3_ n4_ n5_ n6_ n7_ n8_ n9_
    (try clear hb)
    (try clear hb2)
    (try clear hk)
    (try clear hi)
    (try clear ho0)
    obtain ⟨Ao203, co203, eo203⟩ := Kd.R_slice HO272.out
    (first | subst eo203 | (injection eo203 with f1_ f2_ f3_; have f4_ := f1_.symm; have f5_ := f3_.symm; clear f1_ f2_ f3_; subst f4_; subst f5_))
    refine hK.out _ _ ⟨(blk_cell BK258.out 0).trans rfl, (blk_cell BK258.out 1).trans rfl, (blk_cell BK239.out 0).trans rfl, (blk_cell BK239.out 1).trans rfl⟩ (fun hHeld => ?_)
    clear hK K
    refine norm_ (a' := ?_) ?_ ?_
    rotate_left
    ·show Act.put _ (some 54) _ = _
     simp only [Act.put, List.setIfInBounds_toArray, List.set_cons_zero, List.set_cons_succ, i64_w, i32_w]
     rfl
    refine one_ (i := 3) (N := some 55) #[true, true, true, true, false] rfl rfl (by kernel_rfl) (by decide) (fun K hK => ?_)
    refine goes_ Tryd.func12 (by kernel_rfl) rfl #[.agg #[.int .i64 t254, .slice Ao36 t255.length co36], .agg #[.int .i64 t269, .slice Ao203 t270.length co203]] (by rfl) rfl rfl (by (try simp only [List.map_toArray, List.map_cons, List.map_nil]); first | done | rfl | (simp only [List.length_drop, List.length_take]; rfl)) ?_
    with_reducible refine (laws_eqGraph.calls kj15 t254 _ _ t255 t269 _ _ t270 false _ ?side1 ?side2 ?side3 ?side4 A67.out).mono ?_
    (case side1 => repeat (first | exact (Kd.R_reads' HO_259001.out).2.2 | (with_reducible refine Kd.C_alloc ?_ _) | (with_reducible refine Kd.C_drewN ?_ _) | (with_reducible refine Kd.C_drew ?_)))
    (case side2 => exact (Kd.R_reads' HO_259001.out).2.1)
    (case side3 => repeat (first | exact (Kd.R_reads' HO272.out).2.2 | (with_reducible refine Kd.C_alloc ?_ _) | (with_reducible refine Kd.C_drewN ?_ _) | (with_reducible refine Kd.C_drew ?_)))
    (case side4 => exact (Kd.R_reads' HO272.out).2.1)
    rintro e w204 ⟨rfl, hb⟩
    refine ⟨_, rfl, ?_⟩
    have n0_ := Aside0.mk (Kd.R_below (by (with_reducible repeat (first | apply Kd.R_alloc | apply Kd.R_drewN | apply Kd.R_drew)); exact HO_9.out) hb)
    have n1_ := Aside0.mk (Kd.R_below (by (with_reducible repeat (first | apply Kd.R_alloc | apply Kd.R_drewN | apply Kd.R_drew)); exact HO_254001.out) hb)
    have n2_ := Aside0.mk (Kd.R_below (by (with_reducible repeat (first | apply Kd.R_alloc | apply Kd.R_drewN | apply Kd.R_drew)); exact HO_259001.out) hb)
    have n3_ := Aside0.mk (Kd.R_below (by (with_reducible repeat (first | apply Kd.R_alloc | apply Kd.R_drewN | apply Kd.R_drew)); exact HO_268001.out) hb)
    have n4_ := Aside0.mk (Kd.R_below (by (with_reducible repeat (first | apply Kd.R_alloc | apply Kd.R_drewN | apply Kd.R_drew)); exact HO272.out) hb)
    have n5_ := Aside0.mk (blk_below (g := gb239) (o := .cells #[.int .i64 a0_0, .slice A0_1 l0_1.length c0_1] 24 (0, 0)) (by (with_reducible repeat (first | refine blk_drewN ?_ _ | refine blk_drew ?_ | refine blk_alloc ?_ _)); exact BK239.out) hb)
    have n6_ := Aside0.mk (blk_below (g := gb253) (o := .cells #[.int .i64 t248, .slice Ao29 t249.length co29] 26 (0, 0)) (by (with_reducible repeat (first | refine blk_drewN ?_ _ | refine blk_drew ?_ | refine blk_alloc ?_ _)); exact BK253.out) hb)
    have n7_ := Aside0.mk (blk_below (g := gb258) (o := .cells #[.int .i64 t254, .slice Ao36 t255.length co36] 26 (0, 0)) (by (with_reducible repeat (first | refine blk_drewN ?_ _ | refine blk_drew ?_ | refine blk_alloc ?_ _)); exact BK258.out) hb)
    have n8_ := Aside0.mk (blk_below (g := gb267) (o := .cells #[.int .i64 t262, .slice Ao46 t263.length co46] 26 (0, 0)) (by (with_reducible repeat (first | refine blk_drewN ?_ _ | refine blk_drew ?_ | refine blk_alloc ?_ _)); exact BK267.out) hb)
    have n9_ := Aside0.mk (below_step (by repeat (first | (with_reducible first | exact HB.out | apply below_alloc | apply pw_below_drewN | apply below_drew1 | refine below_set ?_ GE239.out | refine below_set ?_ GE253.out | refine below_set ?_ GE258.out | refine below_set ?_ GE267.out) | exact HB.out)) hb)
    clear HO_9
    clear HO_254001
    clear HO_259001
    clear HO_268001
    clear HO272
    clear BK239
    clear BK253
    clear BK258
    clear BK267
    clear HB
    have HO_9 := n0_
    have HO_254001 := n1_
    have HO_259001 := n2_
    have HO_268001 := n3_
    have HO272 := n4_
    have BK239 := n5_
    have BK253 := n6_
    have BK258 := n7_
    have BK267 := n8_
    have HB := n9_
    clear n0_ n1_ n2_ n3_ n4_ n5_ n6_ n7_ n8_ n9_
    (try clear hb)
    (try clear hb2)
    (try clear hk)
    (try clear hi)
    refine hK.out _ _ ⟨(blk_cell BK258.out 0).trans rfl, (blk_cell BK258.out 1).trans rfl, (blk_cell BK239.out 0).trans rfl, (blk_cell BK239.out 1).trans rfl⟩ (fun hHeld => ?_)
    clear hK K
    refine norm_ (a' := ?_) ?_ ?_
    rotate_left
    ·show Act.put _ (some 55) _ = _
     simp only [Act.put, List.setIfInBounds_toArray, List.set_cons_zero, List.set_cons_succ, i64_w, i32_w]
     rfl
    refine pure_ (i := 4) (N := some 56) (v := ?_) (a' := ?_) #[true, true, true, true, true] rfl rfl (by kernel_rfl) (fun _ _ _ h => h) (Or.inl ⟨by rfl, ?_⟩) ?_ ?_
    rotate_left
    ·intro w'
     go_simp
     with_reducible rfl
    rotate_left
    ·simp only [Act.put, List.setIfInBounds_toArray, List.set_cons_zero, List.set_cons_succ, i64_w, i32_w]
     rfl
    refine done_ (by kernel_rfl) ?_
    try go_wp2
    go_ret
    exact ⟨by first | rfl | (simp [errW_none, errW_some] <;> rfl) | (simp [*, errW_none, errW_some] <;> rfl), by repeat (first | (with_reducible first | exact HB.out | apply below_alloc | apply pw_below_drewN | apply below_drew1 | refine below_set ?_ GE239.out | refine below_set ?_ GE253.out | refine below_set ?_ GE258.out | refine below_set ?_ GE267.out) | exact HB.out)⟩
end Go.Proofs.YthnjnhdalpcfpaaDoor.XFnExactRenumberGraph
