-- Written by this project's own program (mprint.py, cut3.py) by means of the kit's printer.
import Derived.Test.YthnjnhdalpcfpaaDoorXFnExactRenumberGraphx0
import Derived.Test.YthnjnhdalpcfpaaDoorXFnExactRenumberGraphx1
import Derived.Test.YthnjnhdalpcfpaaDoorXFnExactRenumberGraphx2
import Derived.Test.YthnjnhdalpcfpaaDoorXFnExactRenumberGraphx3
import Derived.Test.YthnjnhdalpcfpaaDoorXFnExactRenumberGraphx4
import Derived.Test.YthnjnhdalpcfpaaDoorXFnExactRenumberGraphx5
import Derived.Test.YthnjnhdalpcfpaaDoorXFnExactRenumberGraphx6
import Derived.Test.YthnjnhdalpcfpaaDoorXFnExactRenumberGraphx7
import Derived.Test.YthnjnhdalpcfpaaDoorXFnExactRenumberGraphx8
import Derived.Test.YthnjnhdalpcfpaaDoorXFnExactRenumberGraphx9
import Derived.Test.YthnjnhdalpcfpaaDoorXFnExactRenumberGraphx10
import Derived.Test.YthnjnhdalpcfpaaDoorXFnExactRenumberGraphx11
namespace Go.Proofs.YthnjnhdalpcfpaaDoor.XFnExactRenumberGraph
open Go.RowKit Go.Proofs.YthnjnhdalpcfpaaDoorW.PrintWords Go.Proofs.YthnjnhdalpcfpaaDoorW.PrintLast Go.Proofs.YthnjnhdalpcfpaaDoorW.PrintMore
attribute [local go_sem] max2_int min2_int max_two min_two max_three min_three max_four min_four
set_option linter.unusedVariables false
set_option linter.unusedSimpArgs false
set_option maxHeartbeats 8000000 in
set_option maxRecDepth 100000 in
theorem laws_FnExactRenumberGraph.calls.part2 : laws_FnExactRenumberGraph.calls.cut1.1 := by
 intro k a0_0 A0_1 c0_1 l0_1 A1 c1 l1 r w hu24 hu26 HR0_1 HC0_1 HR1 HC1 HT t240 A5 t241 t242 A10 t245 A11 t248 t249 t252 A12 t254 t255 A13 t259 A14 t262 t263 t266 A15 q0_1_ gb239 w17 GW239 GE239 w19 w21 w22 Ao23 co23 Ao24 co24 w25 gb253 w26 GW253 GE253 NB239_253 NB253_239 hnb27 hnc27 Ao29 co29 w31 gb258 w32 GW258 GE258 NB239_258 NB258_239 NB253_258 NB258_253 hnb33 hnc33 hnb34 hnc34 Ao36 co36 w37 Ao39 co39 w40 gb267 w41 q0_2_ q0_3_ q0_4_ q0_5_ q0_6_ GW267 GE267 NB239_267 NB267_239 NB253_267 NB267_253 NB258_267 NB267_258 hnb42 hnc42 hnb43 hnc43 hnb44 hnc44 Ao46 co46 HO244 HO247 HO251 HO257 HO261 HO265 q1_1_ q1_2_ q1_3_ q1_4_ q1_5_ q1_6_ q1_7_ q1_8_ q1_9_ q1_10_ q1_11_ q1_12_ q1_13_ q1_14_ q1_15_ q1_16_ q1_17_ q1_18_ q1_19_ q1_20_ q1_21_ q1_22_ q1_23_ q1_24_ q1_25_ q1_26_ q1_27_ q1_28_ q1_29_ q1_30_ q1_31_ q1_32_ q1_33_ q1_34_ q1_35_ q1_36_ q1_37_ q1_38_ q1_39_ q1_40_ q1_41_ q1_42_ q1_43_ q1_44_ q1_45_ q1_46_ q1_47_ q1_48_ q1_49_ q1_50_ q1_51_ q1_52_ q1_53_ q1_54_ q1_55_ q1_56_ q1_57_ q1_58_ q1_59_ q1_60_ q1_61_ q1_62_ q1_63_ u80 q1_64_ q1_65_ q1_66_ q1_67_ q1_68_ q1_69_ q1_70_ q1_71_ q1_72_ q1_73_ q1_74_ q1_75_ q1_76_ q1_77_ q1_78_ q1_79_ q1_80_ q1_81_ q1_82_ q1_83_ q1_84_ q1_85_ q1_86_ q1_87_ q1_88_ q1_89_ q1_90_ q1_91_ q1_92_ q1_93_ q1_94_ q1_95_ q1_96_ q1_97_ q1_98_ q1_99_ kj15 HJ15 t269 t270 A66 A67 t274 A69 A70 t278 t279 A72 t280 t281 A73 w75 q1_100_ w76 Ao77 co77 q1_101_ w78 hHeld w79 Ao80 co80 nd hnb81 hnc81 hnb82 hnc82 hnb83 hnc83 w85 w86 HO_9 q1_102_ q1_103_ q1_104_ q1_105_ q1_106_ q1_107_ q1_108_ HO272 HO276 q1_109_ q1_110_ q1_111_ q1_112_ q1_113_ wc u17 u18 u19 u20 u21 u22 u23 u24 u25 u26 u27 u28 u29 u30 u31 u32 u33 u34 u35 u36 u37 u38 u39 u40 u41 u42 u43 u44 u45 u46 u47 u48 u49 u50 u51 u52 u53 u54 u55 u56 u57 u58 u59 u60 u61 u62 u63 u64 u65 u66 u67 u68 u69 u70 u71 u72 u73 u74 u75 u76 u77 u78 u79 u81 u82 u83 u84 u85 u86 u87 u88 u89 u90 u91 u92 u93 u94 u95 u96 u97 u98 u99 u100 u101 u102 u103 u104 u105 u106 u107 u108 u109 u110 u111 u112 u113 u114 u115 u116 x80_73 HO_259001 BK239 BK253 BK267 HB hl259001_73 BK258 HO_254001 HO_268001 kj73 HA HJ73
 have H := HA.out
 clear HA
 simp only [laws_FnExactRenumberGraph.j1] at H
 by_cases c106 : x80_73 = true
 ·subst c106
  have H1 : (some false) = some r := by rw [if_pos rfl] at H; exact H
  clear H
  have H := H1
  clear H1
  obtain rfl := Option.some.inj H
  go_wp2
  go_ret
  exact ⟨by first | rfl | (simp [errW_none, errW_some] <;> rfl) | (simp [*, errW_none, errW_some] <;> rfl), by repeat (first | (with_reducible first | exact HB.out | apply below_alloc | apply pw_below_drewN | apply below_drew1 | refine below_set ?_ GE239.out | refine below_set ?_ GE253.out | refine below_set ?_ GE258.out | refine below_set ?_ GE267.out) | exact HB.out)⟩
 ·replace c106 := Bool.eq_false_iff.mpr c106
  subst c106
  have H1 : ((laws_markGraph.f kj73 t262 t263 1).bind fun bt283 => ((laws_heldGraph.f kj73 t262 bt283.2 1).bind fun t285 => (if t285 < 0 then (some false) else (if t285 = bt283.1 then ((laws_toGraph.f kj73 a0_0 l0_1).bind fun bt286 => ((laws_toInt64S.f kj73 l1).bind fun t290 => ((impl_RenumberGraph.f kj73 bt286.1 bt286.2 t290).bind fun bt293 => ((laws_eqGraph.f kj73 bt293.1 bt293.2.1 t248 t249).bind fun t299 => (if t299 = true then (laws_FnExactRenumberGraph.j2 kj73 bt283.1 (bt293.2.2 != t252) t262 bt283.2) else (laws_FnExactRenumberGraph.j2 kj73 bt283.1 true t262 bt283.2)))))) else (some false))))) = some r := by rw [if_neg (show ¬ (false = true) by decide)] at H; exact H
  clear H
  have H := H1
  clear H1
  replace H := Option.bind_eq_some_iff.mp H
  obtain ⟨⟨t283, t284⟩, A1070, H⟩ := H
  replace H : ((laws_heldGraph.f kj73 t262 t284 1).bind fun t285 => (if t285 < 0 then (some false) else (if t285 = t283 then ((laws_toGraph.f kj73 a0_0 l0_1).bind fun bt286 => ((laws_toInt64S.f kj73 l1).bind fun t290 => ((impl_RenumberGraph.f kj73 bt286.1 bt286.2 t290).bind fun bt293 => ((laws_eqGraph.f kj73 bt293.1 bt293.2.1 t248 t249).bind fun t299 => (if t299 = true then (laws_FnExactRenumberGraph.j2 kj73 t283 (bt293.2.2 != t252) t262 t284) else (laws_FnExactRenumberGraph.j2 kj73 t283 true t262 t284)))))) else (some false)))) = some r := H
  have A107 := Aside0.mk A1070
  clear A1070
  replace H := Option.bind_eq_some_iff.mp H
  obtain ⟨t285, A1080, H⟩ := H
  replace H : (if t285 < 0 then (some false) else (if t285 = t283 then ((laws_toGraph.f kj73 a0_0 l0_1).bind fun bt286 => ((laws_toInt64S.f kj73 l1).bind fun t290 => ((impl_RenumberGraph.f kj73 bt286.1 bt286.2 t290).bind fun bt293 => ((laws_eqGraph.f kj73 bt293.1 bt293.2.1 t248 t249).bind fun t299 => (if t299 = true then (laws_FnExactRenumberGraph.j2 kj73 t283 (bt293.2.2 != t252) t262 t284) else (laws_FnExactRenumberGraph.j2 kj73 t283 true t262 t284)))))) else (some false))) = some r := H
  have A108 := Aside0.mk A1080
  clear A1080
  by_cases c109 : t285 < 0
  ·rw [if_pos c109] at H
   have c109b0 : decide (t285 < 0) = true := decide_eq_true c109
   clear c109
   obtain rfl := Option.some.inj H
   have hnb110 := NB267_239.out
   have hnc110 := NB239_267.out
   have hnb111 := NB267_253.out
   have hnc111 := NB253_267.out
   have hnb112 := NB267_258.out
   have hnc112 := NB258_267.out
   have hcz113_0 : wc.cell? ⟨gb267, 0, none⟩ = some (.int .i64 t262) := (blk_cell BK267.out 0).trans rfl
   have hcz113_1 : wc.cell? ⟨gb267, 1, none⟩ = some (.slice Ao46 t263.length co46) := (blk_cell BK267.out 1).trans rfl
   have hfz113_0 := blk_frozen BK267.out 0
   have hfz113_1 := blk_frozen BK267.out 1
   go_wp2_with (first | ((with_reducible refine gate_callee (f := 14) rfl ?_); refine goesL_ (some 83) rfl rfl Tryd.func14 (by kernel_rfl) rfl #[.agg #[.int .i64 t262, .slice Ao46 t263.length co46], .int .i64 1] rfl (by (try simp only [List.map_toArray, List.map_cons, List.map_nil]); first | done | rfl | (simp only [List.length_drop, List.length_take]; rfl)) ?_; (with_reducible refine (laws_markGraph.calls kj73 t262 (fun k_ => some k_ = (.slice Ao46 t263.length co46 : Value).ownBlock) (.slice Ao46 t263.length co46) t263 1 t283 t284 w _ ?side1 ?side2 A107.out).mono ?_); (case side1 => repeat (first | (with_reducible first | exact HB.out | apply below_alloc | apply pw_below_drewN | apply below_drew1 | refine below_set ?_ GE239.out | refine below_set ?_ GE253.out | refine below_set ?_ GE258.out | refine below_set ?_ GE267.out) | exact HB.out)); (case side2 => exact Kd.R_tight rfl HO_268001.out); rintro e w114 ⟨rfl, hy0, hb, hkp⟩; refine ⟨_, rfl, ?_⟩; have n0_ := Aside0.mk (Kd.R_mono (ok' := fun k_ => some k_ ≠ (.slice Ao36 t279.length co36 : Value).ownBlock ∧ some k_ ≠ (.slice Ao46 t263.length co46 : Value).ownBlock) (Kd.R_keptB (HO_254001.out) hkp (fun k_ hk_ hs_ => (hk_.2) hs_)) (fun k_ hk_ => ⟨hk_.1.1, hk_.1.2⟩)); have n1_ := Aside0.mk (Kd.R_mono (ok' := fun k_ => some k_ ≠ (.slice Ao29 t249.length co29 : Value).ownBlock ∧ some k_ ≠ (.slice Ao46 t263.length co46 : Value).ownBlock) (Kd.R_keptB (HO_259001.out) hkp (fun k_ hk_ hs_ => (hk_.2) hs_)) (fun k_ hk_ => ⟨hk_.1.1, hk_.1.2⟩)); have n2_ := Aside0.mk (Kd.R_reok rfl hy0 (fun k_ e_ => HO_268001.out.1 k_ e_)); have n3_ := Aside0.mk (blk_kept (by (with_reducible repeat (first | refine blk_drewN ?_ _ | refine blk_drew ?_ | refine blk_alloc ?_ _)); exact BK239.out) hkp (fun hs_ => (fun e_ => (Kd.R_ne HO_268001.out BK239.out (by decide)) e_) hs_)); have n4_ := Aside0.mk (blk_kept (by (with_reducible repeat (first | refine blk_drewN ?_ _ | refine blk_drew ?_ | refine blk_alloc ?_ _)); exact BK253.out) hkp (fun hs_ => (fun e_ => (Kd.R_ne HO_268001.out BK253.out (by decide)) e_) hs_)); have n5_ := Aside0.mk (blk_kept (by (with_reducible repeat (first | refine blk_drewN ?_ _ | refine blk_drew ?_ | refine blk_alloc ?_ _)); exact BK258.out) hkp (fun hs_ => (fun e_ => (Kd.R_ne HO_268001.out BK258.out (by decide)) e_) hs_)); have n6_ := Aside0.mk (blk_kept (by (with_reducible repeat (first | refine blk_drewN ?_ _ | refine blk_drew ?_ | refine blk_alloc ?_ _)); exact BK267.out) hkp (fun hs_ => (fun e_ => (Kd.R_ne HO_268001.out BK267.out (by decide)) e_) hs_)); have n7_ := Aside0.mk (hb); clear HO_254001; clear HO_259001; clear HO_268001; clear BK239; clear BK253; clear BK258; clear BK267; clear HB; have HO_254001 := n0_; have HO_259001 := n1_; have HO_268001 := n2_; have BK239 := n3_; have BK253 := n4_; have BK258 := n5_; have BK267 := n6_; have HB := n7_; clear n0_ n1_ n2_ n3_ n4_ n5_ n6_ n7_; (try clear hb); (try clear hkp); (try clear hy0); have hcz115_0 : w114.cell? ⟨gb267, 0, none⟩ = some (.int .i64 t262) := (blk_cell BK267.out 0).trans rfl; have hcz115_1 : w114.cell? ⟨gb267, 1, none⟩ = some (.slice Ao46 t263.length co46) := (blk_cell BK267.out 1).trans rfl; have hfz115_0 := blk_frozen BK267.out 0; have hfz115_1 := blk_frozen BK267.out 1) | ((with_reducible refine gate_callee (f := 16) rfl ?_); refine goesL_ (some 86) rfl rfl Tryd.func16 (by kernel_rfl) rfl #[.agg #[.int .i64 t262, .slice Ao46 t284.length co46], .int .i64 1] rfl (by (try simp only [List.map_toArray, List.map_cons, List.map_nil]); first | done | (rw [show t284.length = t263.length from (Kd.R_reads' HO_268001.out).1.symm] <;> rfl) | rfl | (simp only [List.length_drop, List.length_take]; rfl)) ?_; (with_reducible refine (laws_heldGraph.calls kj73 t262 _ _ t284 1 t285 _ ?side1 ?side2 A108.out).mono ?_); (case side1 => repeat (first | exact (Kd.R_reads' HO_268001.out).2.2 | (with_reducible refine Kd.C_alloc ?_ _) | (with_reducible refine Kd.C_drewN ?_ _) | (with_reducible refine Kd.C_drew ?_))); (case side2 => rw [show t284.length = t263.length from (Kd.R_reads' HO_268001.out).1.symm]; exact (Kd.R_reads' HO_268001.out).2.1); rintro e w116 ⟨rfl, hb⟩; refine ⟨_, rfl, ?_⟩; have n0_ := Aside0.mk (Kd.R_below (by (with_reducible repeat (first | apply Kd.R_alloc | apply Kd.R_drewN | apply Kd.R_drew)); exact HO_254001.out) hb); have n1_ := Aside0.mk (Kd.R_below (by (with_reducible repeat (first | apply Kd.R_alloc | apply Kd.R_drewN | apply Kd.R_drew)); exact HO_259001.out) hb); have n2_ := Aside0.mk (Kd.R_below (by (with_reducible repeat (first | apply Kd.R_alloc | apply Kd.R_drewN | apply Kd.R_drew)); exact HO_268001.out) hb); have n3_ := Aside0.mk (blk_below (g := gb239) (o := .cells #[.int .i64 a0_0, .slice A0_1 l0_1.length c0_1] 24 (0, 0)) (by (with_reducible repeat (first | refine blk_drewN ?_ _ | refine blk_drew ?_ | refine blk_alloc ?_ _)); exact BK239.out) hb); have n4_ := Aside0.mk (blk_below (g := gb253) (o := .cells #[.int .i64 t248, .slice Ao29 t249.length co29] 26 (0, 0)) (by (with_reducible repeat (first | refine blk_drewN ?_ _ | refine blk_drew ?_ | refine blk_alloc ?_ _)); exact BK253.out) hb); have n5_ := Aside0.mk (blk_below (g := gb258) (o := .cells #[.int .i64 t254, .slice Ao36 t279.length co36] 26 (0, 0)) (by (with_reducible repeat (first | refine blk_drewN ?_ _ | refine blk_drew ?_ | refine blk_alloc ?_ _)); exact BK258.out) hb); have n6_ := Aside0.mk (blk_below (g := gb267) (o := .cells #[.int .i64 t262, .slice Ao46 t263.length co46] 26 (0, 0)) (by (with_reducible repeat (first | refine blk_drewN ?_ _ | refine blk_drew ?_ | refine blk_alloc ?_ _)); exact BK267.out) hb); have n7_ := Aside0.mk (below_step (by repeat (first | (with_reducible first | exact HB.out | apply below_alloc | apply pw_below_drewN | apply below_drew1 | refine below_set ?_ GE239.out | refine below_set ?_ GE253.out | refine below_set ?_ GE258.out | refine below_set ?_ GE267.out) | exact HB.out)) hb); clear HO_254001; clear HO_259001; clear HO_268001; clear BK239; clear BK253; clear BK258; clear BK267; clear HB; have HO_254001 := n0_; have HO_259001 := n1_; have HO_268001 := n2_; have BK239 := n3_; have BK253 := n4_; have BK258 := n5_; have BK267 := n6_; have HB := n7_; clear n0_ n1_ n2_ n3_ n4_ n5_ n6_ n7_; (try clear hb); (try clear hb2); (try clear hk); (try clear hi)))
   go_ret
   exact ⟨by first | rfl | (simp [errW_none, errW_some] <;> rfl) | (simp [*, errW_none, errW_some] <;> rfl), by repeat (first | (with_reducible first | exact HB.out | apply below_alloc | apply pw_below_drewN | apply below_drew1 | refine below_set ?_ GE239.out | refine below_set ?_ GE253.out | refine below_set ?_ GE258.out | refine below_set ?_ GE267.out) | exact HB.out)⟩
  ·rw [if_neg c109] at H
   have c109b0 : decide (t285 < 0) = false := decide_eq_false c109
   clear c109
   by_cases c117 : t285 = t283
   ·rw [if_pos c117] at H
    have c117b0 : (t285 == t283) = true := beq_iff_eq.mpr c117
    have c117b1 : (t285 != t283) = false := bne_eq_false_iff_eq.mpr c117
    clear c117
    replace H := Option.bind_eq_some_iff.mp H
    obtain ⟨⟨t286, t287⟩, A1180, H⟩ := H
    replace H : ((laws_toInt64S.f kj73 l1).bind fun t290 => ((impl_RenumberGraph.f kj73 t286 t287 t290).bind fun bt293 => ((laws_eqGraph.f kj73 bt293.1 bt293.2.1 t248 t249).bind fun t299 => (if t299 = true then (laws_FnExactRenumberGraph.j2 kj73 t283 (bt293.2.2 != t252) t262 t284) else (laws_FnExactRenumberGraph.j2 kj73 t283 true t262 t284))))) = some r := H
    have A118 := Aside0.mk A1180
    clear A1180
    replace H := Option.bind_eq_some_iff.mp H
    obtain ⟨t290, A1190, H⟩ := H
    replace H : ((impl_RenumberGraph.f kj73 t286 t287 t290).bind fun bt293 => ((laws_eqGraph.f kj73 bt293.1 bt293.2.1 t248 t249).bind fun t299 => (if t299 = true then (laws_FnExactRenumberGraph.j2 kj73 t283 (bt293.2.2 != t252) t262 t284) else (laws_FnExactRenumberGraph.j2 kj73 t283 true t262 t284)))) = some r := H
    have A119 := Aside0.mk A1190
    clear A1190
    replace H := Option.bind_eq_some_iff.mp H
    obtain ⟨⟨t293, t294, t297⟩, A1200, H⟩ := H
    replace H : ((laws_eqGraph.f kj73 t293 t294 t248 t249).bind fun t299 => (if t299 = true then (laws_FnExactRenumberGraph.j2 kj73 t283 (t297 != t252) t262 t284) else (laws_FnExactRenumberGraph.j2 kj73 t283 true t262 t284))) = some r := H
    have A120 := Aside0.mk A1200
    clear A1200
    have HC121 := Aside0.mk H
    clear H
    have hnb122 := NB267_239.out
    have hnc122 := NB239_267.out
    have hnb123 := NB267_253.out
    have hnc123 := NB253_267.out
    have hnb124 := NB267_258.out
    have hnc124 := NB258_267.out
    have hcz125_0 : wc.cell? ⟨gb267, 0, none⟩ = some (.int .i64 t262) := (blk_cell BK267.out 0).trans rfl
    have hcz125_1 : wc.cell? ⟨gb267, 1, none⟩ = some (.slice Ao46 t263.length co46) := (blk_cell BK267.out 1).trans rfl
    have hfz125_0 := blk_frozen BK267.out 0
    have hfz125_1 := blk_frozen BK267.out 1
    go_upto_region 31 with (first | ((with_reducible refine gate_callee (f := 14) rfl ?_); refine goesL_ (some 83) rfl rfl Tryd.func14 (by kernel_rfl) rfl #[.agg #[.int .i64 t262, .slice Ao46 t263.length co46], .int .i64 1] rfl (by (try simp only [List.map_toArray, List.map_cons, List.map_nil]); first | done | rfl | (simp only [List.length_drop, List.length_take]; rfl)) ?_; (with_reducible refine (laws_markGraph.calls kj73 t262 (fun k_ => some k_ = (.slice Ao46 t263.length co46 : Value).ownBlock) (.slice Ao46 t263.length co46) t263 1 t283 t284 w _ ?side1 ?side2 A107.out).mono ?_); (case side1 => repeat (first | (with_reducible first | exact HB.out | apply below_alloc | apply pw_below_drewN | apply below_drew1 | refine below_set ?_ GE239.out | refine below_set ?_ GE253.out | refine below_set ?_ GE258.out | refine below_set ?_ GE267.out) | exact HB.out)); (case side2 => exact Kd.R_tight rfl HO_268001.out); rintro e w126 ⟨rfl, hy0, hb, hkp⟩; refine ⟨_, rfl, ?_⟩; have n0_ := Aside0.mk (Kd.R_mono (ok' := fun k_ => some k_ ≠ (.slice Ao36 t279.length co36 : Value).ownBlock ∧ some k_ ≠ (.slice Ao46 t263.length co46 : Value).ownBlock) (Kd.R_keptB (HO_254001.out) hkp (fun k_ hk_ hs_ => (hk_.2) hs_)) (fun k_ hk_ => ⟨hk_.1.1, hk_.1.2⟩)); have n1_ := Aside0.mk (Kd.R_mono (ok' := fun k_ => some k_ ≠ (.slice Ao29 t249.length co29 : Value).ownBlock ∧ some k_ ≠ (.slice Ao46 t263.length co46 : Value).ownBlock) (Kd.R_keptB (HO_259001.out) hkp (fun k_ hk_ hs_ => (hk_.2) hs_)) (fun k_ hk_ => ⟨hk_.1.1, hk_.1.2⟩)); have n2_ := Aside0.mk (Kd.R_reok rfl hy0 (fun k_ e_ => HO_268001.out.1 k_ e_)); have n3_ := Aside0.mk (blk_kept (by (with_reducible repeat (first | refine blk_drewN ?_ _ | refine blk_drew ?_ | refine blk_alloc ?_ _)); exact BK239.out) hkp (fun hs_ => (fun e_ => (Kd.R_ne HO_268001.out BK239.out (by decide)) e_) hs_)); have n4_ := Aside0.mk (blk_kept (by (with_reducible repeat (first | refine blk_drewN ?_ _ | refine blk_drew ?_ | refine blk_alloc ?_ _)); exact BK253.out) hkp (fun hs_ => (fun e_ => (Kd.R_ne HO_268001.out BK253.out (by decide)) e_) hs_)); have n5_ := Aside0.mk (blk_kept (by (with_reducible repeat (first | refine blk_drewN ?_ _ | refine blk_drew ?_ | refine blk_alloc ?_ _)); exact BK258.out) hkp (fun hs_ => (fun e_ => (Kd.R_ne HO_268001.out BK258.out (by decide)) e_) hs_)); have n6_ := Aside0.mk (blk_kept (by (with_reducible repeat (first | refine blk_drewN ?_ _ | refine blk_drew ?_ | refine blk_alloc ?_ _)); exact BK267.out) hkp (fun hs_ => (fun e_ => (Kd.R_ne HO_268001.out BK267.out (by decide)) e_) hs_)); have n7_ := Aside0.mk (hb); clear HO_254001; clear HO_259001; clear HO_268001; clear BK239; clear BK253; clear BK258; clear BK267; clear HB; have HO_254001 := n0_; have HO_259001 := n1_; have HO_268001 := n2_; have BK239 := n3_; have BK253 := n4_; have BK258 := n5_; have BK267 := n6_; have HB := n7_; clear n0_ n1_ n2_ n3_ n4_ n5_ n6_ n7_; (try clear hb); (try clear hkp); (try clear hy0); have hcz127_0 : w126.cell? ⟨gb267, 0, none⟩ = some (.int .i64 t262) := (blk_cell BK267.out 0).trans rfl; have hcz127_1 : w126.cell? ⟨gb267, 1, none⟩ = some (.slice Ao46 t263.length co46) := (blk_cell BK267.out 1).trans rfl; have hfz127_0 := blk_frozen BK267.out 0; have hfz127_1 := blk_frozen BK267.out 1) | ((with_reducible refine gate_callee (f := 16) rfl ?_); refine goesL_ (some 86) rfl rfl Tryd.func16 (by kernel_rfl) rfl #[.agg #[.int .i64 t262, .slice Ao46 t284.length co46], .int .i64 1] rfl (by (try simp only [List.map_toArray, List.map_cons, List.map_nil]); first | done | (rw [show t284.length = t263.length from (Kd.R_reads' HO_268001.out).1.symm] <;> rfl) | rfl | (simp only [List.length_drop, List.length_take]; rfl)) ?_; (with_reducible refine (laws_heldGraph.calls kj73 t262 _ _ t284 1 t285 _ ?side1 ?side2 A108.out).mono ?_); (case side1 => repeat (first | exact (Kd.R_reads' HO_268001.out).2.2 | (with_reducible refine Kd.C_alloc ?_ _) | (with_reducible refine Kd.C_drewN ?_ _) | (with_reducible refine Kd.C_drew ?_))); (case side2 => rw [show t284.length = t263.length from (Kd.R_reads' HO_268001.out).1.symm]; exact (Kd.R_reads' HO_268001.out).2.1); rintro e w128 ⟨rfl, hb⟩; refine ⟨_, rfl, ?_⟩; have n0_ := Aside0.mk (Kd.R_below (by (with_reducible repeat (first | apply Kd.R_alloc | apply Kd.R_drewN | apply Kd.R_drew)); exact HO_254001.out) hb); have n1_ := Aside0.mk (Kd.R_below (by (with_reducible repeat (first | apply Kd.R_alloc | apply Kd.R_drewN | apply Kd.R_drew)); exact HO_259001.out) hb); have n2_ := Aside0.mk (Kd.R_below (by (with_reducible repeat (first | apply Kd.R_alloc | apply Kd.R_drewN | apply Kd.R_drew)); exact HO_268001.out) hb); have n3_ := Aside0.mk (blk_below (g := gb239) (o := .cells #[.int .i64 a0_0, .slice A0_1 l0_1.length c0_1] 24 (0, 0)) (by (with_reducible repeat (first | refine blk_drewN ?_ _ | refine blk_drew ?_ | refine blk_alloc ?_ _)); exact BK239.out) hb); have n4_ := Aside0.mk (blk_below (g := gb253) (o := .cells #[.int .i64 t248, .slice Ao29 t249.length co29] 26 (0, 0)) (by (with_reducible repeat (first | refine blk_drewN ?_ _ | refine blk_drew ?_ | refine blk_alloc ?_ _)); exact BK253.out) hb); have n5_ := Aside0.mk (blk_below (g := gb258) (o := .cells #[.int .i64 t254, .slice Ao36 t279.length co36] 26 (0, 0)) (by (with_reducible repeat (first | refine blk_drewN ?_ _ | refine blk_drew ?_ | refine blk_alloc ?_ _)); exact BK258.out) hb); have n6_ := Aside0.mk (blk_below (g := gb267) (o := .cells #[.int .i64 t262, .slice Ao46 t263.length co46] 26 (0, 0)) (by (with_reducible repeat (first | refine blk_drewN ?_ _ | refine blk_drew ?_ | refine blk_alloc ?_ _)); exact BK267.out) hb); have n7_ := Aside0.mk (below_step (by repeat (first | (with_reducible first | exact HB.out | apply below_alloc | apply pw_below_drewN | apply below_drew1 | refine below_set ?_ GE239.out | refine below_set ?_ GE253.out | refine below_set ?_ GE258.out | refine below_set ?_ GE267.out) | exact HB.out)) hb); clear HO_254001; clear HO_259001; clear HO_268001; clear BK239; clear BK253; clear BK258; clear BK267; clear HB; have HO_254001 := n0_; have HO_259001 := n1_; have HO_268001 := n2_; have BK239 := n3_; have BK253 := n4_; have BK258 := n5_; have BK267 := n6_; have HB := n7_; clear n0_ n1_ n2_ n3_ n4_ n5_ n6_ n7_; (try clear hb); (try clear hb2); (try clear hk); (try clear hi); have hnb129 := NB239_253.out; have hnc129 := NB253_239.out; have hnb130 := NB239_258.out; have hnc130 := NB258_239.out; have hcz131_0 : w128.cell? ⟨gb239, 0, none⟩ = some (.int .i64 a0_0) := (blk_cell BK239.out 0).trans rfl; have hcz131_1 : w128.cell? ⟨gb239, 1, none⟩ = some (.slice A0_1 l0_1.length c0_1) := (blk_cell BK239.out 1).trans rfl; have hfz131_0 := blk_frozen BK239.out 0; have hfz131_1 := blk_frozen BK239.out 1) | ((with_reducible refine gate_callee (f := 9) rfl ?_); refine goesL_ (some 94) rfl rfl Tryd.func9 (by kernel_rfl) rfl #[.agg #[.int .i64 a0_0, .slice A0_1 l0_1.length c0_1]] rfl (by (try simp only [List.map_toArray, List.map_cons, List.map_nil]); first | done | rfl | (simp only [List.length_drop, List.length_take]; rfl)) ?_; (with_reducible refine (laws_toGraph.calls kj73 a0_0 _ _ l0_1 t286 t287 _ ?side1 ?side2 A118.out).mono ?_); (case side1 => repeat (first | exact (Kd.C_below HR0_1.out HB.out) | (with_reducible refine Kd.C_alloc ?_ _) | (with_reducible refine Kd.C_drewN ?_ _) | (with_reducible refine Kd.C_drew ?_))); (case side2 => exact HC0_1.out); rintro e w132 ⟨v288, rfl, ho0, hb⟩; refine ⟨_, rfl, ?_⟩; have n0_ := Aside0.mk (Kd.R_elder' (by (with_reducible repeat (first | apply Kd.R_alloc | apply Kd.R_drewN | apply Kd.R_drew)); exact HO_254001.out) (Kd.R_base ho0) hb); have n1_ := Aside0.mk (Kd.R_elder' (by (with_reducible repeat (first | apply Kd.R_alloc | apply Kd.R_drewN | apply Kd.R_drew)); exact HO_259001.out) (Kd.R_base ho0) hb); have n2_ := Aside0.mk (Kd.R_elder' (by (with_reducible repeat (first | apply Kd.R_alloc | apply Kd.R_drewN | apply Kd.R_drew)); exact HO_268001.out) (Kd.R_base ho0) hb); have n3_ := Aside0.mk (Kd.R_lower (Kd.R_new' (Kd.R_new' (Kd.R_new' ho0 (Kd.R_lt (by (with_reducible repeat (first | apply Kd.R_alloc | apply Kd.R_drewN | apply Kd.R_drew)); exact HO_254001.out))) (Kd.R_lt (by (with_reducible repeat (first | apply Kd.R_alloc | apply Kd.R_drewN | apply Kd.R_drew)); exact HO_259001.out))) (Kd.R_lt (by (with_reducible repeat (first | apply Kd.R_alloc | apply Kd.R_drewN | apply Kd.R_drew)); exact HO_268001.out))) (below_size (by repeat (first | (with_reducible first | exact HB.out | apply below_alloc | apply pw_below_drewN | apply below_drew1 | refine below_set ?_ GE239.out | refine below_set ?_ GE253.out | refine below_set ?_ GE258.out | refine below_set ?_ GE267.out) | exact HB.out)))); have n4_ := Aside0.mk (blk_below (g := gb239) (o := .cells #[.int .i64 a0_0, .slice A0_1 l0_1.length c0_1] 24 (0, 0)) (by (with_reducible repeat (first | refine blk_drewN ?_ _ | refine blk_drew ?_ | refine blk_alloc ?_ _)); exact BK239.out) hb); have n5_ := Aside0.mk (blk_below (g := gb253) (o := .cells #[.int .i64 t248, .slice Ao29 t249.length co29] 26 (0, 0)) (by (with_reducible repeat (first | refine blk_drewN ?_ _ | refine blk_drew ?_ | refine blk_alloc ?_ _)); exact BK253.out) hb); have n6_ := Aside0.mk (blk_below (g := gb258) (o := .cells #[.int .i64 t254, .slice Ao36 t279.length co36] 26 (0, 0)) (by (with_reducible repeat (first | refine blk_drewN ?_ _ | refine blk_drew ?_ | refine blk_alloc ?_ _)); exact BK258.out) hb); have n7_ := Aside0.mk (blk_below (g := gb267) (o := .cells #[.int .i64 t262, .slice Ao46 t263.length co46] 26 (0, 0)) (by (with_reducible repeat (first | refine blk_drewN ?_ _ | refine blk_drew ?_ | refine blk_alloc ?_ _)); exact BK267.out) hb); have n8_ := Aside0.mk (below_step (by repeat (first | (with_reducible first | exact HB.out | apply below_alloc | apply pw_below_drewN | apply below_drew1 | refine below_set ?_ GE239.out | refine below_set ?_ GE253.out | refine below_set ?_ GE258.out | refine below_set ?_ GE267.out) | exact HB.out)) hb); clear HO_254001; clear HO_259001; clear HO_268001; clear BK239; clear BK253; clear BK258; clear BK267; clear HB; have HO_254001 := n0_; have HO_259001 := n1_; have HO_268001 := n2_; have HO289 := n3_; have BK239 := n4_; have BK253 := n5_; have BK258 := n6_; have BK267 := n7_; have HB := n8_; clear n0_ n1_ n2_ n3_ n4_ n5_ n6_ n7_ n8_; (try clear hb); (try clear hb2); (try clear hk); (try clear hi); (try clear ho0)) | ((with_reducible refine gate_callee (f := 10) rfl ?_); refine goesL_ (some 96) rfl rfl Tryd.func10 (by kernel_rfl) rfl #[.slice A1 l1.length c1] rfl (by (try simp only [List.map_toArray, List.map_cons, List.map_nil]); first | done | rfl | (simp only [List.length_drop, List.length_take]; rfl)) ?_; (with_reducible refine (laws_toInt64S.calls kj73 _ _ l1 t290 _ ?side1 ?side2 A119.out).mono ?_); (case side1 => repeat (first | exact (Kd.C_below HR1.out HB.out) | (with_reducible refine Kd.C_alloc ?_ _) | (with_reducible refine Kd.C_drewN ?_ _) | (with_reducible refine Kd.C_drew ?_))); (case side2 => exact HC1.out); rintro e w133 ⟨v291, rfl, ho0, hb⟩; refine ⟨_, rfl, ?_⟩; have n0_ := Aside0.mk (Kd.R_elder' (by (with_reducible repeat (first | apply Kd.R_alloc | apply Kd.R_drewN | apply Kd.R_drew)); exact HO_254001.out) (Kd.R_base ho0) hb); have n1_ := Aside0.mk (Kd.R_elder' (by (with_reducible repeat (first | apply Kd.R_alloc | apply Kd.R_drewN | apply Kd.R_drew)); exact HO_259001.out) (Kd.R_base ho0) hb); have n2_ := Aside0.mk (Kd.R_elder' (by (with_reducible repeat (first | apply Kd.R_alloc | apply Kd.R_drewN | apply Kd.R_drew)); exact HO_268001.out) (Kd.R_base ho0) hb); have n3_ := Aside0.mk (Kd.R_elder' (by (with_reducible repeat (first | apply Kd.R_alloc | apply Kd.R_drewN | apply Kd.R_drew)); exact HO289.out) (Kd.R_base ho0) hb); have n4_ := Aside0.mk (Kd.R_lower (Kd.R_new' (Kd.R_new' (Kd.R_new' (Kd.R_new' ho0 (Kd.R_lt (by (with_reducible repeat (first | apply Kd.R_alloc | apply Kd.R_drewN | apply Kd.R_drew)); exact HO_254001.out))) (Kd.R_lt (by (with_reducible repeat (first | apply Kd.R_alloc | apply Kd.R_drewN | apply Kd.R_drew)); exact HO_259001.out))) (Kd.R_lt (by (with_reducible repeat (first | apply Kd.R_alloc | apply Kd.R_drewN | apply Kd.R_drew)); exact HO_268001.out))) (Kd.R_lt (by (with_reducible repeat (first | apply Kd.R_alloc | apply Kd.R_drewN | apply Kd.R_drew)); exact HO289.out))) (below_size (by repeat (first | (with_reducible first | exact HB.out | apply below_alloc | apply pw_below_drewN | apply below_drew1 | refine below_set ?_ GE239.out | refine below_set ?_ GE253.out | refine below_set ?_ GE258.out | refine below_set ?_ GE267.out) | exact HB.out)))); have n5_ := Aside0.mk (blk_below (g := gb239) (o := .cells #[.int .i64 a0_0, .slice A0_1 l0_1.length c0_1] 24 (0, 0)) (by (with_reducible repeat (first | refine blk_drewN ?_ _ | refine blk_drew ?_ | refine blk_alloc ?_ _)); exact BK239.out) hb); have n6_ := Aside0.mk (blk_below (g := gb253) (o := .cells #[.int .i64 t248, .slice Ao29 t249.length co29] 26 (0, 0)) (by (with_reducible repeat (first | refine blk_drewN ?_ _ | refine blk_drew ?_ | refine blk_alloc ?_ _)); exact BK253.out) hb); have n7_ := Aside0.mk (blk_below (g := gb258) (o := .cells #[.int .i64 t254, .slice Ao36 t279.length co36] 26 (0, 0)) (by (with_reducible repeat (first | refine blk_drewN ?_ _ | refine blk_drew ?_ | refine blk_alloc ?_ _)); exact BK258.out) hb); have n8_ := Aside0.mk (blk_below (g := gb267) (o := .cells #[.int .i64 t262, .slice Ao46 t263.length co46] 26 (0, 0)) (by (with_reducible repeat (first | refine blk_drewN ?_ _ | refine blk_drew ?_ | refine blk_alloc ?_ _)); exact BK267.out) hb); have n9_ := Aside0.mk (below_step (by repeat (first | (with_reducible first | exact HB.out | apply below_alloc | apply pw_below_drewN | apply below_drew1 | refine below_set ?_ GE239.out | refine below_set ?_ GE253.out | refine below_set ?_ GE258.out | refine below_set ?_ GE267.out) | exact HB.out)) hb); clear HO_254001; clear HO_259001; clear HO_268001; clear HO289; clear BK239; clear BK253; clear BK258; clear BK267; clear HB; have HO_254001 := n0_; have HO_259001 := n1_; have HO_268001 := n2_; have HO289 := n3_; have HO292 := n4_; have BK239 := n5_; have BK253 := n6_; have BK258 := n7_; have BK267 := n8_; have HB := n9_; clear n0_ n1_ n2_ n3_ n4_ n5_ n6_ n7_ n8_ n9_; (try clear hb); (try clear hb2); (try clear hk); (try clear hi); (try clear ho0); obtain ⟨Ao134, co134, eo134⟩ := Kd.R_slice HO289.out; subst eo134; obtain ⟨Ao135, co135, eo135⟩ := Kd.R_slice HO292.out; subst eo135) | ((with_reducible refine gate_callee (f := 11) rfl ?_); refine goesL_ (some 97) rfl rfl Tryd.func11 (by kernel_rfl) rfl #[.agg #[.int .i64 t286, .slice Ao134 t287.length co134], .slice Ao135 t290.length co135] rfl (by (try simp only [List.map_toArray, List.map_cons, List.map_nil]); first | done | rfl | (simp only [List.length_drop, List.length_take]; rfl)) ?_; (with_reducible refine (impl_RenumberGraph.calls kj73 t286 _ _ t287 _ _ t290 t293 t294 t297 _ ?side1 ?side2 ?side3 ?side4 ?side5 A120.out).mono ?_); (case side1 => repeat (first | exact (Kd.R_reads' HO289.out).2.2 | (with_reducible refine Kd.C_alloc ?_ _) | (with_reducible refine Kd.C_drewN ?_ _) | (with_reducible refine Kd.C_drew ?_))); (case side2 => exact (Kd.R_reads' HO289.out).2.1); (case side3 => repeat (first | exact (Kd.R_reads' HO292.out).2.2 | (with_reducible refine Kd.C_alloc ?_ _) | (with_reducible refine Kd.C_drewN ?_ _) | (with_reducible refine Kd.C_drew ?_))); (case side4 => exact (Kd.R_reads' HO292.out).2.1); (case side5 => exact Tab.below HT.out (by repeat (first | (with_reducible first | exact HB.out | apply below_alloc | apply pw_below_drewN | apply below_drew1 | refine below_set ?_ GE239.out | refine below_set ?_ GE253.out | refine below_set ?_ GE258.out | refine below_set ?_ GE267.out) | exact HB.out))); rintro e w136 ⟨v295, rfl, ho0, hb⟩; refine ⟨_, rfl, ?_⟩; have n0_ := Aside0.mk (Kd.R_elder' (by (with_reducible repeat (first | apply Kd.R_alloc | apply Kd.R_drewN | apply Kd.R_drew)); exact HO_254001.out) (Kd.R_base ho0) hb); have n1_ := Aside0.mk (Kd.R_elder' (by (with_reducible repeat (first | apply Kd.R_alloc | apply Kd.R_drewN | apply Kd.R_drew)); exact HO_259001.out) (Kd.R_base ho0) hb); have n2_ := Aside0.mk (Kd.R_elder' (by (with_reducible repeat (first | apply Kd.R_alloc | apply Kd.R_drewN | apply Kd.R_drew)); exact HO_268001.out) (Kd.R_base ho0) hb); have n3_ := Aside0.mk (Kd.R_elder' (by (with_reducible repeat (first | apply Kd.R_alloc | apply Kd.R_drewN | apply Kd.R_drew)); exact HO289.out) (Kd.R_base ho0) hb); have n4_ := Aside0.mk (Kd.R_elder' (by (with_reducible repeat (first | apply Kd.R_alloc | apply Kd.R_drewN | apply Kd.R_drew)); exact HO292.out) (Kd.R_base ho0) hb); have n5_ := Aside0.mk (Kd.R_lower (Kd.R_new' (Kd.R_new' (Kd.R_new' (Kd.R_new' (Kd.R_new' ho0 (Kd.R_lt (by (with_reducible repeat (first | apply Kd.R_alloc | apply Kd.R_drewN | apply Kd.R_drew)); exact HO_254001.out))) (Kd.R_lt (by (with_reducible repeat (first | apply Kd.R_alloc | apply Kd.R_drewN | apply Kd.R_drew)); exact HO_259001.out))) (Kd.R_lt (by (with_reducible repeat (first | apply Kd.R_alloc | apply Kd.R_drewN | apply Kd.R_drew)); exact HO_268001.out))) (Kd.R_lt (by (with_reducible repeat (first | apply Kd.R_alloc | apply Kd.R_drewN | apply Kd.R_drew)); exact HO289.out))) (Kd.R_lt (by (with_reducible repeat (first | apply Kd.R_alloc | apply Kd.R_drewN | apply Kd.R_drew)); exact HO292.out))) (below_size (by repeat (first | (with_reducible first | exact HB.out | apply below_alloc | apply pw_below_drewN | apply below_drew1 | refine below_set ?_ GE239.out | refine below_set ?_ GE253.out | refine below_set ?_ GE258.out | refine below_set ?_ GE267.out) | exact HB.out)))); have n6_ := Aside0.mk (blk_below (g := gb239) (o := .cells #[.int .i64 a0_0, .slice A0_1 l0_1.length c0_1] 24 (0, 0)) (by (with_reducible repeat (first | refine blk_drewN ?_ _ | refine blk_drew ?_ | refine blk_alloc ?_ _)); exact BK239.out) hb); have n7_ := Aside0.mk (blk_below (g := gb253) (o := .cells #[.int .i64 t248, .slice Ao29 t249.length co29] 26 (0, 0)) (by (with_reducible repeat (first | refine blk_drewN ?_ _ | refine blk_drew ?_ | refine blk_alloc ?_ _)); exact BK253.out) hb); have n8_ := Aside0.mk (blk_below (g := gb258) (o := .cells #[.int .i64 t254, .slice Ao36 t279.length co36] 26 (0, 0)) (by (with_reducible repeat (first | refine blk_drewN ?_ _ | refine blk_drew ?_ | refine blk_alloc ?_ _)); exact BK258.out) hb); have n9_ := Aside0.mk (blk_below (g := gb267) (o := .cells #[.int .i64 t262, .slice Ao46 t263.length co46] 26 (0, 0)) (by (with_reducible repeat (first | refine blk_drewN ?_ _ | refine blk_drew ?_ | refine blk_alloc ?_ _)); exact BK267.out) hb); have n10_ := Aside0.mk (below_step (by repeat (first | (with_reducible first | exact HB.out | apply below_alloc | apply pw_below_drewN | apply below_drew1 | refine below_set ?_ GE239.out | refine below_set ?_ GE253.out | refine below_set ?_ GE258.out | refine below_set ?_ GE267.out) | exact HB.out)) hb); clear HO_254001; clear HO_259001; clear HO_268001; clear HO289; clear HO292; clear BK239; clear BK253; clear BK258; clear BK267; clear HB; have HO_254001 := n0_; have HO_259001 := n1_; have HO_268001 := n2_; have HO289 := n3_; have HO292 := n4_; have HO296 := n5_; have BK239 := n6_; have BK253 := n7_; have BK258 := n8_; have BK267 := n9_; have HB := n10_; clear n0_ n1_ n2_ n3_ n4_ n5_ n6_ n7_ n8_ n9_ n10_; (try clear hb); (try clear hb2); (try clear hk); (try clear hi); (try clear ho0)) | ((with_reducible refine gate_dst (N := 15) rfl ?_); refine box_event ?hg (N := 15) ?hd (cs := #[.int .i64 0, .slice none 0 0]) (t := 26) ?hr ?_; (case hd => rfl); (case hg => rfl); (case hr => first | (go_simp; done) | (go_simp; rfl)); intro gb298 hg w137 hbox hb; have n0_ := Aside0.mk (Kd.R_below (by (with_reducible repeat (first | apply Kd.R_alloc | apply Kd.R_drewN | apply Kd.R_drew)); exact HO_254001.out) hb); have n1_ := Aside0.mk (Kd.R_below (by (with_reducible repeat (first | apply Kd.R_alloc | apply Kd.R_drewN | apply Kd.R_drew)); exact HO_259001.out) hb); have n2_ := Aside0.mk (Kd.R_below (by (with_reducible repeat (first | apply Kd.R_alloc | apply Kd.R_drewN | apply Kd.R_drew)); exact HO_268001.out) hb); have n3_ := Aside0.mk (Kd.R_below (by (with_reducible repeat (first | apply Kd.R_alloc | apply Kd.R_drewN | apply Kd.R_drew)); exact HO289.out) hb); have n4_ := Aside0.mk (Kd.R_below (by (with_reducible repeat (first | apply Kd.R_alloc | apply Kd.R_drewN | apply Kd.R_drew)); exact HO292.out) hb); have n5_ := Aside0.mk (Kd.R_below (by (with_reducible repeat (first | apply Kd.R_alloc | apply Kd.R_drewN | apply Kd.R_drew)); exact HO296.out) hb); have n6_ := Aside0.mk (blk_below (g := gb239) (o := .cells #[.int .i64 a0_0, .slice A0_1 l0_1.length c0_1] 24 (0, 0)) (by (with_reducible repeat (first | refine blk_drewN ?_ _ | refine blk_drew ?_ | refine blk_alloc ?_ _)); exact BK239.out) hb); have n7_ := Aside0.mk (blk_below (g := gb253) (o := .cells #[.int .i64 t248, .slice Ao29 t249.length co29] 26 (0, 0)) (by (with_reducible repeat (first | refine blk_drewN ?_ _ | refine blk_drew ?_ | refine blk_alloc ?_ _)); exact BK253.out) hb); have n8_ := Aside0.mk (blk_below (g := gb258) (o := .cells #[.int .i64 t254, .slice Ao36 t279.length co36] 26 (0, 0)) (by (with_reducible repeat (first | refine blk_drewN ?_ _ | refine blk_drew ?_ | refine blk_alloc ?_ _)); exact BK258.out) hb); have n9_ := Aside0.mk (blk_below (g := gb267) (o := .cells #[.int .i64 t262, .slice Ao46 t263.length co46] 26 (0, 0)) (by (with_reducible repeat (first | refine blk_drewN ?_ _ | refine blk_drew ?_ | refine blk_alloc ?_ _)); exact BK267.out) hb); have n10_ := Aside0.mk (below_step (by repeat (first | (with_reducible first | exact HB.out | apply below_alloc | apply pw_below_drewN | apply below_drew1 | refine below_set ?_ GE239.out | refine below_set ?_ GE253.out | refine below_set ?_ GE258.out | refine below_set ?_ GE267.out) | exact HB.out)) hb); have n11_ := Aside0.mk (hbox); have n12_ := Aside0.mk ((by rw [hg]; exact (below_size (by repeat (first | (with_reducible first | exact HB.out | apply below_alloc | apply pw_below_drewN | apply below_drew1 | refine below_set ?_ GE239.out | refine below_set ?_ GE253.out | refine below_set ?_ GE258.out | refine below_set ?_ GE267.out) | exact HB.out))) : w.heap.size ≤ gb298)); have n13_ := Aside0.mk ((by rw [hg]; exact (below_size (by repeat (first | (with_reducible first | exact HB.out | apply below_alloc | apply pw_below_drewN | apply below_drew1 | refine below_set ?_ GE239.out | refine below_set ?_ GE253.out | refine below_set ?_ GE258.out | refine below_set ?_ GE267.out) | exact HB.out))) : w.heap.size ≤ gb298)); have n14_ := Aside0.mk ((by rw [hg]; exact Nat.ne_of_lt (blk_lt (g := gb239) (o := .cells #[.int .i64 a0_0, .slice A0_1 l0_1.length c0_1] 24 (0, 0)) (by (with_reducible repeat (first | refine blk_drewN ?_ _ | refine blk_drew ?_ | refine blk_alloc ?_ _)); exact BK239.out)) : gb239 ≠ gb298)); have n15_ := Aside0.mk ((by rw [hg]; exact Nat.ne_of_gt (blk_lt (g := gb239) (o := .cells #[.int .i64 a0_0, .slice A0_1 l0_1.length c0_1] 24 (0, 0)) (by (with_reducible repeat (first | refine blk_drewN ?_ _ | refine blk_drew ?_ | refine blk_alloc ?_ _)); exact BK239.out)) : gb298 ≠ gb239)); have n16_ := Aside0.mk ((by rw [hg]; exact Nat.ne_of_lt (blk_lt (g := gb253) (o := .cells #[.int .i64 t248, .slice Ao29 t249.length co29] 26 (0, 0)) (by (with_reducible repeat (first | refine blk_drewN ?_ _ | refine blk_drew ?_ | refine blk_alloc ?_ _)); exact BK253.out)) : gb253 ≠ gb298)); have n17_ := Aside0.mk ((by rw [hg]; exact Nat.ne_of_gt (blk_lt (g := gb253) (o := .cells #[.int .i64 t248, .slice Ao29 t249.length co29] 26 (0, 0)) (by (with_reducible repeat (first | refine blk_drewN ?_ _ | refine blk_drew ?_ | refine blk_alloc ?_ _)); exact BK253.out)) : gb298 ≠ gb253)); have n18_ := Aside0.mk ((by rw [hg]; exact Nat.ne_of_lt (blk_lt (g := gb258) (o := .cells #[.int .i64 t254, .slice Ao36 t279.length co36] 26 (0, 0)) (by (with_reducible repeat (first | refine blk_drewN ?_ _ | refine blk_drew ?_ | refine blk_alloc ?_ _)); exact BK258.out)) : gb258 ≠ gb298)); have n19_ := Aside0.mk ((by rw [hg]; exact Nat.ne_of_gt (blk_lt (g := gb258) (o := .cells #[.int .i64 t254, .slice Ao36 t279.length co36] 26 (0, 0)) (by (with_reducible repeat (first | refine blk_drewN ?_ _ | refine blk_drew ?_ | refine blk_alloc ?_ _)); exact BK258.out)) : gb298 ≠ gb258)); have n20_ := Aside0.mk ((by rw [hg]; exact Nat.ne_of_lt (blk_lt (g := gb267) (o := .cells #[.int .i64 t262, .slice Ao46 t263.length co46] 26 (0, 0)) (by (with_reducible repeat (first | refine blk_drewN ?_ _ | refine blk_drew ?_ | refine blk_alloc ?_ _)); exact BK267.out)) : gb267 ≠ gb298)); have n21_ := Aside0.mk ((by rw [hg]; exact Nat.ne_of_gt (blk_lt (g := gb267) (o := .cells #[.int .i64 t262, .slice Ao46 t263.length co46] 26 (0, 0)) (by (with_reducible repeat (first | refine blk_drewN ?_ _ | refine blk_drew ?_ | refine blk_alloc ?_ _)); exact BK267.out)) : gb298 ≠ gb267)); clear HO_254001; clear HO_259001; clear HO_268001; clear HO289; clear HO292; clear HO296; clear BK239; clear BK253; clear BK258; clear BK267; clear HB; have HO_254001 := n0_; have HO_259001 := n1_; have HO_268001 := n2_; have HO289 := n3_; have HO292 := n4_; have HO296 := n5_; have BK239 := n6_; have BK253 := n7_; have BK258 := n8_; have BK267 := n9_; have HB := n10_; have BK298 := n11_; have GW298 := n12_; have GE298 := n13_; have NB239_298 := n14_; have NB298_239 := n15_; have NB253_298 := n16_; have NB298_253 := n17_; have NB258_298 := n18_; have NB298_258 := n19_; have NB267_298 := n20_; have NB298_267 := n21_; clear n0_ n1_ n2_ n3_ n4_ n5_ n6_ n7_ n8_ n9_ n10_ n11_ n12_ n13_ n14_ n15_ n16_ n17_ n18_ n19_ n20_ n21_; clear hb hbox hg; have hnb138 := NB298_239.out; have hnc138 := NB239_298.out; have hnb139 := NB298_253.out; have hnc139 := NB253_298.out; have hnb140 := NB298_258.out; have hnc140 := NB258_298.out; have hnb141 := NB298_267.out; have hnc141 := NB267_298.out; have hcz142_0 : w137.cell? ⟨gb298, 0, none⟩ = some (.int .i64 0) := (blk_cell BK298.out 0).trans rfl; have hcz142_1 : w137.cell? ⟨gb298, 1, none⟩ = some (.slice none 0 0) := (blk_cell BK298.out 1).trans rfl; have hfz142_0 := blk_frozen BK298.out 0; have hfz142_1 := blk_frozen BK298.out 1; obtain ⟨Ao143, co143, eo143⟩ := Kd.R_slice HO296.out; subst eo143))
    (try simp only [Act.put, List.setIfInBounds_toArray, List.set_cons_zero, List.set_cons_succ])
    go_cut [108] (fun v108 wc => ∃ (kq : Nat) (x108_120 : Bool), v108 = .bool x108_120 ∧ Aside0 (laws_FnExactRenumberGraph.j2 kq t283 x108_120 t262 t284 = some r) ∧ Aside0 (kq ≤ kj73) ∧ Aside0 (Kd.R (Kd.int .i64) 2 wc w.heap.size (fun k_ => some k_ ≠ ((.slice Ao36 t279.length co36) : Value).ownBlock ∧ some k_ ≠ ((.slice Ao46 t263.length co46) : Value).ownBlock ∧ some k_ ≠ ((.slice Ao143 t294.length co143) : Value).ownBlock) (.slice Ao29 t249.length co29) t249) ∧ Aside0 (Kd.R (Kd.int .i64) 2 wc w.heap.size (fun k_ => some k_ ≠ ((.slice Ao29 t249.length co29) : Value).ownBlock ∧ some k_ ≠ ((.slice Ao46 t263.length co46) : Value).ownBlock ∧ some k_ ≠ ((.slice Ao143 t294.length co143) : Value).ownBlock) (.slice Ao36 t279.length co36) t279) ∧ Aside0 (Kd.R (Kd.int .i64) 2 wc w.heap.size (fun k_ => some k_ ≠ ((.slice Ao29 t249.length co29) : Value).ownBlock ∧ some k_ ≠ ((.slice Ao36 t279.length co36) : Value).ownBlock ∧ some k_ ≠ ((.slice Ao143 t294.length co143) : Value).ownBlock) (.slice Ao46 t263.length co46) t284) ∧ Aside0 (Kd.R (Kd.int .i64) 2 wc w.heap.size (fun k_ => some k_ ≠ ((.slice Ao29 t249.length co29) : Value).ownBlock ∧ some k_ ≠ ((.slice Ao36 t279.length co36) : Value).ownBlock ∧ some k_ ≠ ((.slice Ao46 t263.length co46) : Value).ownBlock) (.slice Ao143 t294.length co143) t294) ∧ Aside0 (wc.heap[gb239]? = some (.cells #[.int .i64 a0_0, (.slice A0_1 l0_1.length c0_1)] 24 (0, 0))) ∧ Aside0 (wc.heap[gb253]? = some (.cells #[.int .i64 t248, (.slice Ao29 t249.length co29)] 26 (0, 0))) ∧ Aside0 (wc.heap[gb258]? = some (.cells #[.int .i64 t254, (.slice Ao36 t279.length co36)] 26 (0, 0))) ∧ Aside0 (wc.heap[gb267]? = some (.cells #[.int .i64 t262, (.slice Ao46 t263.length co46)] 26 (0, 0))) ∧ Aside0 (wc.heap[gb298]? = some (.cells #[.int .i64 t293, (.slice Ao143 t294.length co143)] 26 (0, 0))) ∧ Aside0 (Below w.heap.size w wc))
    case first =>
     have H := HC121.out
     clear HC121
     replace H := Option.bind_eq_some_iff.mp H
     obtain ⟨t299, A1440, H⟩ := H
     replace H : (if t299 = true then (laws_FnExactRenumberGraph.j2 kj73 t283 (t297 != t252) t262 t284) else (laws_FnExactRenumberGraph.j2 kj73 t283 true t262 t284)) = some r := H
     have A144 := Aside0.mk A1440
     clear A1440
     by_cases c145 : t299 = true
     ·subst c145
      have H1 : (laws_FnExactRenumberGraph.j2 kj73 t283 (t297 != t252) t262 t284) = some r := by rw [if_pos rfl] at H; exact H
      clear H
      have H := H1
      clear H1
      have H' := Aside0.mk H
      clear H
      have hnb146 := NB298_239.out
      have hnc146 := NB239_298.out
      have hnb147 := NB298_253.out
      have hnc147 := NB253_298.out
      have hnb148 := NB298_258.out
      have hnc148 := NB258_298.out
      have hnb149 := NB298_267.out
      have hnc149 := NB267_298.out
      have hcz150_0 : w137.cell? ⟨gb298, 0, none⟩ = some (.int .i64 0) := (blk_cell BK298.out 0).trans rfl
      have hcz150_1 : w137.cell? ⟨gb298, 1, none⟩ = some (.slice none 0 0) := (blk_cell BK298.out 1).trans rfl
      have hfz150_0 := blk_frozen BK298.out 0
      have hfz150_1 := blk_frozen BK298.out 1
      have hnb151 := NB253_239.out
      have hnc151 := NB239_253.out
      have hnb152 := NB253_258.out
      have hnc152 := NB258_253.out
      have hnb153 := NB253_267.out
      have hnc153 := NB267_253.out
      have hcz154_0 : w137.cell? ⟨gb253, 0, none⟩ = some (.int .i64 t248) := (blk_cell BK253.out 0).trans rfl
      have hcz154_1 : w137.cell? ⟨gb253, 1, none⟩ = some (.slice Ao29 t249.length co29) := (blk_cell BK253.out 1).trans rfl
      have hfz154_0 := blk_frozen BK253.out 0
      have hfz154_1 := blk_frozen BK253.out 1
      go_wp2_with (first | ((with_reducible refine gate_callee (f := 12) rfl ?_); refine goesL_ (some 102) rfl rfl Tryd.func12 (by kernel_rfl) rfl #[.agg #[.int .i64 t293, .slice Ao143 t294.length co143], .agg #[.int .i64 t248, .slice Ao29 t249.length co29]] rfl (by (try simp only [List.map_toArray, List.map_cons, List.map_nil]); first | done | rfl | (simp only [List.length_drop, List.length_take]; rfl)) ?_; (with_reducible refine (laws_eqGraph.calls kj73 t293 _ _ t294 t248 _ _ t249 true _ ?side1 ?side2 ?side3 ?side4 A144.out).mono ?_); (case side1 => refine (Kd.R_reads' (e := 2) (base := w.heap.size) (ok := fun k_ => (((((True ∧ some k_ ≠ (.slice Ao29 t249.length co29 : Value).ownBlock) ∧ some k_ ≠ (.slice Ao36 t279.length co36 : Value).ownBlock) ∧ some k_ ≠ (.slice Ao46 t263.length co46 : Value).ownBlock) ∧ some k_ ≠ (.slice Ao134 t287.length co134 : Value).ownBlock) ∧ some k_ ≠ (.slice Ao135 t290.length co135 : Value).ownBlock)) (n := t294.length) (c := co143) ?_).2.2; exact (by (with_reducible repeat (first | apply Kd.R_alloc | apply Kd.R_drewN | apply Kd.R_drew)); exact (Kd.R_mono (Kd.R_far (p := ⟨gb298, 1, none⟩) (Kd.R_far (p := ⟨gb298, 0, none⟩) (Kd.R_types HO296.out BK298.out (by decide)) (fun _ hk => hk.2) (.int .i64 t293)) (fun _ hk => hk.2) (.slice Ao143 t294.length co143)) (fun _ h_ => h_.1)))); (case side2 => exact (Kd.R_reads' HO296.out).2.1); (case side3 => refine (Kd.R_reads' (e := 2) (base := w.heap.size) (ok := fun k_ => ((((some k_ ≠ (.slice Ao36 t279.length co36 : Value).ownBlock ∧ some k_ ≠ (.slice Ao46 t263.length co46 : Value).ownBlock) ∧ some k_ ≠ (.slice Ao134 t287.length co134 : Value).ownBlock) ∧ some k_ ≠ (.slice Ao135 t290.length co135 : Value).ownBlock) ∧ some k_ ≠ (.slice Ao143 t294.length co143 : Value).ownBlock)) (n := t249.length) (c := co29) ?_).2.2; exact (by (with_reducible repeat (first | apply Kd.R_alloc | apply Kd.R_drewN | apply Kd.R_drew)); exact (Kd.R_mono (Kd.R_far (p := ⟨gb298, 1, none⟩) (Kd.R_far (p := ⟨gb298, 0, none⟩) (Kd.R_types HO_254001.out BK298.out (by decide)) (fun _ hk => hk.2) (.int .i64 t293)) (fun _ hk => hk.2) (.slice Ao143 t294.length co143)) (fun _ h_ => h_.1)))); (case side4 => exact (Kd.R_reads' HO_254001.out).2.1); rintro e w155 ⟨rfl, hb⟩; refine ⟨_, rfl, ?_⟩; have n0_ := Aside0.mk (Kd.R_below (by (with_reducible repeat (first | apply Kd.R_alloc | apply Kd.R_drewN | apply Kd.R_drew)); exact (Kd.R_mono (Kd.R_far (p := ⟨gb298, 1, none⟩) (Kd.R_far (p := ⟨gb298, 0, none⟩) (Kd.R_types HO_254001.out BK298.out (by decide)) (fun _ hk => hk.2) (.int .i64 t293)) (fun _ hk => hk.2) (.slice Ao143 t294.length co143)) (fun _ h_ => h_.1))) hb); have n1_ := Aside0.mk (Kd.R_below (by (with_reducible repeat (first | apply Kd.R_alloc | apply Kd.R_drewN | apply Kd.R_drew)); exact (Kd.R_mono (Kd.R_far (p := ⟨gb298, 1, none⟩) (Kd.R_far (p := ⟨gb298, 0, none⟩) (Kd.R_types HO_259001.out BK298.out (by decide)) (fun _ hk => hk.2) (.int .i64 t293)) (fun _ hk => hk.2) (.slice Ao143 t294.length co143)) (fun _ h_ => h_.1))) hb); have n2_ := Aside0.mk (Kd.R_below (by (with_reducible repeat (first | apply Kd.R_alloc | apply Kd.R_drewN | apply Kd.R_drew)); exact (Kd.R_mono (Kd.R_far (p := ⟨gb298, 1, none⟩) (Kd.R_far (p := ⟨gb298, 0, none⟩) (Kd.R_types HO_268001.out BK298.out (by decide)) (fun _ hk => hk.2) (.int .i64 t293)) (fun _ hk => hk.2) (.slice Ao143 t294.length co143)) (fun _ h_ => h_.1))) hb); have n3_ := Aside0.mk (Kd.R_below (by (with_reducible repeat (first | apply Kd.R_alloc | apply Kd.R_drewN | apply Kd.R_drew)); exact (Kd.R_mono (Kd.R_far (p := ⟨gb298, 1, none⟩) (Kd.R_far (p := ⟨gb298, 0, none⟩) (Kd.R_types HO289.out BK298.out (by decide)) (fun _ hk => hk.2) (.int .i64 t293)) (fun _ hk => hk.2) (.slice Ao143 t294.length co143)) (fun _ h_ => h_.1))) hb); have n4_ := Aside0.mk (Kd.R_below (by (with_reducible repeat (first | apply Kd.R_alloc | apply Kd.R_drewN | apply Kd.R_drew)); exact (Kd.R_mono (Kd.R_far (p := ⟨gb298, 1, none⟩) (Kd.R_far (p := ⟨gb298, 0, none⟩) (Kd.R_types HO292.out BK298.out (by decide)) (fun _ hk => hk.2) (.int .i64 t293)) (fun _ hk => hk.2) (.slice Ao143 t294.length co143)) (fun _ h_ => h_.1))) hb); have n5_ := Aside0.mk (Kd.R_below (by (with_reducible repeat (first | apply Kd.R_alloc | apply Kd.R_drewN | apply Kd.R_drew)); exact (Kd.R_mono (Kd.R_far (p := ⟨gb298, 1, none⟩) (Kd.R_far (p := ⟨gb298, 0, none⟩) (Kd.R_types HO296.out BK298.out (by decide)) (fun _ hk => hk.2) (.int .i64 t293)) (fun _ hk => hk.2) (.slice Ao143 t294.length co143)) (fun _ h_ => h_.1))) hb); have n6_ := Aside0.mk (blk_below (g := gb239) (o := .cells #[.int .i64 a0_0, .slice A0_1 l0_1.length c0_1] 24 (0, 0)) (by (with_reducible repeat (first | refine blk_drewN ?_ _ | refine blk_drew ?_ | refine blk_alloc ?_ _)); refine blk_far ?_ NB239_298.out _; (with_reducible repeat (first | refine blk_drewN ?_ _ | refine blk_drew ?_ | refine blk_alloc ?_ _)); refine blk_far ?_ NB239_298.out _; (with_reducible repeat (first | refine blk_drewN ?_ _ | refine blk_drew ?_ | refine blk_alloc ?_ _)); exact BK239.out) hb); have n7_ := Aside0.mk (blk_below (g := gb253) (o := .cells #[.int .i64 t248, .slice Ao29 t249.length co29] 26 (0, 0)) (by (with_reducible repeat (first | refine blk_drewN ?_ _ | refine blk_drew ?_ | refine blk_alloc ?_ _)); refine blk_far ?_ NB253_298.out _; (with_reducible repeat (first | refine blk_drewN ?_ _ | refine blk_drew ?_ | refine blk_alloc ?_ _)); refine blk_far ?_ NB253_298.out _; (with_reducible repeat (first | refine blk_drewN ?_ _ | refine blk_drew ?_ | refine blk_alloc ?_ _)); exact BK253.out) hb); have n8_ := Aside0.mk (blk_below (g := gb258) (o := .cells #[.int .i64 t254, .slice Ao36 t279.length co36] 26 (0, 0)) (by (with_reducible repeat (first | refine blk_drewN ?_ _ | refine blk_drew ?_ | refine blk_alloc ?_ _)); refine blk_far ?_ NB258_298.out _; (with_reducible repeat (first | refine blk_drewN ?_ _ | refine blk_drew ?_ | refine blk_alloc ?_ _)); refine blk_far ?_ NB258_298.out _; (with_reducible repeat (first | refine blk_drewN ?_ _ | refine blk_drew ?_ | refine blk_alloc ?_ _)); exact BK258.out) hb); have n9_ := Aside0.mk (blk_below (g := gb267) (o := .cells #[.int .i64 t262, .slice Ao46 t263.length co46] 26 (0, 0)) (by (with_reducible repeat (first | refine blk_drewN ?_ _ | refine blk_drew ?_ | refine blk_alloc ?_ _)); refine blk_far ?_ NB267_298.out _; (with_reducible repeat (first | refine blk_drewN ?_ _ | refine blk_drew ?_ | refine blk_alloc ?_ _)); refine blk_far ?_ NB267_298.out _; (with_reducible repeat (first | refine blk_drewN ?_ _ | refine blk_drew ?_ | refine blk_alloc ?_ _)); exact BK267.out) hb); have n10_ := Aside0.mk (blk_below (g := gb298) (o := .cells #[.int .i64 t293, .slice Ao143 t294.length co143] 26 (0, 0)) (by (with_reducible repeat (first | refine blk_drewN ?_ _ | refine blk_drew ?_ | refine blk_alloc ?_ _)); refine blk_put (cs := #[.int .i64 t293, .slice none 0 0]) ?_ 1 _ rfl; (with_reducible repeat (first | refine blk_drewN ?_ _ | refine blk_drew ?_ | refine blk_alloc ?_ _)); refine blk_put (cs := #[.int .i64 0, .slice none 0 0]) ?_ 0 _ rfl; (with_reducible repeat (first | refine blk_drewN ?_ _ | refine blk_drew ?_ | refine blk_alloc ?_ _)); exact BK298.out) hb); have n11_ := Aside0.mk (below_step (by repeat (first | (with_reducible first | exact HB.out | apply below_alloc | apply pw_below_drewN | apply below_drew1 | refine below_set ?_ GE239.out | refine below_set ?_ GE253.out | refine below_set ?_ GE258.out | refine below_set ?_ GE267.out | refine below_set ?_ GE298.out) | exact HB.out)) hb); clear HO_254001; clear HO_259001; clear HO_268001; clear HO289; clear HO292; clear HO296; clear BK239; clear BK253; clear BK258; clear BK267; clear BK298; clear HB; have HO_254001 := n0_; have HO_259001 := n1_; have HO_268001 := n2_; have HO289 := n3_; have HO292 := n4_; have HO296 := n5_; have BK239 := n6_; have BK253 := n7_; have BK258 := n8_; have BK267 := n9_; have BK298 := n10_; have HB := n11_; clear n0_ n1_ n2_ n3_ n4_ n5_ n6_ n7_ n8_ n9_ n10_ n11_; (try clear hb); (try clear hb2); (try clear hk); (try clear hi)))
      go_meet
      case rel => exact ⟨_, ((t297 != t252)), (by first | rfl | (simp; done) | (simp [*]; done)), H', ⟨by have := HJ15.out; have := HJ73.out; first | omega | exact Nat.le_refl _⟩, ⟨by (try simp only [hl259001_73]); (with_reducible repeat (first | apply Kd.R_alloc | apply Kd.R_drewN | apply Kd.R_drew)); exact Kd.R_mono HO_254001.out (fun _ hk => ⟨hk.1.1.1.1, ⟨hk.1.1.1.2, hk.2⟩⟩)⟩, ⟨by (try simp only [hl259001_73]); (with_reducible repeat (first | apply Kd.R_alloc | apply Kd.R_drewN | apply Kd.R_drew)); exact Kd.R_mono HO_259001.out (fun _ hk => ⟨hk.1.1.1.1, ⟨hk.1.1.1.2, hk.2⟩⟩)⟩, ⟨by (try simp only [hl259001_73]); (with_reducible repeat (first | apply Kd.R_alloc | apply Kd.R_drewN | apply Kd.R_drew)); exact Kd.R_mono HO_268001.out (fun _ hk => ⟨hk.1.1.1.1, ⟨hk.1.1.1.2, hk.2⟩⟩)⟩, ⟨by (try simp only [hl259001_73]); (with_reducible repeat (first | apply Kd.R_alloc | apply Kd.R_drewN | apply Kd.R_drew)); exact Kd.R_mono HO296.out (fun _ hk => ⟨hk.1.1.1.1.2, ⟨hk.1.1.1.2, hk.1.1.2⟩⟩)⟩, ⟨by (try simp only [hl259001_73]); (with_reducible repeat (first | refine blk_drewN ?_ _ | refine blk_drew ?_ | refine blk_alloc ?_ _)); exact BK239.out⟩, ⟨by (try simp only [hl259001_73]); (with_reducible repeat (first | refine blk_drewN ?_ _ | refine blk_drew ?_ | refine blk_alloc ?_ _)); exact BK253.out⟩, ⟨by (try simp only [hl259001_73]); (with_reducible repeat (first | refine blk_drewN ?_ _ | refine blk_drew ?_ | refine blk_alloc ?_ _)); exact BK258.out⟩, ⟨by (try simp only [hl259001_73]); (with_reducible repeat (first | refine blk_drewN ?_ _ | refine blk_drew ?_ | refine blk_alloc ?_ _)); exact BK267.out⟩, ⟨by (try simp only [hl259001_73]); (with_reducible repeat (first | refine blk_drewN ?_ _ | refine blk_drew ?_ | refine blk_alloc ?_ _)); exact BK298.out⟩, ⟨by repeat (first | (with_reducible first | exact HB.out | apply below_alloc | apply pw_below_drewN | apply below_drew1 | refine below_set ?_ GE239.out | refine below_set ?_ GE253.out | refine below_set ?_ GE258.out | refine below_set ?_ GE267.out | refine below_set ?_ GE298.out) | exact HB.out)⟩⟩
     ·replace c145 := Bool.eq_false_iff.mpr c145
      subst c145
      have H1 : (laws_FnExactRenumberGraph.j2 kj73 t283 true t262 t284) = some r := by rw [if_neg (show ¬ (false = true) by decide)] at H; exact H
      clear H
      have H := H1
      clear H1
      have H' := Aside0.mk H
      clear H
      have hnb156 := NB298_239.out
      have hnc156 := NB239_298.out
      have hnb157 := NB298_253.out
      have hnc157 := NB253_298.out
      have hnb158 := NB298_258.out
      have hnc158 := NB258_298.out
      have hnb159 := NB298_267.out
      have hnc159 := NB267_298.out
      have hcz160_0 : w137.cell? ⟨gb298, 0, none⟩ = some (.int .i64 0) := (blk_cell BK298.out 0).trans rfl
      have hcz160_1 : w137.cell? ⟨gb298, 1, none⟩ = some (.slice none 0 0) := (blk_cell BK298.out 1).trans rfl
      have hfz160_0 := blk_frozen BK298.out 0
      have hfz160_1 := blk_frozen BK298.out 1
      have hnb161 := NB253_239.out
      have hnc161 := NB239_253.out
      have hnb162 := NB253_258.out
      have hnc162 := NB258_253.out
      have hnb163 := NB253_267.out
      have hnc163 := NB267_253.out
      have hcz164_0 : w137.cell? ⟨gb253, 0, none⟩ = some (.int .i64 t248) := (blk_cell BK253.out 0).trans rfl
      have hcz164_1 : w137.cell? ⟨gb253, 1, none⟩ = some (.slice Ao29 t249.length co29) := (blk_cell BK253.out 1).trans rfl
      have hfz164_0 := blk_frozen BK253.out 0
      have hfz164_1 := blk_frozen BK253.out 1
      go_wp2_with (first | ((with_reducible refine gate_callee (f := 12) rfl ?_); refine goesL_ (some 102) rfl rfl Tryd.func12 (by kernel_rfl) rfl #[.agg #[.int .i64 t293, .slice Ao143 t294.length co143], .agg #[.int .i64 t248, .slice Ao29 t249.length co29]] rfl (by (try simp only [List.map_toArray, List.map_cons, List.map_nil]); first | done | rfl | (simp only [List.length_drop, List.length_take]; rfl)) ?_; (with_reducible refine (laws_eqGraph.calls kj73 t293 _ _ t294 t248 _ _ t249 false _ ?side1 ?side2 ?side3 ?side4 A144.out).mono ?_); (case side1 => refine (Kd.R_reads' (e := 2) (base := w.heap.size) (ok := fun k_ => (((((True ∧ some k_ ≠ (.slice Ao29 t249.length co29 : Value).ownBlock) ∧ some k_ ≠ (.slice Ao36 t279.length co36 : Value).ownBlock) ∧ some k_ ≠ (.slice Ao46 t263.length co46 : Value).ownBlock) ∧ some k_ ≠ (.slice Ao134 t287.length co134 : Value).ownBlock) ∧ some k_ ≠ (.slice Ao135 t290.length co135 : Value).ownBlock)) (n := t294.length) (c := co143) ?_).2.2; exact (by (with_reducible repeat (first | apply Kd.R_alloc | apply Kd.R_drewN | apply Kd.R_drew)); exact (Kd.R_mono (Kd.R_far (p := ⟨gb298, 1, none⟩) (Kd.R_far (p := ⟨gb298, 0, none⟩) (Kd.R_types HO296.out BK298.out (by decide)) (fun _ hk => hk.2) (.int .i64 t293)) (fun _ hk => hk.2) (.slice Ao143 t294.length co143)) (fun _ h_ => h_.1)))); (case side2 => exact (Kd.R_reads' HO296.out).2.1); (case side3 => refine (Kd.R_reads' (e := 2) (base := w.heap.size) (ok := fun k_ => ((((some k_ ≠ (.slice Ao36 t279.length co36 : Value).ownBlock ∧ some k_ ≠ (.slice Ao46 t263.length co46 : Value).ownBlock) ∧ some k_ ≠ (.slice Ao134 t287.length co134 : Value).ownBlock) ∧ some k_ ≠ (.slice Ao135 t290.length co135 : Value).ownBlock) ∧ some k_ ≠ (.slice Ao143 t294.length co143 : Value).ownBlock)) (n := t249.length) (c := co29) ?_).2.2; exact (by (with_reducible repeat (first | apply Kd.R_alloc | apply Kd.R_drewN | apply Kd.R_drew)); exact (Kd.R_mono (Kd.R_far (p := ⟨gb298, 1, none⟩) (Kd.R_far (p := ⟨gb298, 0, none⟩) (Kd.R_types HO_254001.out BK298.out (by decide)) (fun _ hk => hk.2) (.int .i64 t293)) (fun _ hk => hk.2) (.slice Ao143 t294.length co143)) (fun _ h_ => h_.1)))); (case side4 => exact (Kd.R_reads' HO_254001.out).2.1); rintro e w165 ⟨rfl, hb⟩; refine ⟨_, rfl, ?_⟩; have n0_ := Aside0.mk (Kd.R_below (by (with_reducible repeat (first | apply Kd.R_alloc | apply Kd.R_drewN | apply Kd.R_drew)); exact (Kd.R_mono (Kd.R_far (p := ⟨gb298, 1, none⟩) (Kd.R_far (p := ⟨gb298, 0, none⟩) (Kd.R_types HO_254001.out BK298.out (by decide)) (fun _ hk => hk.2) (.int .i64 t293)) (fun _ hk => hk.2) (.slice Ao143 t294.length co143)) (fun _ h_ => h_.1))) hb); have n1_ := Aside0.mk (Kd.R_below (by (with_reducible repeat (first | apply Kd.R_alloc | apply Kd.R_drewN | apply Kd.R_drew)); exact (Kd.R_mono (Kd.R_far (p := ⟨gb298, 1, none⟩) (Kd.R_far (p := ⟨gb298, 0, none⟩) (Kd.R_types HO_259001.out BK298.out (by decide)) (fun _ hk => hk.2) (.int .i64 t293)) (fun _ hk => hk.2) (.slice Ao143 t294.length co143)) (fun _ h_ => h_.1))) hb); have n2_ := Aside0.mk (Kd.R_below (by (with_reducible repeat (first | apply Kd.R_alloc | apply Kd.R_drewN | apply Kd.R_drew)); exact (Kd.R_mono (Kd.R_far (p := ⟨gb298, 1, none⟩) (Kd.R_far (p := ⟨gb298, 0, none⟩) (Kd.R_types HO_268001.out BK298.out (by decide)) (fun _ hk => hk.2) (.int .i64 t293)) (fun _ hk => hk.2) (.slice Ao143 t294.length co143)) (fun _ h_ => h_.1))) hb); have n3_ := Aside0.mk (Kd.R_below (by (with_reducible repeat (first | apply Kd.R_alloc | apply Kd.R_drewN | apply Kd.R_drew)); exact (Kd.R_mono (Kd.R_far (p := ⟨gb298, 1, none⟩) (Kd.R_far (p := ⟨gb298, 0, none⟩) (Kd.R_types HO289.out BK298.out (by decide)) (fun _ hk => hk.2) (.int .i64 t293)) (fun _ hk => hk.2) (.slice Ao143 t294.length co143)) (fun _ h_ => h_.1))) hb); have n4_ := Aside0.mk (Kd.R_below (by (with_reducible repeat (first | apply Kd.R_alloc | apply Kd.R_drewN | apply Kd.R_drew)); exact (Kd.R_mono (Kd.R_far (p := ⟨gb298, 1, none⟩) (Kd.R_far (p := ⟨gb298, 0, none⟩) (Kd.R_types HO292.out BK298.out (by decide)) (fun _ hk => hk.2) (.int .i64 t293)) (fun _ hk => hk.2) (.slice Ao143 t294.length co143)) (fun _ h_ => h_.1))) hb); have n5_ := Aside0.mk (Kd.R_below (by (with_reducible repeat (first | apply Kd.R_alloc | apply Kd.R_drewN | apply Kd.R_drew)); exact (Kd.R_mono (Kd.R_far (p := ⟨gb298, 1, none⟩) (Kd.R_far (p := ⟨gb298, 0, none⟩) (Kd.R_types HO296.out BK298.out (by decide)) (fun _ hk => hk.2) (.int .i64 t293)) (fun _ hk => hk.2) (.slice Ao143 t294.length co143)) (fun _ h_ => h_.1))) hb); have n6_ := Aside0.mk (blk_below (g := gb239) (o := .cells #[.int .i64 a0_0, .slice A0_1 l0_1.length c0_1] 24 (0, 0)) (by (with_reducible repeat (first | refine blk_drewN ?_ _ | refine blk_drew ?_ | refine blk_alloc ?_ _)); refine blk_far ?_ NB239_298.out _; (with_reducible repeat (first | refine blk_drewN ?_ _ | refine blk_drew ?_ | refine blk_alloc ?_ _)); refine blk_far ?_ NB239_298.out _; (with_reducible repeat (first | refine blk_drewN ?_ _ | refine blk_drew ?_ | refine blk_alloc ?_ _)); exact BK239.out) hb); have n7_ := Aside0.mk (blk_below (g := gb253) (o := .cells #[.int .i64 t248, .slice Ao29 t249.length co29] 26 (0, 0)) (by (with_reducible repeat (first | refine blk_drewN ?_ _ | refine blk_drew ?_ | refine blk_alloc ?_ _)); refine blk_far ?_ NB253_298.out _; (with_reducible repeat (first | refine blk_drewN ?_ _ | refine blk_drew ?_ | refine blk_alloc ?_ _)); refine blk_far ?_ NB253_298.out _; (with_reducible repeat (first | refine blk_drewN ?_ _ | refine blk_drew ?_ | refine blk_alloc ?_ _)); exact BK253.out) hb); have n8_ := Aside0.mk (blk_below (g := gb258) (o := .cells #[.int .i64 t254, .slice Ao36 t279.length co36] 26 (0, 0)) (by (with_reducible repeat (first | refine blk_drewN ?_ _ | refine blk_drew ?_ | refine blk_alloc ?_ _)); refine blk_far ?_ NB258_298.out _; (with_reducible repeat (first | refine blk_drewN ?_ _ | refine blk_drew ?_ | refine blk_alloc ?_ _)); refine blk_far ?_ NB258_298.out _; (with_reducible repeat (first | refine blk_drewN ?_ _ | refine blk_drew ?_ | refine blk_alloc ?_ _)); exact BK258.out) hb); have n9_ := Aside0.mk (blk_below (g := gb267) (o := .cells #[.int .i64 t262, .slice Ao46 t263.length co46] 26 (0, 0)) (by (with_reducible repeat (first | refine blk_drewN ?_ _ | refine blk_drew ?_ | refine blk_alloc ?_ _)); refine blk_far ?_ NB267_298.out _; (with_reducible repeat (first | refine blk_drewN ?_ _ | refine blk_drew ?_ | refine blk_alloc ?_ _)); refine blk_far ?_ NB267_298.out _; (with_reducible repeat (first | refine blk_drewN ?_ _ | refine blk_drew ?_ | refine blk_alloc ?_ _)); exact BK267.out) hb); have n10_ := Aside0.mk (blk_below (g := gb298) (o := .cells #[.int .i64 t293, .slice Ao143 t294.length co143] 26 (0, 0)) (by (with_reducible repeat (first | refine blk_drewN ?_ _ | refine blk_drew ?_ | refine blk_alloc ?_ _)); refine blk_put (cs := #[.int .i64 t293, .slice none 0 0]) ?_ 1 _ rfl; (with_reducible repeat (first | refine blk_drewN ?_ _ | refine blk_drew ?_ | refine blk_alloc ?_ _)); refine blk_put (cs := #[.int .i64 0, .slice none 0 0]) ?_ 0 _ rfl; (with_reducible repeat (first | refine blk_drewN ?_ _ | refine blk_drew ?_ | refine blk_alloc ?_ _)); exact BK298.out) hb); have n11_ := Aside0.mk (below_step (by repeat (first | (with_reducible first | exact HB.out | apply below_alloc | apply pw_below_drewN | apply below_drew1 | refine below_set ?_ GE239.out | refine below_set ?_ GE253.out | refine below_set ?_ GE258.out | refine below_set ?_ GE267.out | refine below_set ?_ GE298.out) | exact HB.out)) hb); clear HO_254001; clear HO_259001; clear HO_268001; clear HO289; clear HO292; clear HO296; clear BK239; clear BK253; clear BK258; clear BK267; clear BK298; clear HB; have HO_254001 := n0_; have HO_259001 := n1_; have HO_268001 := n2_; have HO289 := n3_; have HO292 := n4_; have HO296 := n5_; have BK239 := n6_; have BK253 := n7_; have BK258 := n8_; have BK267 := n9_; have BK298 := n10_; have HB := n11_; clear n0_ n1_ n2_ n3_ n4_ n5_ n6_ n7_ n8_ n9_ n10_ n11_; (try clear hb); (try clear hb2); (try clear hk); (try clear hi)))
      go_meet
      case rel => exact ⟨_, (true), (by first | rfl | (simp; done) | (simp [*]; done)), H', ⟨by have := HJ15.out; have := HJ73.out; first | omega | exact Nat.le_refl _⟩, ⟨by (try simp only [hl259001_73]); (with_reducible repeat (first | apply Kd.R_alloc | apply Kd.R_drewN | apply Kd.R_drew)); exact Kd.R_mono HO_254001.out (fun _ hk => ⟨hk.1.1.1.1, ⟨hk.1.1.1.2, hk.2⟩⟩)⟩, ⟨by (try simp only [hl259001_73]); (with_reducible repeat (first | apply Kd.R_alloc | apply Kd.R_drewN | apply Kd.R_drew)); exact Kd.R_mono HO_259001.out (fun _ hk => ⟨hk.1.1.1.1, ⟨hk.1.1.1.2, hk.2⟩⟩)⟩, ⟨by (try simp only [hl259001_73]); (with_reducible repeat (first | apply Kd.R_alloc | apply Kd.R_drewN | apply Kd.R_drew)); exact Kd.R_mono HO_268001.out (fun _ hk => ⟨hk.1.1.1.1, ⟨hk.1.1.1.2, hk.2⟩⟩)⟩, ⟨by (try simp only [hl259001_73]); (with_reducible repeat (first | apply Kd.R_alloc | apply Kd.R_drewN | apply Kd.R_drew)); exact Kd.R_mono HO296.out (fun _ hk => ⟨hk.1.1.1.1.2, ⟨hk.1.1.1.2, hk.1.1.2⟩⟩)⟩, ⟨by (try simp only [hl259001_73]); (with_reducible repeat (first | refine blk_drewN ?_ _ | refine blk_drew ?_ | refine blk_alloc ?_ _)); exact BK239.out⟩, ⟨by (try simp only [hl259001_73]); (with_reducible repeat (first | refine blk_drewN ?_ _ | refine blk_drew ?_ | refine blk_alloc ?_ _)); exact BK253.out⟩, ⟨by (try simp only [hl259001_73]); (with_reducible repeat (first | refine blk_drewN ?_ _ | refine blk_drew ?_ | refine blk_alloc ?_ _)); exact BK258.out⟩, ⟨by (try simp only [hl259001_73]); (with_reducible repeat (first | refine blk_drewN ?_ _ | refine blk_drew ?_ | refine blk_alloc ?_ _)); exact BK267.out⟩, ⟨by (try simp only [hl259001_73]); (with_reducible repeat (first | refine blk_drewN ?_ _ | refine blk_drew ?_ | refine blk_alloc ?_ _)); exact BK298.out⟩, ⟨by repeat (first | (with_reducible first | exact HB.out | apply below_alloc | apply pw_below_drewN | apply below_drew1 | refine below_set ?_ GE239.out | refine below_set ?_ GE253.out | refine below_set ?_ GE258.out | refine below_set ?_ GE267.out | refine below_set ?_ GE298.out) | exact HB.out)⟩⟩
    case rest =>
     clear HC121
     try clear c1
     try clear c2
     try clear p2
     try clear c3
     try clear c3b0
     try clear c3b1
     try clear c4
     try clear c5
     try clear c6
     try clear c6b0
     try clear c7
     try clear c8
     try clear c9
     try clear c10
     try clear c11
     try clear c12
     try clear c13
     try clear c14
     try clear c15
     try clear c16
     try clear c27
     try clear c33
     try clear c34
     try clear c42
     try clear c43
     try clear c44
     try clear c48
     try clear c49
     try clear c50
     try clear c51
     try clear c53
     try clear c54
     try clear c57
     try clear c58
     try clear c59
     try clear c61
     try clear c62
     try clear c65
     try clear c68
     try clear c71
     try clear c81
     try clear c82
     try clear c83
     try clear c87
     try clear c87b0
     try clear c89
     try clear c90
     try clear c91
     try clear c92
     try clear c94
     try clear c95
     try clear c98
     try clear c99
     try clear c100
     try clear c102
     try clear c103
     try clear c106
     try clear c109
     try clear c109b0
     try clear c110
     try clear c111
     try clear c112
     try clear c117
     try clear c117b0
     try clear c117b1
     try clear c122
     try clear c123
     try clear c124
     try clear c129
     try clear c130
     try clear c138
     try clear c139
     try clear c140
     try clear c141
     try clear c145
     try clear c146
     try clear c147
     try clear c148
     try clear c149
     try clear c151
     try clear c152
     try clear c153
     try clear c156
     try clear c157
     try clear c158
     try clear c159
     try clear c161
     try clear c162
     try clear c163
     try clear hcz101_0
     try clear hcz101_1
     try clear hcz104_0
     try clear hcz104_1
     try clear hcz113_0
     try clear hcz113_1
     try clear hcz115_0
     try clear hcz115_1
     try clear hcz125_0
     try clear hcz125_1
     try clear hcz127_0
     try clear hcz127_1
     try clear hcz131_0
     try clear hcz131_1
     try clear hcz142_0
     try clear hcz142_1
     try clear hcz150_0
     try clear hcz150_1
     try clear hcz154_0
     try clear hcz154_1
     try clear hcz160_0
     try clear hcz160_1
     try clear hcz164_0
     try clear hcz164_1
     try clear hcz18_0
     try clear hcz18_1
     try clear hcz20_0
     try clear hcz20_1
     try clear hcz28_0
     try clear hcz28_1
     try clear hcz30_0
     try clear hcz30_1
     try clear hcz35_0
     try clear hcz35_1
     try clear hcz38_0
     try clear hcz38_1
     try clear hcz45_0
     try clear hcz45_1
     try clear hcz52_0
     try clear hcz52_1
     try clear hcz55_0
     try clear hcz55_1
     try clear hcz60_0
     try clear hcz60_1
     try clear hcz63_0
     try clear hcz63_1
     try clear hcz84_0
     try clear hcz84_1
     try clear hcz8_0
     try clear hcz8_1
     try clear hcz93_0
     try clear hcz93_1
     try clear hcz96_0
     try clear hcz96_1
     try clear hfz101_0
     try clear hfz101_1
     try clear hfz104_0
     try clear hfz104_1
     try clear hfz113_0
     try clear hfz113_1
     try clear hfz115_0
     try clear hfz115_1
     try clear hfz125_0
     try clear hfz125_1
     try clear hfz127_0
     try clear hfz127_1
     try clear hfz131_0
     try clear hfz131_1
     try clear hfz142_0
     try clear hfz142_1
     try clear hfz150_0
     try clear hfz150_1
     try clear hfz154_0
     try clear hfz154_1
     try clear hfz160_0
     try clear hfz160_1
     try clear hfz164_0
     try clear hfz164_1
     try clear hfz18_0
     try clear hfz18_1
     try clear hfz20_0
     try clear hfz20_1
     try clear hfz28_0
     try clear hfz28_1
     try clear hfz30_0
     try clear hfz30_1
     try clear hfz35_0
     try clear hfz35_1
     try clear hfz38_0
     try clear hfz38_1
     try clear hfz45_0
     try clear hfz45_1
     try clear hfz52_0
     try clear hfz52_1
     try clear hfz55_0
     try clear hfz55_1
     try clear hfz60_0
     try clear hfz60_1
     try clear hfz63_0
     try clear hfz63_1
     try clear hfz84_0
     try clear hfz84_1
     try clear hfz8_0
     try clear hfz8_1
     try clear hfz93_0
     try clear hfz93_1
     try clear hfz96_0
     try clear hfz96_1
     try clear p2
     obtain ⟨kq, x108_120, rfl, HA, HJ120, HO_254001, HO_259001, HO_268001, HO_299001, BK239, BK253, BK258, BK267, BK298, HB⟩ := hcut
     have hl268001_120 := (Kd.R_reads' HO_268001.out).1
     rw [hl268001_120] at HO_268001
     (try simp only [hl268001_120])
     (try simp only [hl268001_120] at BK239)
     (try simp only [hl268001_120] at BK253)
     (try simp only [hl268001_120] at BK258)
     (try simp only [hl268001_120] at BK267)
     (try simp only [hl268001_120] at BK298)
     (try simp only [hl268001_120] at HO_254001)
     (try simp only [hl268001_120] at HO_259001)
     (try simp only [hl268001_120] at HO_299001)
     cases kq with
     | zero => exact absurd HA.out (by simp [laws_FnExactRenumberGraph.j2])
     | succ kj120 =>
      have H := HA.out
      clear HA
      simp only [laws_FnExactRenumberGraph.j2] at H
      by_cases c166 : x108_120 = true
      ·subst c166
       have H1 : (some false) = some r := by rw [if_pos rfl] at H; exact H
       clear H
       have H := H1
       clear H1
       obtain rfl := Option.some.inj H
       go_wp2
       go_ret
       exact ⟨by first | rfl | (simp [errW_none, errW_some] <;> rfl) | (simp [*, errW_none, errW_some] <;> rfl), by repeat (first | (with_reducible first | exact HB.out | apply below_alloc | apply pw_below_drewN | apply below_drew1 | refine below_set ?_ GE239.out | refine below_set ?_ GE253.out | refine below_set ?_ GE258.out | refine below_set ?_ GE267.out | refine below_set ?_ GE298.out) | exact HB.out)⟩
      ·replace c166 := Bool.eq_false_iff.mpr c166
       subst c166
       have H1 : ((laws_heldGraph.f kj120 t262 t284 1).bind fun t300 => (if t300 < 0 then (some false) else (if t300 = t283 then (some true) else (some false)))) = some r := by rw [if_neg (show ¬ (false = true) by decide)] at H; exact H
       clear H
       have H := H1
       clear H1
       replace H := Option.bind_eq_some_iff.mp H
       obtain ⟨t300, A1670, H⟩ := H
       replace H : (if t300 < 0 then (some false) else (if t300 = t283 then (some true) else (some false))) = some r := H
       have A167 := Aside0.mk A1670
       clear A1670
       by_cases c168 : t300 < 0
       ·rw [if_pos c168] at H
        have c168b0 : decide (t300 < 0) = true := decide_eq_true c168
        clear c168
        obtain rfl := Option.some.inj H
        have hnb169 := NB267_239.out
        have hnc169 := NB239_267.out
        have hnb170 := NB267_253.out
        have hnc170 := NB253_267.out
        have hnb171 := NB267_258.out
        have hnc171 := NB258_267.out
        have hnb172 := NB267_298.out
        have hnc172 := NB298_267.out
        have hcz173_0 : wc.cell? ⟨gb267, 0, none⟩ = some (.int .i64 t262) := (blk_cell BK267.out 0).trans rfl
        have hcz173_1 : wc.cell? ⟨gb267, 1, none⟩ = some (.slice Ao46 t284.length co46) := (blk_cell BK267.out 1).trans rfl
        have hfz173_0 := blk_frozen BK267.out 0
        have hfz173_1 := blk_frozen BK267.out 1
        go_wp2_with (first | ((with_reducible refine gate_callee (f := 16) rfl ?_); refine goesL_ (some 111) rfl rfl Tryd.func16 (by kernel_rfl) rfl #[.agg #[.int .i64 t262, .slice Ao46 t284.length co46], .int .i64 1] rfl (by (try simp only [List.map_toArray, List.map_cons, List.map_nil]); first | done | rfl | (simp only [List.length_drop, List.length_take]; rfl)) ?_; (with_reducible refine (laws_heldGraph.calls kj120 t262 _ _ t284 1 t300 _ ?side1 ?side2 A167.out).mono ?_); (case side1 => repeat (first | exact (Kd.R_reads' HO_268001.out).2.2 | (with_reducible refine Kd.C_alloc ?_ _) | (with_reducible refine Kd.C_drewN ?_ _) | (with_reducible refine Kd.C_drew ?_))); (case side2 => exact (Kd.R_reads' HO_268001.out).2.1); rintro e w174 ⟨rfl, hb⟩; refine ⟨_, rfl, ?_⟩; have n0_ := Aside0.mk (Kd.R_below (by (with_reducible repeat (first | apply Kd.R_alloc | apply Kd.R_drewN | apply Kd.R_drew)); exact HO_254001.out) hb); have n1_ := Aside0.mk (Kd.R_below (by (with_reducible repeat (first | apply Kd.R_alloc | apply Kd.R_drewN | apply Kd.R_drew)); exact HO_259001.out) hb); have n2_ := Aside0.mk (Kd.R_below (by (with_reducible repeat (first | apply Kd.R_alloc | apply Kd.R_drewN | apply Kd.R_drew)); exact HO_268001.out) hb); have n3_ := Aside0.mk (Kd.R_below (by (with_reducible repeat (first | apply Kd.R_alloc | apply Kd.R_drewN | apply Kd.R_drew)); exact HO_299001.out) hb); have n4_ := Aside0.mk (blk_below (g := gb239) (o := .cells #[.int .i64 a0_0, .slice A0_1 l0_1.length c0_1] 24 (0, 0)) (by (with_reducible repeat (first | refine blk_drewN ?_ _ | refine blk_drew ?_ | refine blk_alloc ?_ _)); exact BK239.out) hb); have n5_ := Aside0.mk (blk_below (g := gb253) (o := .cells #[.int .i64 t248, .slice Ao29 t249.length co29] 26 (0, 0)) (by (with_reducible repeat (first | refine blk_drewN ?_ _ | refine blk_drew ?_ | refine blk_alloc ?_ _)); exact BK253.out) hb); have n6_ := Aside0.mk (blk_below (g := gb258) (o := .cells #[.int .i64 t254, .slice Ao36 t279.length co36] 26 (0, 0)) (by (with_reducible repeat (first | refine blk_drewN ?_ _ | refine blk_drew ?_ | refine blk_alloc ?_ _)); exact BK258.out) hb); have n7_ := Aside0.mk (blk_below (g := gb267) (o := .cells #[.int .i64 t262, .slice Ao46 t284.length co46] 26 (0, 0)) (by (with_reducible repeat (first | refine blk_drewN ?_ _ | refine blk_drew ?_ | refine blk_alloc ?_ _)); exact BK267.out) hb); have n8_ := Aside0.mk (blk_below (g := gb298) (o := .cells #[.int .i64 t293, .slice Ao143 t294.length co143] 26 (0, 0)) (by (with_reducible repeat (first | refine blk_drewN ?_ _ | refine blk_drew ?_ | refine blk_alloc ?_ _)); exact BK298.out) hb); have n9_ := Aside0.mk (below_step (by repeat (first | (with_reducible first | exact HB.out | apply below_alloc | apply pw_below_drewN | apply below_drew1 | refine below_set ?_ GE239.out | refine below_set ?_ GE253.out | refine below_set ?_ GE258.out | refine below_set ?_ GE267.out | refine below_set ?_ GE298.out) | exact HB.out)) hb); clear HO_254001; clear HO_259001; clear HO_268001; clear HO_299001; clear BK239; clear BK253; clear BK258; clear BK267; clear BK298; clear HB; have HO_254001 := n0_; have HO_259001 := n1_; have HO_268001 := n2_; have HO_299001 := n3_; have BK239 := n4_; have BK253 := n5_; have BK258 := n6_; have BK267 := n7_; have BK298 := n8_; have HB := n9_; clear n0_ n1_ n2_ n3_ n4_ n5_ n6_ n7_ n8_ n9_; (try clear hb); (try clear hb2); (try clear hk); (try clear hi)))
        go_ret
        exact ⟨by first | rfl | (simp [errW_none, errW_some] <;> rfl) | (simp [*, errW_none, errW_some] <;> rfl), by repeat (first | (with_reducible first | exact HB.out | apply below_alloc | apply pw_below_drewN | apply below_drew1 | refine below_set ?_ GE239.out | refine below_set ?_ GE253.out | refine below_set ?_ GE258.out | refine below_set ?_ GE267.out | refine below_set ?_ GE298.out) | exact HB.out)⟩
       ·rw [if_neg c168] at H
        have c168b0 : decide (t300 < 0) = false := decide_eq_false c168
        clear c168
        by_cases c175 : t300 = t283
        ·rw [if_pos c175] at H
         have c175b0 : (t300 == t283) = true := beq_iff_eq.mpr c175
         have c175b1 : (t300 != t283) = false := bne_eq_false_iff_eq.mpr c175
         clear c175
         obtain rfl := Option.some.inj H
         have hnb176 := NB267_239.out
         have hnc176 := NB239_267.out
         have hnb177 := NB267_253.out
         have hnc177 := NB253_267.out
         have hnb178 := NB267_258.out
         have hnc178 := NB258_267.out
         have hnb179 := NB267_298.out
         have hnc179 := NB298_267.out
         have hcz180_0 : wc.cell? ⟨gb267, 0, none⟩ = some (.int .i64 t262) := (blk_cell BK267.out 0).trans rfl
         have hcz180_1 : wc.cell? ⟨gb267, 1, none⟩ = some (.slice Ao46 t284.length co46) := (blk_cell BK267.out 1).trans rfl
         have hfz180_0 := blk_frozen BK267.out 0
         have hfz180_1 := blk_frozen BK267.out 1
         go_wp2_with (first | ((with_reducible refine gate_callee (f := 16) rfl ?_); refine goesL_ (some 111) rfl rfl Tryd.func16 (by kernel_rfl) rfl #[.agg #[.int .i64 t262, .slice Ao46 t284.length co46], .int .i64 1] rfl (by (try simp only [List.map_toArray, List.map_cons, List.map_nil]); first | done | rfl | (simp only [List.length_drop, List.length_take]; rfl)) ?_; (with_reducible refine (laws_heldGraph.calls kj120 t262 _ _ t284 1 t300 _ ?side1 ?side2 A167.out).mono ?_); (case side1 => repeat (first | exact (Kd.R_reads' HO_268001.out).2.2 | (with_reducible refine Kd.C_alloc ?_ _) | (with_reducible refine Kd.C_drewN ?_ _) | (with_reducible refine Kd.C_drew ?_))); (case side2 => exact (Kd.R_reads' HO_268001.out).2.1); rintro e w181 ⟨rfl, hb⟩; refine ⟨_, rfl, ?_⟩; have n0_ := Aside0.mk (Kd.R_below (by (with_reducible repeat (first | apply Kd.R_alloc | apply Kd.R_drewN | apply Kd.R_drew)); exact HO_254001.out) hb); have n1_ := Aside0.mk (Kd.R_below (by (with_reducible repeat (first | apply Kd.R_alloc | apply Kd.R_drewN | apply Kd.R_drew)); exact HO_259001.out) hb); have n2_ := Aside0.mk (Kd.R_below (by (with_reducible repeat (first | apply Kd.R_alloc | apply Kd.R_drewN | apply Kd.R_drew)); exact HO_268001.out) hb); have n3_ := Aside0.mk (Kd.R_below (by (with_reducible repeat (first | apply Kd.R_alloc | apply Kd.R_drewN | apply Kd.R_drew)); exact HO_299001.out) hb); have n4_ := Aside0.mk (blk_below (g := gb239) (o := .cells #[.int .i64 a0_0, .slice A0_1 l0_1.length c0_1] 24 (0, 0)) (by (with_reducible repeat (first | refine blk_drewN ?_ _ | refine blk_drew ?_ | refine blk_alloc ?_ _)); exact BK239.out) hb); have n5_ := Aside0.mk (blk_below (g := gb253) (o := .cells #[.int .i64 t248, .slice Ao29 t249.length co29] 26 (0, 0)) (by (with_reducible repeat (first | refine blk_drewN ?_ _ | refine blk_drew ?_ | refine blk_alloc ?_ _)); exact BK253.out) hb); have n6_ := Aside0.mk (blk_below (g := gb258) (o := .cells #[.int .i64 t254, .slice Ao36 t279.length co36] 26 (0, 0)) (by (with_reducible repeat (first | refine blk_drewN ?_ _ | refine blk_drew ?_ | refine blk_alloc ?_ _)); exact BK258.out) hb); have n7_ := Aside0.mk (blk_below (g := gb267) (o := .cells #[.int .i64 t262, .slice Ao46 t284.length co46] 26 (0, 0)) (by (with_reducible repeat (first | refine blk_drewN ?_ _ | refine blk_drew ?_ | refine blk_alloc ?_ _)); exact BK267.out) hb); have n8_ := Aside0.mk (blk_below (g := gb298) (o := .cells #[.int .i64 t293, .slice Ao143 t294.length co143] 26 (0, 0)) (by (with_reducible repeat (first | refine blk_drewN ?_ _ | refine blk_drew ?_ | refine blk_alloc ?_ _)); exact BK298.out) hb); have n9_ := Aside0.mk (below_step (by repeat (first | (with_reducible first | exact HB.out | apply below_alloc | apply pw_below_drewN | apply below_drew1 | refine below_set ?_ GE239.out | refine below_set ?_ GE253.out | refine below_set ?_ GE258.out | refine below_set ?_ GE267.out | refine below_set ?_ GE298.out) | exact HB.out)) hb); clear HO_254001; clear HO_259001; clear HO_268001; clear HO_299001; clear BK239; clear BK253; clear BK258; clear BK267; clear BK298; clear HB; have HO_254001 := n0_; have HO_259001 := n1_; have HO_268001 := n2_; have HO_299001 := n3_; have BK239 := n4_; have BK253 := n5_; have BK258 := n6_; have BK267 := n7_; have BK298 := n8_; have HB := n9_; clear n0_ n1_ n2_ n3_ n4_ n5_ n6_ n7_ n8_ n9_; (try clear hb); (try clear hb2); (try clear hk); (try clear hi)))
         go_ret
         exact ⟨by first | rfl | (simp [errW_none, errW_some] <;> rfl) | (simp [*, errW_none, errW_some] <;> rfl), by repeat (first | (with_reducible first | exact HB.out | apply below_alloc | apply pw_below_drewN | apply below_drew1 | refine below_set ?_ GE239.out | refine below_set ?_ GE253.out | refine below_set ?_ GE258.out | refine below_set ?_ GE267.out | refine below_set ?_ GE298.out) | exact HB.out)⟩
        ·rw [if_neg c175] at H
         have c175b0 : (t300 == t283) = false := beq_eq_false_iff_ne.mpr c175
         have c175b1 : (t300 != t283) = true := bne_iff_ne.mpr c175
         obtain rfl := Option.some.inj H
         have hnb182 := NB267_239.out
         have hnc182 := NB239_267.out
         have hnb183 := NB267_253.out
         have hnc183 := NB253_267.out
         have hnb184 := NB267_258.out
         have hnc184 := NB258_267.out
         have hnb185 := NB267_298.out
         have hnc185 := NB298_267.out
         have hcz186_0 : wc.cell? ⟨gb267, 0, none⟩ = some (.int .i64 t262) := (blk_cell BK267.out 0).trans rfl
         have hcz186_1 : wc.cell? ⟨gb267, 1, none⟩ = some (.slice Ao46 t284.length co46) := (blk_cell BK267.out 1).trans rfl
         have hfz186_0 := blk_frozen BK267.out 0
         have hfz186_1 := blk_frozen BK267.out 1
         go_wp2_with (first | ((with_reducible refine gate_callee (f := 16) rfl ?_); refine goesL_ (some 111) rfl rfl Tryd.func16 (by kernel_rfl) rfl #[.agg #[.int .i64 t262, .slice Ao46 t284.length co46], .int .i64 1] rfl (by (try simp only [List.map_toArray, List.map_cons, List.map_nil]); first | done | rfl | (simp only [List.length_drop, List.length_take]; rfl)) ?_; (with_reducible refine (laws_heldGraph.calls kj120 t262 _ _ t284 1 t300 _ ?side1 ?side2 A167.out).mono ?_); (case side1 => repeat (first | exact (Kd.R_reads' HO_268001.out).2.2 | (with_reducible refine Kd.C_alloc ?_ _) | (with_reducible refine Kd.C_drewN ?_ _) | (with_reducible refine Kd.C_drew ?_))); (case side2 => exact (Kd.R_reads' HO_268001.out).2.1); rintro e w187 ⟨rfl, hb⟩; refine ⟨_, rfl, ?_⟩; have n0_ := Aside0.mk (Kd.R_below (by (with_reducible repeat (first | apply Kd.R_alloc | apply Kd.R_drewN | apply Kd.R_drew)); exact HO_254001.out) hb); have n1_ := Aside0.mk (Kd.R_below (by (with_reducible repeat (first | apply Kd.R_alloc | apply Kd.R_drewN | apply Kd.R_drew)); exact HO_259001.out) hb); have n2_ := Aside0.mk (Kd.R_below (by (with_reducible repeat (first | apply Kd.R_alloc | apply Kd.R_drewN | apply Kd.R_drew)); exact HO_268001.out) hb); have n3_ := Aside0.mk (Kd.R_below (by (with_reducible repeat (first | apply Kd.R_alloc | apply Kd.R_drewN | apply Kd.R_drew)); exact HO_299001.out) hb); have n4_ := Aside0.mk (blk_below (g := gb239) (o := .cells #[.int .i64 a0_0, .slice A0_1 l0_1.length c0_1] 24 (0, 0)) (by (with_reducible repeat (first | refine blk_drewN ?_ _ | refine blk_drew ?_ | refine blk_alloc ?_ _)); exact BK239.out) hb); have n5_ := Aside0.mk (blk_below (g := gb253) (o := .cells #[.int .i64 t248, .slice Ao29 t249.length co29] 26 (0, 0)) (by (with_reducible repeat (first | refine blk_drewN ?_ _ | refine blk_drew ?_ | refine blk_alloc ?_ _)); exact BK253.out) hb); have n6_ := Aside0.mk (blk_below (g := gb258) (o := .cells #[.int .i64 t254, .slice Ao36 t279.length co36] 26 (0, 0)) (by (with_reducible repeat (first | refine blk_drewN ?_ _ | refine blk_drew ?_ | refine blk_alloc ?_ _)); exact BK258.out) hb); have n7_ := Aside0.mk (blk_below (g := gb267) (o := .cells #[.int .i64 t262, .slice Ao46 t284.length co46] 26 (0, 0)) (by (with_reducible repeat (first | refine blk_drewN ?_ _ | refine blk_drew ?_ | refine blk_alloc ?_ _)); exact BK267.out) hb); have n8_ := Aside0.mk (blk_below (g := gb298) (o := .cells #[.int .i64 t293, .slice Ao143 t294.length co143] 26 (0, 0)) (by (with_reducible repeat (first | refine blk_drewN ?_ _ | refine blk_drew ?_ | refine blk_alloc ?_ _)); exact BK298.out) hb); have n9_ := Aside0.mk (below_step (by repeat (first | (with_reducible first | exact HB.out | apply below_alloc | apply pw_below_drewN | apply below_drew1 | refine below_set ?_ GE239.out | refine below_set ?_ GE253.out | refine below_set ?_ GE258.out | refine below_set ?_ GE267.out | refine below_set ?_ GE298.out) | exact HB.out)) hb); clear HO_254001; clear HO_259001; clear HO_268001; clear HO_299001; clear BK239; clear BK253; clear BK258; clear BK267; clear BK298; clear HB; have HO_254001 := n0_; have HO_259001 := n1_; have HO_268001 := n2_; have HO_299001 := n3_; have BK239 := n4_; have BK253 := n5_; have BK258 := n6_; have BK267 := n7_; have BK298 := n8_; have HB := n9_; clear n0_ n1_ n2_ n3_ n4_ n5_ n6_ n7_ n8_ n9_; (try clear hb); (try clear hb2); (try clear hk); (try clear hi)))
         go_ret
         exact ⟨by first | rfl | (simp [errW_none, errW_some] <;> rfl) | (simp [*, errW_none, errW_some] <;> rfl), by repeat (first | (with_reducible first | exact HB.out | apply below_alloc | apply pw_below_drewN | apply below_drew1 | refine below_set ?_ GE239.out | refine below_set ?_ GE253.out | refine below_set ?_ GE258.out | refine below_set ?_ GE267.out | refine below_set ?_ GE298.out) | exact HB.out)⟩
   ·rw [if_neg c117] at H
    have c117b0 : (t285 == t283) = false := beq_eq_false_iff_ne.mpr c117
    have c117b1 : (t285 != t283) = true := bne_iff_ne.mpr c117
    obtain rfl := Option.some.inj H
    have hnb188 := NB267_239.out
    have hnc188 := NB239_267.out
    have hnb189 := NB267_253.out
    have hnc189 := NB253_267.out
    have hnb190 := NB267_258.out
    have hnc190 := NB258_267.out
    have hcz191_0 : wc.cell? ⟨gb267, 0, none⟩ = some (.int .i64 t262) := (blk_cell BK267.out 0).trans rfl
    have hcz191_1 : wc.cell? ⟨gb267, 1, none⟩ = some (.slice Ao46 t263.length co46) := (blk_cell BK267.out 1).trans rfl
    have hfz191_0 := blk_frozen BK267.out 0
    have hfz191_1 := blk_frozen BK267.out 1
    go_wp2_with (first | ((with_reducible refine gate_callee (f := 14) rfl ?_); refine goesL_ (some 83) rfl rfl Tryd.func14 (by kernel_rfl) rfl #[.agg #[.int .i64 t262, .slice Ao46 t263.length co46], .int .i64 1] rfl (by (try simp only [List.map_toArray, List.map_cons, List.map_nil]); first | done | rfl | (simp only [List.length_drop, List.length_take]; rfl)) ?_; (with_reducible refine (laws_markGraph.calls kj73 t262 (fun k_ => some k_ = (.slice Ao46 t263.length co46 : Value).ownBlock) (.slice Ao46 t263.length co46) t263 1 t283 t284 w _ ?side1 ?side2 A107.out).mono ?_); (case side1 => repeat (first | (with_reducible first | exact HB.out | apply below_alloc | apply pw_below_drewN | apply below_drew1 | refine below_set ?_ GE239.out | refine below_set ?_ GE253.out | refine below_set ?_ GE258.out | refine below_set ?_ GE267.out) | exact HB.out)); (case side2 => exact Kd.R_tight rfl HO_268001.out); rintro e w192 ⟨rfl, hy0, hb, hkp⟩; refine ⟨_, rfl, ?_⟩; have n0_ := Aside0.mk (Kd.R_mono (ok' := fun k_ => some k_ ≠ (.slice Ao36 t279.length co36 : Value).ownBlock ∧ some k_ ≠ (.slice Ao46 t263.length co46 : Value).ownBlock) (Kd.R_keptB (HO_254001.out) hkp (fun k_ hk_ hs_ => (hk_.2) hs_)) (fun k_ hk_ => ⟨hk_.1.1, hk_.1.2⟩)); have n1_ := Aside0.mk (Kd.R_mono (ok' := fun k_ => some k_ ≠ (.slice Ao29 t249.length co29 : Value).ownBlock ∧ some k_ ≠ (.slice Ao46 t263.length co46 : Value).ownBlock) (Kd.R_keptB (HO_259001.out) hkp (fun k_ hk_ hs_ => (hk_.2) hs_)) (fun k_ hk_ => ⟨hk_.1.1, hk_.1.2⟩)); have n2_ := Aside0.mk (Kd.R_reok rfl hy0 (fun k_ e_ => HO_268001.out.1 k_ e_)); have n3_ := Aside0.mk (blk_kept (by (with_reducible repeat (first | refine blk_drewN ?_ _ | refine blk_drew ?_ | refine blk_alloc ?_ _)); exact BK239.out) hkp (fun hs_ => (fun e_ => (Kd.R_ne HO_268001.out BK239.out (by decide)) e_) hs_)); have n4_ := Aside0.mk (blk_kept (by (with_reducible repeat (first | refine blk_drewN ?_ _ | refine blk_drew ?_ | refine blk_alloc ?_ _)); exact BK253.out) hkp (fun hs_ => (fun e_ => (Kd.R_ne HO_268001.out BK253.out (by decide)) e_) hs_)); have n5_ := Aside0.mk (blk_kept (by (with_reducible repeat (first | refine blk_drewN ?_ _ | refine blk_drew ?_ | refine blk_alloc ?_ _)); exact BK258.out) hkp (fun hs_ => (fun e_ => (Kd.R_ne HO_268001.out BK258.out (by decide)) e_) hs_)); have n6_ := Aside0.mk (blk_kept (by (with_reducible repeat (first | refine blk_drewN ?_ _ | refine blk_drew ?_ | refine blk_alloc ?_ _)); exact BK267.out) hkp (fun hs_ => (fun e_ => (Kd.R_ne HO_268001.out BK267.out (by decide)) e_) hs_)); have n7_ := Aside0.mk (hb); clear HO_254001; clear HO_259001; clear HO_268001; clear BK239; clear BK253; clear BK258; clear BK267; clear HB; have HO_254001 := n0_; have HO_259001 := n1_; have HO_268001 := n2_; have BK239 := n3_; have BK253 := n4_; have BK258 := n5_; have BK267 := n6_; have HB := n7_; clear n0_ n1_ n2_ n3_ n4_ n5_ n6_ n7_; (try clear hb); (try clear hkp); (try clear hy0); have hcz193_0 : w192.cell? ⟨gb267, 0, none⟩ = some (.int .i64 t262) := (blk_cell BK267.out 0).trans rfl; have hcz193_1 : w192.cell? ⟨gb267, 1, none⟩ = some (.slice Ao46 t263.length co46) := (blk_cell BK267.out 1).trans rfl; have hfz193_0 := blk_frozen BK267.out 0; have hfz193_1 := blk_frozen BK267.out 1) | ((with_reducible refine gate_callee (f := 16) rfl ?_); refine goesL_ (some 86) rfl rfl Tryd.func16 (by kernel_rfl) rfl #[.agg #[.int .i64 t262, .slice Ao46 t284.length co46], .int .i64 1] rfl (by (try simp only [List.map_toArray, List.map_cons, List.map_nil]); first | done | (rw [show t284.length = t263.length from (Kd.R_reads' HO_268001.out).1.symm] <;> rfl) | rfl | (simp only [List.length_drop, List.length_take]; rfl)) ?_; (with_reducible refine (laws_heldGraph.calls kj73 t262 _ _ t284 1 t285 _ ?side1 ?side2 A108.out).mono ?_); (case side1 => repeat (first | exact (Kd.R_reads' HO_268001.out).2.2 | (with_reducible refine Kd.C_alloc ?_ _) | (with_reducible refine Kd.C_drewN ?_ _) | (with_reducible refine Kd.C_drew ?_))); (case side2 => rw [show t284.length = t263.length from (Kd.R_reads' HO_268001.out).1.symm]; exact (Kd.R_reads' HO_268001.out).2.1); rintro e w194 ⟨rfl, hb⟩; refine ⟨_, rfl, ?_⟩; have n0_ := Aside0.mk (Kd.R_below (by (with_reducible repeat (first | apply Kd.R_alloc | apply Kd.R_drewN | apply Kd.R_drew)); exact HO_254001.out) hb); have n1_ := Aside0.mk (Kd.R_below (by (with_reducible repeat (first | apply Kd.R_alloc | apply Kd.R_drewN | apply Kd.R_drew)); exact HO_259001.out) hb); have n2_ := Aside0.mk (Kd.R_below (by (with_reducible repeat (first | apply Kd.R_alloc | apply Kd.R_drewN | apply Kd.R_drew)); exact HO_268001.out) hb); have n3_ := Aside0.mk (blk_below (g := gb239) (o := .cells #[.int .i64 a0_0, .slice A0_1 l0_1.length c0_1] 24 (0, 0)) (by (with_reducible repeat (first | refine blk_drewN ?_ _ | refine blk_drew ?_ | refine blk_alloc ?_ _)); exact BK239.out) hb); have n4_ := Aside0.mk (blk_below (g := gb253) (o := .cells #[.int .i64 t248, .slice Ao29 t249.length co29] 26 (0, 0)) (by (with_reducible repeat (first | refine blk_drewN ?_ _ | refine blk_drew ?_ | refine blk_alloc ?_ _)); exact BK253.out) hb); have n5_ := Aside0.mk (blk_below (g := gb258) (o := .cells #[.int .i64 t254, .slice Ao36 t279.length co36] 26 (0, 0)) (by (with_reducible repeat (first | refine blk_drewN ?_ _ | refine blk_drew ?_ | refine blk_alloc ?_ _)); exact BK258.out) hb); have n6_ := Aside0.mk (blk_below (g := gb267) (o := .cells #[.int .i64 t262, .slice Ao46 t263.length co46] 26 (0, 0)) (by (with_reducible repeat (first | refine blk_drewN ?_ _ | refine blk_drew ?_ | refine blk_alloc ?_ _)); exact BK267.out) hb); have n7_ := Aside0.mk (below_step (by repeat (first | (with_reducible first | exact HB.out | apply below_alloc | apply pw_below_drewN | apply below_drew1 | refine below_set ?_ GE239.out | refine below_set ?_ GE253.out | refine below_set ?_ GE258.out | refine below_set ?_ GE267.out) | exact HB.out)) hb); clear HO_254001; clear HO_259001; clear HO_268001; clear BK239; clear BK253; clear BK258; clear BK267; clear HB; have HO_254001 := n0_; have HO_259001 := n1_; have HO_268001 := n2_; have BK239 := n3_; have BK253 := n4_; have BK258 := n5_; have BK267 := n6_; have HB := n7_; clear n0_ n1_ n2_ n3_ n4_ n5_ n6_ n7_; (try clear hb); (try clear hb2); (try clear hk); (try clear hi)))
    go_ret
    exact ⟨by first | rfl | (simp [errW_none, errW_some] <;> rfl) | (simp [*, errW_none, errW_some] <;> rfl), by repeat (first | (with_reducible first | exact HB.out | apply below_alloc | apply pw_below_drewN | apply below_drew1 | refine below_set ?_ GE239.out | refine below_set ?_ GE253.out | refine below_set ?_ GE258.out | refine below_set ?_ GE267.out) | exact HB.out)⟩
theorem laws_FnExactRenumberGraph.calls (k : Nat) (a0_0 : Int) (A0_1 : Option Addr) (c0_1 : Nat) (l0_1 : List Int) (A1 : Option Addr) (c1 : Nat) (l1 : List Int) (r : Bool) (w : World) (hr0_1 : Kd.C (Kd.int .i64) w A0_1 l0_1.length l0_1) (hc0_1 : l0_1.length ≤ c0_1) (hr1 : Kd.C (Kd.int .i64) w A1 l1.length l1) (hc1 : l1.length ≤ c1) (ht : Tab w) (h : laws_FnExactRenumberGraph.f k a0_0 l0_1 l1 = some r) :
    Calls Tryd.prog 3 #[.agg #[.int .i64 a0_0, .slice A0_1 l0_1.length c0_1], .slice A1 l1.length c1] w fun e w' => e = .returned (.bool r) ∧ Below w.heap.size w w' := by
 exact (laws_FnExactRenumberGraph.calls.cut0.2 (laws_FnExactRenumberGraph.calls.cut1.2 laws_FnExactRenumberGraph.calls.part2)) k a0_0 A0_1 c0_1 l0_1 A1 c1 l1 r w hr0_1 hc0_1 hr1 hc1 ht h
end Go.Proofs.YthnjnhdalpcfpaaDoor.XFnExactRenumberGraph
