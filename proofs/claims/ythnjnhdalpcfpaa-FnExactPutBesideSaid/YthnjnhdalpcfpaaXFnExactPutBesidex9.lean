-- Written by this project's own program (mprint.py, cut3.py) by means of the kit's printer.
import Derived.Test.YthnjnhdalpcfpaaXFnExactPutBesidex0
import Derived.Test.YthnjnhdalpcfpaaXFnExactPutBesidex1
import Derived.Test.YthnjnhdalpcfpaaXFnExactPutBesidex2
import Derived.Test.YthnjnhdalpcfpaaXFnExactPutBesidex3
import Derived.Test.YthnjnhdalpcfpaaXFnExactPutBesidex4
import Derived.Test.YthnjnhdalpcfpaaXFnExactPutBesidex5
import Derived.Test.YthnjnhdalpcfpaaXFnExactPutBesidex6
import Derived.Test.YthnjnhdalpcfpaaXFnExactPutBesidex7
import Derived.Test.YthnjnhdalpcfpaaXFnExactPutBesidex8
namespace Go.Proofs.Ythnjnhdalpcfpaa.XFnExactPutBeside
open Go.RowKit Go.Proofs.YthnjnhdalpcfpaaW.PrintWords Go.Proofs.YthnjnhdalpcfpaaW.PrintLast Go.Proofs.YthnjnhdalpcfpaaW.PrintMore
attribute [local go_sem] max2_int min2_int max_two min_two max_three min_three max_four min_four
set_option linter.unusedVariables false
set_option linter.unusedSimpArgs false
set_option maxHeartbeats 8000000 in
set_option maxRecDepth 100000 in
noncomputable def laws_FnExactPutBeside.calls.cut1 : PSigma fun P_ : Prop => P_ → laws_FnExactPutBeside.calls.cut0.1 := by
 apply PSigma.mk
 case snd =>
  intro hP_
  replace hP_ := KeptP_.mk hP_
  intro k a0_0 A0_1 c0_1 l0_1 a1_0 A1_1 c1_1 l1_1 r w hu41 hu34 HR0_1 HC0_1 HR1_1 HC1_1 t173 A3 c4b0 t174 A10 c11b0 t175 t176 A19 t179 t180 A20 t183 t184 t187 A21 t189 t190 A22 t194 t195 A23 t199 t200 t203 A24 q0_1_ gb171 w26 GW171 GE171 gb172 w27 GW172 GE172 NB171_172 NB172_171 hnb28 hnc28 hcz29_0 hcz29_1 hfz29_0 hfz29_1 w30 hcz31_0 hcz31_1 hfz31_0 hfz31_1 w32 HT_ HW_ w33 q0_2_ v177 v181 gb188 w40 hS_ GW188 GE188 NB171_188 NB188_171 NB172_188 NB188_172 q0_3_ Ao42 co42 hs41 hfs41 hns41_0 hns41_1 hms41_0 hms41_1 hs43 hfs43 hns43_0 hns43_1 hms43_0 hms43_1 hHeld hnb44 hnc44 w46 gb193 w47 GW193 GE193 NB171_193 NB193_171 NB172_193 NB193_172 NB188_193 NB193_188 hnb48 hnc48 hnb49 hnc49 hnb50 hnc50 Ao52 co52 hnb53 hnc53 w55 gb198 w56 GW198 GE198 NB171_198 NB198_171 NB172_198 NB198_172 NB188_198 NB198_188 NB193_198 NB198_193 hnb57 hnc57 hnb58 hnc58 hnb59 hnc59 hnb60 hnc60 Ao62 co62 w64 gb204 w65 q0_4_ q0_5_ q0_6_ q0_7_ q0_8_ q0_9_ q0_10_ GW204 GE204 NB171_204 NB204_171 NB172_204 NB204_172 NB188_204 NB204_188 NB193_204 NB204_193 NB198_204 NB204_198 hnb66 hnc66 hnb67 hnc67 hnb68 hnc68 hnb69 hnc69 hnb70 hnc70 Ao72 co72 HO178 HO182 HO186 HO192 HO197 HO202 q0_11_ q0_12_ q0_13_ q0_14_ wc u17 u18 u19 u20 u21 u22 u23 u24 u25 u26 u27 u28 u29 u30 u31 u32 u33 u34 u35 u36 u37 u38 u39 u40 u41 u42 u43 u44 u45 u46 u47 u48 u49 u50 u51 u52 u54 u55 u56 u57 u58 u59 u60 u61 u62 u63 u64 u65 u66 u67 u68 u69 u70 u71 u72 u73 u74 u75 u76 u77 u78 u79 u80 u81 u82 u83 u84 u85 u86 u87 u88 u89 u90 u91 u92 u93 u94 u95 u96 u97 u98 u99 u100 u101 u102 u103 u104 u105 u106 u107 u108 u109 u110 u111 u112 u113 u114 u115 u116 u117 u118 x53_24 HO_189001 HO_194001 HO_199001 HO_205001 BK171 BK172 BK188 BK193 BK198 BK204 HB kj24 HA HJ24
  have H := HA.out
  clear HA
  simp only [laws_FnExactPutBeside.j0] at H
  by_cases c99 : x53_24 = true
  ·subst c99
   have H1 : (some false) = some r := by rw [if_pos rfl] at H; exact H
   clear H
   have H := H1
   clear H1
   obtain rfl := Option.some.inj H
   go_wp2
   go_ret
   exact ⟨by first | rfl | (simp [errW_none, errW_some] <;> rfl) | (simp [*, errW_none, errW_some] <;> rfl), by repeat (first | (with_reducible first | exact HB.out | apply below_alloc | apply pw_below_drewN | apply below_drew1 | refine below_set ?_ GE171.out | refine below_set ?_ GE172.out | refine below_set ?_ GE188.out | refine below_set ?_ GE193.out | refine below_set ?_ GE198.out | refine below_set ?_ GE204.out) | exact HB.out)⟩
  ·replace c99 := Bool.eq_false_iff.mpr c99
   subst c99
   have H1 : ((laws_toGraph.f kj24 a0_0 l0_1).bind fun bt206 => ((laws_eqGraph.f kj24 t189 t190 bt206.1 bt206.2).bind fun t210 => (if t210 = true then ((laws_toGraph.f kj24 a1_0 l1_1).bind fun bt211 => ((laws_eqGraph.f kj24 t194 t195 bt211.1 bt211.2).bind fun t215 => (if t215 = true then ((laws_markGraph.f kj24 t189 t190 1).bind fun bt216 => ((laws_markGraph.f kj24 t194 t195 bt216.1).bind fun bt218 => (if bt218.1 < 0 then (laws_FnExactPutBeside.j1 kj24 t187 true a0_0 l0_1 a1_0 l1_1 t183 t184 t199 t200) else ((laws_eqGraph.f kj24 t199 t200 t183 t184).bind fun t220 => (if t220 = true then (laws_FnExactPutBeside.j1 kj24 t187 (t203 != t187) a0_0 l0_1 a1_0 l1_1 t183 t184 t199 t200) else (laws_FnExactPutBeside.j1 kj24 t187 true a0_0 l0_1 a1_0 l1_1 t183 t184 t199 t200)))))) else (some false)))) else (some false)))) = some r := by rw [if_neg (show ¬ (false = true) by decide)] at H; exact H
   clear H
   have H := H1
   clear H1
   replace H := Option.bind_eq_some_iff.mp H
   obtain ⟨⟨t206, t207⟩, A1000, H⟩ := H
   replace H : ((laws_eqGraph.f kj24 t189 t190 t206 t207).bind fun t210 => (if t210 = true then ((laws_toGraph.f kj24 a1_0 l1_1).bind fun bt211 => ((laws_eqGraph.f kj24 t194 t195 bt211.1 bt211.2).bind fun t215 => (if t215 = true then ((laws_markGraph.f kj24 t189 t190 1).bind fun bt216 => ((laws_markGraph.f kj24 t194 t195 bt216.1).bind fun bt218 => (if bt218.1 < 0 then (laws_FnExactPutBeside.j1 kj24 t187 true a0_0 l0_1 a1_0 l1_1 t183 t184 t199 t200) else ((laws_eqGraph.f kj24 t199 t200 t183 t184).bind fun t220 => (if t220 = true then (laws_FnExactPutBeside.j1 kj24 t187 (t203 != t187) a0_0 l0_1 a1_0 l1_1 t183 t184 t199 t200) else (laws_FnExactPutBeside.j1 kj24 t187 true a0_0 l0_1 a1_0 l1_1 t183 t184 t199 t200)))))) else (some false)))) else (some false))) = some r := H
   have A100 := Aside0.mk A1000
   clear A1000
   replace H := Option.bind_eq_some_iff.mp H
   obtain ⟨t210, A1010, H⟩ := H
   replace H : (if t210 = true then ((laws_toGraph.f kj24 a1_0 l1_1).bind fun bt211 => ((laws_eqGraph.f kj24 t194 t195 bt211.1 bt211.2).bind fun t215 => (if t215 = true then ((laws_markGraph.f kj24 t189 t190 1).bind fun bt216 => ((laws_markGraph.f kj24 t194 t195 bt216.1).bind fun bt218 => (if bt218.1 < 0 then (laws_FnExactPutBeside.j1 kj24 t187 true a0_0 l0_1 a1_0 l1_1 t183 t184 t199 t200) else ((laws_eqGraph.f kj24 t199 t200 t183 t184).bind fun t220 => (if t220 = true then (laws_FnExactPutBeside.j1 kj24 t187 (t203 != t187) a0_0 l0_1 a1_0 l1_1 t183 t184 t199 t200) else (laws_FnExactPutBeside.j1 kj24 t187 true a0_0 l0_1 a1_0 l1_1 t183 t184 t199 t200)))))) else (some false)))) else (some false)) = some r := H
   have A101 := Aside0.mk A1010
   clear A1010
   by_cases c102 : t210 = true
   ·subst c102
    have H1 : ((laws_toGraph.f kj24 a1_0 l1_1).bind fun bt211 => ((laws_eqGraph.f kj24 t194 t195 bt211.1 bt211.2).bind fun t215 => (if t215 = true then ((laws_markGraph.f kj24 t189 t190 1).bind fun bt216 => ((laws_markGraph.f kj24 t194 t195 bt216.1).bind fun bt218 => (if bt218.1 < 0 then (laws_FnExactPutBeside.j1 kj24 t187 true a0_0 l0_1 a1_0 l1_1 t183 t184 t199 t200) else ((laws_eqGraph.f kj24 t199 t200 t183 t184).bind fun t220 => (if t220 = true then (laws_FnExactPutBeside.j1 kj24 t187 (t203 != t187) a0_0 l0_1 a1_0 l1_1 t183 t184 t199 t200) else (laws_FnExactPutBeside.j1 kj24 t187 true a0_0 l0_1 a1_0 l1_1 t183 t184 t199 t200)))))) else (some false)))) = some r := by rw [if_pos rfl] at H; exact H
    clear H
    have H := H1
    clear H1
    replace H := Option.bind_eq_some_iff.mp H
    obtain ⟨⟨t211, t212⟩, A1030, H⟩ := H
    replace H : ((laws_eqGraph.f kj24 t194 t195 t211 t212).bind fun t215 => (if t215 = true then ((laws_markGraph.f kj24 t189 t190 1).bind fun bt216 => ((laws_markGraph.f kj24 t194 t195 bt216.1).bind fun bt218 => (if bt218.1 < 0 then (laws_FnExactPutBeside.j1 kj24 t187 true a0_0 l0_1 a1_0 l1_1 t183 t184 t199 t200) else ((laws_eqGraph.f kj24 t199 t200 t183 t184).bind fun t220 => (if t220 = true then (laws_FnExactPutBeside.j1 kj24 t187 (t203 != t187) a0_0 l0_1 a1_0 l1_1 t183 t184 t199 t200) else (laws_FnExactPutBeside.j1 kj24 t187 true a0_0 l0_1 a1_0 l1_1 t183 t184 t199 t200)))))) else (some false))) = some r := H
    have A103 := Aside0.mk A1030
    clear A1030
    replace H := Option.bind_eq_some_iff.mp H
    obtain ⟨t215, A1040, H⟩ := H
    replace H : (if t215 = true then ((laws_markGraph.f kj24 t189 t190 1).bind fun bt216 => ((laws_markGraph.f kj24 t194 t195 bt216.1).bind fun bt218 => (if bt218.1 < 0 then (laws_FnExactPutBeside.j1 kj24 t187 true a0_0 l0_1 a1_0 l1_1 t183 t184 t199 t200) else ((laws_eqGraph.f kj24 t199 t200 t183 t184).bind fun t220 => (if t220 = true then (laws_FnExactPutBeside.j1 kj24 t187 (t203 != t187) a0_0 l0_1 a1_0 l1_1 t183 t184 t199 t200) else (laws_FnExactPutBeside.j1 kj24 t187 true a0_0 l0_1 a1_0 l1_1 t183 t184 t199 t200)))))) else (some false)) = some r := H
    have A104 := Aside0.mk A1040
    clear A1040
    by_cases c105 : t215 = true
    ·subst c105
     have H1 : ((laws_markGraph.f kj24 t189 t190 1).bind fun bt216 => ((laws_markGraph.f kj24 t194 t195 bt216.1).bind fun bt218 => (if bt218.1 < 0 then (laws_FnExactPutBeside.j1 kj24 t187 true a0_0 l0_1 a1_0 l1_1 t183 t184 t199 t200) else ((laws_eqGraph.f kj24 t199 t200 t183 t184).bind fun t220 => (if t220 = true then (laws_FnExactPutBeside.j1 kj24 t187 (t203 != t187) a0_0 l0_1 a1_0 l1_1 t183 t184 t199 t200) else (laws_FnExactPutBeside.j1 kj24 t187 true a0_0 l0_1 a1_0 l1_1 t183 t184 t199 t200)))))) = some r := by rw [if_pos rfl] at H; exact H
     clear H
     have H := H1
     clear H1
     replace H := Option.bind_eq_some_iff.mp H
     obtain ⟨⟨t216, t217⟩, A1060, H⟩ := H
     replace H : ((laws_markGraph.f kj24 t194 t195 t216).bind fun bt218 => (if bt218.1 < 0 then (laws_FnExactPutBeside.j1 kj24 t187 true a0_0 l0_1 a1_0 l1_1 t183 t184 t199 t200) else ((laws_eqGraph.f kj24 t199 t200 t183 t184).bind fun t220 => (if t220 = true then (laws_FnExactPutBeside.j1 kj24 t187 (t203 != t187) a0_0 l0_1 a1_0 l1_1 t183 t184 t199 t200) else (laws_FnExactPutBeside.j1 kj24 t187 true a0_0 l0_1 a1_0 l1_1 t183 t184 t199 t200))))) = some r := H
     have A106 := Aside0.mk A1060
     clear A1060
     replace H := Option.bind_eq_some_iff.mp H
     obtain ⟨⟨t218, t219⟩, A1070, H⟩ := H
     replace H : (if t218 < 0 then (laws_FnExactPutBeside.j1 kj24 t187 true a0_0 l0_1 a1_0 l1_1 t183 t184 t199 t200) else ((laws_eqGraph.f kj24 t199 t200 t183 t184).bind fun t220 => (if t220 = true then (laws_FnExactPutBeside.j1 kj24 t187 (t203 != t187) a0_0 l0_1 a1_0 l1_1 t183 t184 t199 t200) else (laws_FnExactPutBeside.j1 kj24 t187 true a0_0 l0_1 a1_0 l1_1 t183 t184 t199 t200)))) = some r := H
     have A107 := Aside0.mk A1070
     clear A1070
     have HC108 := Aside0.mk H
     clear H
     try go_wp2
     have n0_ := Aside0.mk (Kd.R_drew HO_189001.out)
     have n1_ := Aside0.mk (Kd.R_drew HO_194001.out)
     have n2_ := Aside0.mk (Kd.R_drew HO_199001.out)
     have n3_ := Aside0.mk (Kd.R_drew HO_205001.out)
     have n4_ := Aside0.mk (blk_drew BK171.out)
     have n5_ := Aside0.mk (blk_drew BK172.out)
     have n6_ := Aside0.mk (blk_drew BK188.out)
     have n7_ := Aside0.mk (blk_drew BK193.out)
     have n8_ := Aside0.mk (blk_drew BK198.out)
     have n9_ := Aside0.mk (blk_drew BK204.out)
     have n10_ := Aside0.mk (below_drew1 HB.out)
     clear HO_189001
     clear HO_194001
     clear HO_199001
     clear HO_205001
     clear BK171
     clear BK172
     clear BK188
     clear BK193
     clear BK198
     clear BK204
     clear HB
     have HO_189001 := n0_
     have HO_194001 := n1_
     have HO_199001 := n2_
     have HO_205001 := n3_
     have BK171 := n4_
     have BK172 := n5_
     have BK188 := n6_
     have BK193 := n7_
     have BK198 := n8_
     have BK204 := n9_
     have HB := n10_
     clear n0_ n1_ n2_ n3_ n4_ n5_ n6_ n7_ n8_ n9_ n10_
     refine start_ (n := 5) (S := fun w' => w'.cell? ⟨gb193, 0, none⟩ = some (.int .i64 t189) ∧ w'.cell? ⟨gb193, 1, none⟩ = some (.slice Ao52 t190.length co52) ∧ w'.cell? ⟨gb171, 0, none⟩ = some (.int .i64 a0_0) ∧ w'.cell? ⟨gb171, 1, none⟩ = some (.slice A0_1 l0_1.length c0_1)) (ds := []) #[false, false, false, false, false] (by kernel_rfl) rfl rfl ⟨(blk_cell BK193.out 0).trans rfl, (blk_cell BK193.out 1).trans rfl, (blk_cell BK171.out 0).trans rfl, (blk_cell BK171.out 1).trans rfl⟩ (fun hHeld => ?_)
     generalize wc.drew = w109 at HO_189001 HO_194001 HO_199001 HO_205001 BK171 BK172 BK188 BK193 BK198 BK204 HB hHeld ⊢
     refine take_ (i := 0) (N := some 54) (v := ?_) (a' := ?_) #[true, false, false, false, false] rfl rfl (by kernel_rfl) (fun _ _ _ h => h) (Or.inl ⟨by rfl, ?_⟩) hHeld ?_ ?_
     rotate_left
     ·rintro w' ⟨s0, s1, s2, s3⟩
      go_simp
      with_reducible rfl
     rotate_left
     ·simp only [Act.put, List.setIfInBounds_toArray, List.set_cons_zero, List.set_cons_succ, i64_w, i32_w]
      rfl
     refine take_ (i := 1) (N := some 55) (v := ?_) (a' := ?_) #[true, true, false, false, false] rfl rfl (by kernel_rfl) (fun _ _ _ h => h) (Or.inl ⟨by rfl, ?_⟩) hHeld ?_ ?_
     rotate_left
     ·rintro w' ⟨s0, s1, s2, s3⟩
      go_simp
      with_reducible rfl
     rotate_left
     ·simp only [Act.put, List.setIfInBounds_toArray, List.set_cons_zero, List.set_cons_succ, i64_w, i32_w]
      rfl
     refine one_ (i := 2) (N := some 56) #[true, true, true, false, false] rfl rfl (by kernel_rfl) (by decide) (fun K hK => ?_)
     refine goes_ Try.func30 (by kernel_rfl) rfl #[.agg #[.int .i64 a0_0, .slice A0_1 l0_1.length c0_1]] (by rfl) rfl rfl (by (try simp only [List.map_toArray, List.map_cons, List.map_nil]); first | done | rfl | (simp only [List.length_drop, List.length_take]; rfl)) ?_
     with_reducible refine (laws_toGraph.calls kj24 a0_0 _ _ l0_1 t206 t207 _ ?side1 ?side2 A100.out).mono ?_
     (case side1 => repeat (first | exact (Kd.C_below HR0_1.out HB.out) | (with_reducible refine Kd.C_alloc ?_ _) | (with_reducible refine Kd.C_drewN ?_ _) | (with_reducible refine Kd.C_drew ?_)))
     (case side2 => exact HC0_1.out)
     rintro e w110 ⟨v208, rfl, ho0, hb⟩
     refine ⟨_, rfl, ?_⟩
     have n0_ := Aside0.mk (Kd.R_elder' (by (with_reducible repeat (first | apply Kd.R_alloc | apply Kd.R_drewN | apply Kd.R_drew)); exact HO_189001.out) (Kd.R_base ho0) hb)
     have n1_ := Aside0.mk (Kd.R_elder' (by (with_reducible repeat (first | apply Kd.R_alloc | apply Kd.R_drewN | apply Kd.R_drew)); exact HO_194001.out) (Kd.R_base ho0) hb)
     have n2_ := Aside0.mk (Kd.R_elder' (by (with_reducible repeat (first | apply Kd.R_alloc | apply Kd.R_drewN | apply Kd.R_drew)); exact HO_199001.out) (Kd.R_base ho0) hb)
     have n3_ := Aside0.mk (Kd.R_elder' (by (with_reducible repeat (first | apply Kd.R_alloc | apply Kd.R_drewN | apply Kd.R_drew)); exact HO_205001.out) (Kd.R_base ho0) hb)
     have n4_ := Aside0.mk (Kd.R_lower (Kd.R_new' (Kd.R_new' (Kd.R_new' (Kd.R_new' ho0 (Kd.R_lt (by (with_reducible repeat (first | apply Kd.R_alloc | apply Kd.R_drewN | apply Kd.R_drew)); exact HO_189001.out))) (Kd.R_lt (by (with_reducible repeat (first | apply Kd.R_alloc | apply Kd.R_drewN | apply Kd.R_drew)); exact HO_194001.out))) (Kd.R_lt (by (with_reducible repeat (first | apply Kd.R_alloc | apply Kd.R_drewN | apply Kd.R_drew)); exact HO_199001.out))) (Kd.R_lt (by (with_reducible repeat (first | apply Kd.R_alloc | apply Kd.R_drewN | apply Kd.R_drew)); exact HO_205001.out))) (below_size (by repeat (first | (with_reducible first | exact HB.out | apply below_alloc | apply pw_below_drewN | apply below_drew1 | refine below_set ?_ GE171.out | refine below_set ?_ GE172.out | refine below_set ?_ GE188.out | refine below_set ?_ GE193.out | refine below_set ?_ GE198.out | refine below_set ?_ GE204.out) | exact HB.out))))
     have n5_ := Aside0.mk (blk_below (g := gb171) (o := .cells #[.int .i64 a0_0, .slice A0_1 l0_1.length c0_1] 41 (0, 0)) (by (with_reducible repeat (first | refine blk_drewN ?_ _ | refine blk_drew ?_ | refine blk_alloc ?_ _)); exact BK171.out) hb)
     have n6_ := Aside0.mk (blk_below (g := gb172) (o := .cells #[.int .i64 a1_0, .slice A1_1 l1_1.length c1_1] 41 (0, 0)) (by (with_reducible repeat (first | refine blk_drewN ?_ _ | refine blk_drew ?_ | refine blk_alloc ?_ _)); exact BK172.out) hb)
     have n7_ := Aside0.mk (blk_below (g := gb188) (o := .cells #[.int .i64 t183, .slice Ao42 t184.length co42] 34 (0, 0)) (by (with_reducible repeat (first | refine blk_drewN ?_ _ | refine blk_drew ?_ | refine blk_alloc ?_ _)); exact BK188.out) hb)
     have n8_ := Aside0.mk (blk_below (g := gb193) (o := .cells #[.int .i64 t189, .slice Ao52 t190.length co52] 34 (0, 0)) (by (with_reducible repeat (first | refine blk_drewN ?_ _ | refine blk_drew ?_ | refine blk_alloc ?_ _)); exact BK193.out) hb)
     have n9_ := Aside0.mk (blk_below (g := gb198) (o := .cells #[.int .i64 t194, .slice Ao62 t195.length co62] 34 (0, 0)) (by (with_reducible repeat (first | refine blk_drewN ?_ _ | refine blk_drew ?_ | refine blk_alloc ?_ _)); exact BK198.out) hb)
     have n10_ := Aside0.mk (blk_below (g := gb204) (o := .cells #[.int .i64 t199, .slice Ao72 t200.length co72] 34 (0, 0)) (by (with_reducible repeat (first | refine blk_drewN ?_ _ | refine blk_drew ?_ | refine blk_alloc ?_ _)); exact BK204.out) hb)
     have n11_ := Aside0.mk (below_step (by repeat (first | (with_reducible first | exact HB.out | apply below_alloc | apply pw_below_drewN | apply below_drew1 | refine below_set ?_ GE171.out | refine below_set ?_ GE172.out | refine below_set ?_ GE188.out | refine below_set ?_ GE193.out | refine below_set ?_ GE198.out | refine below_set ?_ GE204.out) | exact HB.out)) hb)
     clear HO_189001
     clear HO_194001
     clear HO_199001
     clear HO_205001
     clear BK171
     clear BK172
     clear BK188
     clear BK193
     clear BK198
     clear BK204
     clear HB
     have HO_189001 := n0_
     have HO_194001 := n1_
     have HO_199001 := n2_
     have HO_205001 := n3_
     have HO209 := n4_
     have BK171 := n5_
     have BK172 := n6_
     have BK188 := n7_
     have BK193 := n8_
     have BK198 := n9_
     have BK204 := n10_
     have HB := n11_
     clear n0_ n1_ n2_ n3_ n4_ n5_ n6_ n7_ n8_ n9_ n10_ n11_
     (try clear hb)
     (try clear hb2)
     (try clear hk)
     (try clear hi)
     (try clear ho0)
     obtain ⟨Ao111, co111, eo111⟩ := Kd.R_slice HO209.out
     (first | subst eo111 | (injection eo111 with f1_ f2_ f3_; have f4_ := f1_.symm; have f5_ := f3_.symm; clear f1_ f2_ f3_; subst f4_; subst f5_))
     refine hK.out _ _ ⟨(blk_cell BK193.out 0).trans rfl, (blk_cell BK193.out 1).trans rfl, (blk_cell BK171.out 0).trans rfl, (blk_cell BK171.out 1).trans rfl⟩ (fun hHeld => ?_)
     clear hK K
     refine norm_ (a' := ?_) ?_ ?_
     rotate_left
     ·show Act.put _ (some 56) _ = _
      simp only [Act.put, List.setIfInBounds_toArray, List.set_cons_zero, List.set_cons_succ, i64_w, i32_w]
      rfl
     refine one_ (i := 3) (N := some 57) #[true, true, true, true, false] rfl rfl (by kernel_rfl) (by decide) (fun K hK => ?_)
     refine goes_ Try.func25 (by kernel_rfl) rfl #[.agg #[.int .i64 t189, .slice Ao52 t190.length co52], .agg #[.int .i64 t206, .slice Ao111 t207.length co111]] (by rfl) rfl rfl (by (try simp only [List.map_toArray, List.map_cons, List.map_nil]); first | done | rfl | (simp only [List.length_drop, List.length_take]; rfl)) ?_
     with_reducible refine (laws_eqGraph.calls kj24 t189 _ _ t190 t206 _ _ t207 true _ ?side1 ?side2 ?side3 ?side4 A101.out).mono ?_
     (case side1 => repeat (first | exact (Kd.R_reads' HO_194001.out).2.2 | (with_reducible refine Kd.C_alloc ?_ _) | (with_reducible refine Kd.C_drewN ?_ _) | (with_reducible refine Kd.C_drew ?_)))
     (case side2 => exact (Kd.R_reads' HO_194001.out).2.1)
     (case side3 => repeat (first | exact (Kd.R_reads' HO209.out).2.2 | (with_reducible refine Kd.C_alloc ?_ _) | (with_reducible refine Kd.C_drewN ?_ _) | (with_reducible refine Kd.C_drew ?_)))
     (case side4 => exact (Kd.R_reads' HO209.out).2.1)
     rintro e w112 ⟨rfl, hb⟩
     refine ⟨_, rfl, ?_⟩
     have n0_ := Aside0.mk (Kd.R_below (by (with_reducible repeat (first | apply Kd.R_alloc | apply Kd.R_drewN | apply Kd.R_drew)); exact HO_189001.out) hb)
     have n1_ := Aside0.mk (Kd.R_below (by (with_reducible repeat (first | apply Kd.R_alloc | apply Kd.R_drewN | apply Kd.R_drew)); exact HO_194001.out) hb)
     have n2_ := Aside0.mk (Kd.R_below (by (with_reducible repeat (first | apply Kd.R_alloc | apply Kd.R_drewN | apply Kd.R_drew)); exact HO_199001.out) hb)
     have n3_ := Aside0.mk (Kd.R_below (by (with_reducible repeat (first | apply Kd.R_alloc | apply Kd.R_drewN | apply Kd.R_drew)); exact HO_205001.out) hb)
     have n4_ := Aside0.mk (Kd.R_below (by (with_reducible repeat (first | apply Kd.R_alloc | apply Kd.R_drewN | apply Kd.R_drew)); exact HO209.out) hb)
     have n5_ := Aside0.mk (blk_below (g := gb171) (o := .cells #[.int .i64 a0_0, .slice A0_1 l0_1.length c0_1] 41 (0, 0)) (by (with_reducible repeat (first | refine blk_drewN ?_ _ | refine blk_drew ?_ | refine blk_alloc ?_ _)); exact BK171.out) hb)
     have n6_ := Aside0.mk (blk_below (g := gb172) (o := .cells #[.int .i64 a1_0, .slice A1_1 l1_1.length c1_1] 41 (0, 0)) (by (with_reducible repeat (first | refine blk_drewN ?_ _ | refine blk_drew ?_ | refine blk_alloc ?_ _)); exact BK172.out) hb)
     have n7_ := Aside0.mk (blk_below (g := gb188) (o := .cells #[.int .i64 t183, .slice Ao42 t184.length co42] 34 (0, 0)) (by (with_reducible repeat (first | refine blk_drewN ?_ _ | refine blk_drew ?_ | refine blk_alloc ?_ _)); exact BK188.out) hb)
     have n8_ := Aside0.mk (blk_below (g := gb193) (o := .cells #[.int .i64 t189, .slice Ao52 t190.length co52] 34 (0, 0)) (by (with_reducible repeat (first | refine blk_drewN ?_ _ | refine blk_drew ?_ | refine blk_alloc ?_ _)); exact BK193.out) hb)
     have n9_ := Aside0.mk (blk_below (g := gb198) (o := .cells #[.int .i64 t194, .slice Ao62 t195.length co62] 34 (0, 0)) (by (with_reducible repeat (first | refine blk_drewN ?_ _ | refine blk_drew ?_ | refine blk_alloc ?_ _)); exact BK198.out) hb)
     have n10_ := Aside0.mk (blk_below (g := gb204) (o := .cells #[.int .i64 t199, .slice Ao72 t200.length co72] 34 (0, 0)) (by (with_reducible repeat (first | refine blk_drewN ?_ _ | refine blk_drew ?_ | refine blk_alloc ?_ _)); exact BK204.out) hb)
     have n11_ := Aside0.mk (below_step (by repeat (first | (with_reducible first | exact HB.out | apply below_alloc | apply pw_below_drewN | apply below_drew1 | refine below_set ?_ GE171.out | refine below_set ?_ GE172.out | refine below_set ?_ GE188.out | refine below_set ?_ GE193.out | refine below_set ?_ GE198.out | refine below_set ?_ GE204.out) | exact HB.out)) hb)
     clear HO_189001
     clear HO_194001
     clear HO_199001
     clear HO_205001
     clear HO209
     clear BK171
     clear BK172
     clear BK188
     clear BK193
     clear BK198
     clear BK204
     clear HB
     have HO_189001 := n0_
     have HO_194001 := n1_
     have HO_199001 := n2_
     have HO_205001 := n3_
     have HO209 := n4_
     have BK171 := n5_
     have BK172 := n6_
     have BK188 := n7_
     have BK193 := n8_
     have BK198 := n9_
     have BK204 := n10_
     have HB := n11_
     clear n0_ n1_ n2_ n3_ n4_ n5_ n6_ n7_ n8_ n9_ n10_ n11_
     (try clear hb)
     (try clear hb2)
     (try clear hk)
     (try clear hi)
     refine hK.out _ _ ⟨(blk_cell BK193.out 0).trans rfl, (blk_cell BK193.out 1).trans rfl, (blk_cell BK171.out 0).trans rfl, (blk_cell BK171.out 1).trans rfl⟩ (fun hHeld => ?_)
     clear hK K
     refine norm_ (a' := ?_) ?_ ?_
     rotate_left
     ·show Act.put _ (some 57) _ = _
      simp only [Act.put, List.setIfInBounds_toArray, List.set_cons_zero, List.set_cons_succ, i64_w, i32_w]
      rfl
     refine pure_ (i := 4) (N := some 58) (v := ?_) (a' := ?_) #[true, true, true, true, true] rfl rfl (by kernel_rfl) (fun _ _ _ h => h) (Or.inl ⟨by rfl, ?_⟩) ?_ ?_
     rotate_left
     ·intro w'
      go_simp
      with_reducible rfl
     rotate_left
     ·simp only [Act.put, List.setIfInBounds_toArray, List.set_cons_zero, List.set_cons_succ, i64_w, i32_w]
      rfl
     refine done_ (by kernel_rfl) ?_
     try go_wp2
     have n0_ := Aside0.mk (Kd.R_drew HO_189001.out)
     have n1_ := Aside0.mk (Kd.R_drew HO_194001.out)
     have n2_ := Aside0.mk (Kd.R_drew HO_199001.out)
     have n3_ := Aside0.mk (Kd.R_drew HO_205001.out)
     have n4_ := Aside0.mk (Kd.R_drew HO209.out)
     have n5_ := Aside0.mk (blk_drew BK171.out)
     have n6_ := Aside0.mk (blk_drew BK172.out)
     have n7_ := Aside0.mk (blk_drew BK188.out)
     have n8_ := Aside0.mk (blk_drew BK193.out)
     have n9_ := Aside0.mk (blk_drew BK198.out)
     have n10_ := Aside0.mk (blk_drew BK204.out)
     have n11_ := Aside0.mk (below_drew1 HB.out)
     clear HO_189001
     clear HO_194001
     clear HO_199001
     clear HO_205001
     clear HO209
     clear BK171
     clear BK172
     clear BK188
     clear BK193
     clear BK198
     clear BK204
     clear HB
     have HO_189001 := n0_
     have HO_194001 := n1_
     have HO_199001 := n2_
     have HO_205001 := n3_
     have HO209 := n4_
     have BK171 := n5_
     have BK172 := n6_
     have BK188 := n7_
     have BK193 := n8_
     have BK198 := n9_
     have BK204 := n10_
     have HB := n11_
     clear n0_ n1_ n2_ n3_ n4_ n5_ n6_ n7_ n8_ n9_ n10_ n11_
     refine start_ (n := 5) (S := fun w' => w'.cell? ⟨gb198, 0, none⟩ = some (.int .i64 t194) ∧ w'.cell? ⟨gb198, 1, none⟩ = some (.slice Ao62 t195.length co62) ∧ w'.cell? ⟨gb172, 0, none⟩ = some (.int .i64 a1_0) ∧ w'.cell? ⟨gb172, 1, none⟩ = some (.slice A1_1 l1_1.length c1_1)) (ds := []) #[false, false, false, false, false] (by kernel_rfl) rfl rfl ⟨(blk_cell BK198.out 0).trans rfl, (blk_cell BK198.out 1).trans rfl, (blk_cell BK172.out 0).trans rfl, (blk_cell BK172.out 1).trans rfl⟩ (fun hHeld => ?_)
     generalize w112.drew = w113 at HO_189001 HO_194001 HO_199001 HO_205001 HO209 BK171 BK172 BK188 BK193 BK198 BK204 HB hHeld ⊢
     refine take_ (i := 0) (N := some 59) (v := ?_) (a' := ?_) #[true, false, false, false, false] rfl rfl (by kernel_rfl) (fun _ _ _ h => h) (Or.inl ⟨by rfl, ?_⟩) hHeld ?_ ?_
     rotate_left
     ·rintro w' ⟨s0, s1, s2, s3⟩
      go_simp
      with_reducible rfl
     rotate_left
     ·simp only [Act.put, List.setIfInBounds_toArray, List.set_cons_zero, List.set_cons_succ, i64_w, i32_w]
      rfl
     refine take_ (i := 1) (N := some 60) (v := ?_) (a' := ?_) #[true, true, false, false, false] rfl rfl (by kernel_rfl) (fun _ _ _ h => h) (Or.inl ⟨by rfl, ?_⟩) hHeld ?_ ?_
     rotate_left
     ·rintro w' ⟨s0, s1, s2, s3⟩
      go_simp
      with_reducible rfl
     rotate_left
     ·simp only [Act.put, List.setIfInBounds_toArray, List.set_cons_zero, List.set_cons_succ, i64_w, i32_w]
      rfl
     refine one_ (i := 2) (N := some 61) #[true, true, true, false, false] rfl rfl (by kernel_rfl) (by decide) (fun K hK => ?_)
     refine goes_ Try.func30 (by kernel_rfl) rfl #[.agg #[.int .i64 a1_0, .slice A1_1 l1_1.length c1_1]] (by rfl) rfl rfl (by (try simp only [List.map_toArray, List.map_cons, List.map_nil]); first | done | rfl | (simp only [List.length_drop, List.length_take]; rfl)) ?_
     with_reducible refine (laws_toGraph.calls kj24 a1_0 _ _ l1_1 t211 t212 _ ?side1 ?side2 A103.out).mono ?_
     (case side1 => repeat (first | exact (Kd.C_below HR1_1.out HB.out) | (with_reducible refine Kd.C_alloc ?_ _) | (with_reducible refine Kd.C_drewN ?_ _) | (with_reducible refine Kd.C_drew ?_)))
     (case side2 => exact HC1_1.out)
     rintro e w114 ⟨v213, rfl, ho0, hb⟩
     refine ⟨_, rfl, ?_⟩
     have n0_ := Aside0.mk (Kd.R_elder' (by (with_reducible repeat (first | apply Kd.R_alloc | apply Kd.R_drewN | apply Kd.R_drew)); exact HO_189001.out) (Kd.R_base ho0) hb)
     have n1_ := Aside0.mk (Kd.R_elder' (by (with_reducible repeat (first | apply Kd.R_alloc | apply Kd.R_drewN | apply Kd.R_drew)); exact HO_194001.out) (Kd.R_base ho0) hb)
     have n2_ := Aside0.mk (Kd.R_elder' (by (with_reducible repeat (first | apply Kd.R_alloc | apply Kd.R_drewN | apply Kd.R_drew)); exact HO_199001.out) (Kd.R_base ho0) hb)
     have n3_ := Aside0.mk (Kd.R_elder' (by (with_reducible repeat (first | apply Kd.R_alloc | apply Kd.R_drewN | apply Kd.R_drew)); exact HO_205001.out) (Kd.R_base ho0) hb)
     have n4_ := Aside0.mk (Kd.R_elder' (by (with_reducible repeat (first | apply Kd.R_alloc | apply Kd.R_drewN | apply Kd.R_drew)); exact HO209.out) (Kd.R_base ho0) hb)
     have n5_ := Aside0.mk (Kd.R_lower (Kd.R_new' (Kd.R_new' (Kd.R_new' (Kd.R_new' (Kd.R_new' ho0 (Kd.R_lt (by (with_reducible repeat (first | apply Kd.R_alloc | apply Kd.R_drewN | apply Kd.R_drew)); exact HO_189001.out))) (Kd.R_lt (by (with_reducible repeat (first | apply Kd.R_alloc | apply Kd.R_drewN | apply Kd.R_drew)); exact HO_194001.out))) (Kd.R_lt (by (with_reducible repeat (first | apply Kd.R_alloc | apply Kd.R_drewN | apply Kd.R_drew)); exact HO_199001.out))) (Kd.R_lt (by (with_reducible repeat (first | apply Kd.R_alloc | apply Kd.R_drewN | apply Kd.R_drew)); exact HO_205001.out))) (Kd.R_lt (by (with_reducible repeat (first | apply Kd.R_alloc | apply Kd.R_drewN | apply Kd.R_drew)); exact HO209.out))) (below_size (by repeat (first | (with_reducible first | exact HB.out | apply below_alloc | apply pw_below_drewN | apply below_drew1 | refine below_set ?_ GE171.out | refine below_set ?_ GE172.out | refine below_set ?_ GE188.out | refine below_set ?_ GE193.out | refine below_set ?_ GE198.out | refine below_set ?_ GE204.out) | exact HB.out))))
     have n6_ := Aside0.mk (blk_below (g := gb171) (o := .cells #[.int .i64 a0_0, .slice A0_1 l0_1.length c0_1] 41 (0, 0)) (by (with_reducible repeat (first | refine blk_drewN ?_ _ | refine blk_drew ?_ | refine blk_alloc ?_ _)); exact BK171.out) hb)
     have n7_ := Aside0.mk (blk_below (g := gb172) (o := .cells #[.int .i64 a1_0, .slice A1_1 l1_1.length c1_1] 41 (0, 0)) (by (with_reducible repeat (first | refine blk_drewN ?_ _ | refine blk_drew ?_ | refine blk_alloc ?_ _)); exact BK172.out) hb)
     have n8_ := Aside0.mk (blk_below (g := gb188) (o := .cells #[.int .i64 t183, .slice Ao42 t184.length co42] 34 (0, 0)) (by (with_reducible repeat (first | refine blk_drewN ?_ _ | refine blk_drew ?_ | refine blk_alloc ?_ _)); exact BK188.out) hb)
     have n9_ := Aside0.mk (blk_below (g := gb193) (o := .cells #[.int .i64 t189, .slice Ao52 t190.length co52] 34 (0, 0)) (by (with_reducible repeat (first | refine blk_drewN ?_ _ | refine blk_drew ?_ | refine blk_alloc ?_ _)); exact BK193.out) hb)
     have n10_ := Aside0.mk (blk_below (g := gb198) (o := .cells #[.int .i64 t194, .slice Ao62 t195.length co62] 34 (0, 0)) (by (with_reducible repeat (first | refine blk_drewN ?_ _ | refine blk_drew ?_ | refine blk_alloc ?_ _)); exact BK198.out) hb)
     have n11_ := Aside0.mk (blk_below (g := gb204) (o := .cells #[.int .i64 t199, .slice Ao72 t200.length co72] 34 (0, 0)) (by (with_reducible repeat (first | refine blk_drewN ?_ _ | refine blk_drew ?_ | refine blk_alloc ?_ _)); exact BK204.out) hb)
     have n12_ := Aside0.mk (below_step (by repeat (first | (with_reducible first | exact HB.out | apply below_alloc | apply pw_below_drewN | apply below_drew1 | refine below_set ?_ GE171.out | refine below_set ?_ GE172.out | refine below_set ?_ GE188.out | refine below_set ?_ GE193.out | refine below_set ?_ GE198.out | refine below_set ?_ GE204.out) | exact HB.out)) hb)
     clear HO_189001
     clear HO_194001
     clear HO_199001
     clear HO_205001
     clear HO209
     clear BK171
     clear BK172
     clear BK188
     clear BK193
     clear BK198
     clear BK204
     clear HB
     have HO_189001 := n0_
     have HO_194001 := n1_
     have HO_199001 := n2_
     have HO_205001 := n3_
     have HO209 := n4_
     have HO214 := n5_
     have BK171 := n6_
     have BK172 := n7_
     have BK188 := n8_
     have BK193 := n9_
     have BK198 := n10_
     have BK204 := n11_
     have HB := n12_
     clear n0_ n1_ n2_ n3_ n4_ n5_ n6_ n7_ n8_ n9_ n10_ n11_ n12_
     (try clear hb)
     (try clear hb2)
     (try clear hk)
     (try clear hi)
     (try clear ho0)
     obtain ⟨Ao115, co115, eo115⟩ := Kd.R_slice HO214.out
     (first | subst eo115 | (injection eo115 with f1_ f2_ f3_; have f4_ := f1_.symm; have f5_ := f3_.symm; clear f1_ f2_ f3_; subst f4_; subst f5_))
     refine hK.out _ _ ⟨(blk_cell BK198.out 0).trans rfl, (blk_cell BK198.out 1).trans rfl, (blk_cell BK172.out 0).trans rfl, (blk_cell BK172.out 1).trans rfl⟩ (fun hHeld => ?_)
     clear hK K
     refine norm_ (a' := ?_) ?_ ?_
     rotate_left
     ·show Act.put _ (some 61) _ = _
      simp only [Act.put, List.setIfInBounds_toArray, List.set_cons_zero, List.set_cons_succ, i64_w, i32_w]
      rfl
     refine one_ (i := 3) (N := some 62) #[true, true, true, true, false] rfl rfl (by kernel_rfl) (by decide) (fun K hK => ?_)
     refine goes_ Try.func25 (by kernel_rfl) rfl #[.agg #[.int .i64 t194, .slice Ao62 t195.length co62], .agg #[.int .i64 t211, .slice Ao115 t212.length co115]] (by rfl) rfl rfl (by (try simp only [List.map_toArray, List.map_cons, List.map_nil]); first | done | rfl | (simp only [List.length_drop, List.length_take]; rfl)) ?_
     with_reducible refine (laws_eqGraph.calls kj24 t194 _ _ t195 t211 _ _ t212 true _ ?side1 ?side2 ?side3 ?side4 A104.out).mono ?_
     (case side1 => repeat (first | exact (Kd.R_reads' HO_199001.out).2.2 | (with_reducible refine Kd.C_alloc ?_ _) | (with_reducible refine Kd.C_drewN ?_ _) | (with_reducible refine Kd.C_drew ?_)))
     (case side2 => exact (Kd.R_reads' HO_199001.out).2.1)
     (case side3 => repeat (first | exact (Kd.R_reads' HO214.out).2.2 | (with_reducible refine Kd.C_alloc ?_ _) | (with_reducible refine Kd.C_drewN ?_ _) | (with_reducible refine Kd.C_drew ?_)))
     (case side4 => exact (Kd.R_reads' HO214.out).2.1)
     rintro e w116 ⟨rfl, hb⟩
     refine ⟨_, rfl, ?_⟩
     have n0_ := Aside0.mk (Kd.R_below (by (with_reducible repeat (first | apply Kd.R_alloc | apply Kd.R_drewN | apply Kd.R_drew)); exact HO_189001.out) hb)
     have n1_ := Aside0.mk (Kd.R_below (by (with_reducible repeat (first | apply Kd.R_alloc | apply Kd.R_drewN | apply Kd.R_drew)); exact HO_194001.out) hb)
     have n2_ := Aside0.mk (Kd.R_below (by (with_reducible repeat (first | apply Kd.R_alloc | apply Kd.R_drewN | apply Kd.R_drew)); exact HO_199001.out) hb)
     have n3_ := Aside0.mk (Kd.R_below (by (with_reducible repeat (first | apply Kd.R_alloc | apply Kd.R_drewN | apply Kd.R_drew)); exact HO_205001.out) hb)
     have n4_ := Aside0.mk (Kd.R_below (by (with_reducible repeat (first | apply Kd.R_alloc | apply Kd.R_drewN | apply Kd.R_drew)); exact HO209.out) hb)
     have n5_ := Aside0.mk (Kd.R_below (by (with_reducible repeat (first | apply Kd.R_alloc | apply Kd.R_drewN | apply Kd.R_drew)); exact HO214.out) hb)
     have n6_ := Aside0.mk (blk_below (g := gb171) (o := .cells #[.int .i64 a0_0, .slice A0_1 l0_1.length c0_1] 41 (0, 0)) (by (with_reducible repeat (first | refine blk_drewN ?_ _ | refine blk_drew ?_ | refine blk_alloc ?_ _)); exact BK171.out) hb)
     have n7_ := Aside0.mk (blk_below (g := gb172) (o := .cells #[.int .i64 a1_0, .slice A1_1 l1_1.length c1_1] 41 (0, 0)) (by (with_reducible repeat (first | refine blk_drewN ?_ _ | refine blk_drew ?_ | refine blk_alloc ?_ _)); exact BK172.out) hb)
     have n8_ := Aside0.mk (blk_below (g := gb188) (o := .cells #[.int .i64 t183, .slice Ao42 t184.length co42] 34 (0, 0)) (by (with_reducible repeat (first | refine blk_drewN ?_ _ | refine blk_drew ?_ | refine blk_alloc ?_ _)); exact BK188.out) hb)
     have n9_ := Aside0.mk (blk_below (g := gb193) (o := .cells #[.int .i64 t189, .slice Ao52 t190.length co52] 34 (0, 0)) (by (with_reducible repeat (first | refine blk_drewN ?_ _ | refine blk_drew ?_ | refine blk_alloc ?_ _)); exact BK193.out) hb)
     have n10_ := Aside0.mk (blk_below (g := gb198) (o := .cells #[.int .i64 t194, .slice Ao62 t195.length co62] 34 (0, 0)) (by (with_reducible repeat (first | refine blk_drewN ?_ _ | refine blk_drew ?_ | refine blk_alloc ?_ _)); exact BK198.out) hb)
     have n11_ := Aside0.mk (blk_below (g := gb204) (o := .cells #[.int .i64 t199, .slice Ao72 t200.length co72] 34 (0, 0)) (by (with_reducible repeat (first | refine blk_drewN ?_ _ | refine blk_drew ?_ | refine blk_alloc ?_ _)); exact BK204.out) hb)
     have n12_ := Aside0.mk (below_step (by repeat (first | (with_reducible first | exact HB.out | apply below_alloc | apply pw_below_drewN | apply below_drew1 | refine below_set ?_ GE171.out | refine below_set ?_ GE172.out | refine below_set ?_ GE188.out | refine below_set ?_ GE193.out | refine below_set ?_ GE198.out | refine below_set ?_ GE204.out) | exact HB.out)) hb)
     clear HO_189001
     clear HO_194001
     clear HO_199001
     clear HO_205001
     clear HO209
     clear HO214
     clear BK171
     clear BK172
     clear BK188
     clear BK193
     clear BK198
     clear BK204
     clear HB
     have HO_189001 := n0_
     have HO_194001 := n1_
     have HO_199001 := n2_
     have HO_205001 := n3_
     have HO209 := n4_
     have HO214 := n5_
     have BK171 := n6_
     have BK172 := n7_
     have BK188 := n8_
     have BK193 := n9_
     have BK198 := n10_
     have BK204 := n11_
     have HB := n12_
     clear n0_ n1_ n2_ n3_ n4_ n5_ n6_ n7_ n8_ n9_ n10_ n11_ n12_
     (try clear hb)
     (try clear hb2)
     (try clear hk)
     (try clear hi)
     refine hK.out _ _ ⟨(blk_cell BK198.out 0).trans rfl, (blk_cell BK198.out 1).trans rfl, (blk_cell BK172.out 0).trans rfl, (blk_cell BK172.out 1).trans rfl⟩ (fun hHeld => ?_)
     clear hK K
     refine norm_ (a' := ?_) ?_ ?_
     rotate_left
     ·show Act.put _ (some 62) _ = _
      simp only [Act.put, List.setIfInBounds_toArray, List.set_cons_zero, List.set_cons_succ, i64_w, i32_w]
      rfl
     refine pure_ (i := 4) (N := some 63) (v := ?_) (a' := ?_) #[true, true, true, true, true] rfl rfl (by kernel_rfl) (fun _ _ _ h => h) (Or.inl ⟨by rfl, ?_⟩) ?_ ?_
     rotate_left
     ·intro w'
      go_simp
      with_reducible rfl
     rotate_left
     ·simp only [Act.put, List.setIfInBounds_toArray, List.set_cons_zero, List.set_cons_succ, i64_w, i32_w]
      rfl
     refine done_ (by kernel_rfl) ?_
     have hnb117 := NB193_171.out
     have hnc117 := NB171_193.out
     have hnb118 := NB193_172.out
     have hnc118 := NB172_193.out
     have hnb119 := NB193_188.out
     have hnc119 := NB188_193.out
     have hnb120 := NB193_198.out
     have hnc120 := NB198_193.out
     have hnb121 := NB193_204.out
     have hnc121 := NB204_193.out
     have hcz122_0 : w116.cell? ⟨gb193, 0, none⟩ = some (.int .i64 t189) := (blk_cell BK193.out 0).trans rfl
     have hcz122_1 : w116.cell? ⟨gb193, 1, none⟩ = some (.slice Ao52 t190.length co52) := (blk_cell BK193.out 1).trans rfl
     have hfz122_0 := blk_frozen BK193.out 0
     have hfz122_1 := blk_frozen BK193.out 1
     go_upto_region 21 with (first | ((with_reducible refine gate_callee (f := 26) rfl ?_); refine goesL_ (some 66) rfl rfl Try.func26 (by kernel_rfl) rfl #[.agg #[.int .i64 t189, .slice Ao52 t190.length co52], .int .i64 1] rfl (by (try simp only [List.map_toArray, List.map_cons, List.map_nil]); first | done | rfl | (simp only [List.length_drop, List.length_take]; rfl)) ?_; (with_reducible refine (laws_markGraph.calls kj24 t189 (fun k_ => some k_ = (.slice Ao52 t190.length co52 : Value).ownBlock) (.slice Ao52 t190.length co52) t190 1 t216 t217 w _ ?side1 ?side2 A106.out).mono ?_); (case side1 => repeat (first | (with_reducible first | exact HB.out | apply below_alloc | apply pw_below_drewN | apply below_drew1 | refine below_set ?_ GE171.out | refine below_set ?_ GE172.out | refine below_set ?_ GE188.out | refine below_set ?_ GE193.out | refine below_set ?_ GE198.out | refine below_set ?_ GE204.out) | exact HB.out)); (case side2 => exact Kd.R_tight rfl HO_194001.out); rintro e w123 ⟨rfl, hy0, hb, hkp⟩; refine ⟨_, rfl, ?_⟩; have n0_ := Aside0.mk (Kd.R_mono (ok' := fun k_ => some k_ ≠ (.slice Ao52 t190.length co52 : Value).ownBlock ∧ some k_ ≠ (.slice Ao62 t195.length co62 : Value).ownBlock ∧ some k_ ≠ (.slice Ao72 t200.length co72 : Value).ownBlock ∧ some k_ ≠ (.slice Ao111 t207.length co111 : Value).ownBlock ∧ some k_ ≠ (.slice Ao115 t212.length co115 : Value).ownBlock) (Kd.R_keptB (HO_189001.out) hkp (fun k_ hk_ hs_ => (hk_.1.1.1) hs_)) (fun k_ hk_ => ⟨hk_.1.1.1.1, hk_.1.1.1.2.1, hk_.1.1.1.2.2, hk_.1.1.2, hk_.1.2⟩)); have n1_ := Aside0.mk (Kd.R_reok rfl hy0 (fun k_ e_ => HO_194001.out.1 k_ e_)); have n2_ := Aside0.mk (Kd.R_mono (ok' := fun k_ => some k_ ≠ (.slice Ao42 t184.length co42 : Value).ownBlock ∧ some k_ ≠ (.slice Ao52 t190.length co52 : Value).ownBlock ∧ some k_ ≠ (.slice Ao72 t200.length co72 : Value).ownBlock ∧ some k_ ≠ (.slice Ao111 t207.length co111 : Value).ownBlock ∧ some k_ ≠ (.slice Ao115 t212.length co115 : Value).ownBlock) (Kd.R_keptB (HO_199001.out) hkp (fun k_ hk_ hs_ => (hk_.1.1.2.1) hs_)) (fun k_ hk_ => ⟨hk_.1.1.1.1, hk_.1.1.1.2.1, hk_.1.1.1.2.2, hk_.1.1.2, hk_.1.2⟩)); have n3_ := Aside0.mk (Kd.R_mono (ok' := fun k_ => some k_ ≠ (.slice Ao42 t184.length co42 : Value).ownBlock ∧ some k_ ≠ (.slice Ao52 t190.length co52 : Value).ownBlock ∧ some k_ ≠ (.slice Ao62 t195.length co62 : Value).ownBlock ∧ some k_ ≠ (.slice Ao111 t207.length co111 : Value).ownBlock ∧ some k_ ≠ (.slice Ao115 t212.length co115 : Value).ownBlock) (Kd.R_keptB (HO_205001.out) hkp (fun k_ hk_ hs_ => (hk_.1.1.2.1) hs_)) (fun k_ hk_ => ⟨hk_.1.1.1.1, hk_.1.1.1.2.1, hk_.1.1.1.2.2, hk_.1.1.2, hk_.1.2⟩)); have n4_ := Aside0.mk (blk_kept (by (with_reducible repeat (first | refine blk_drewN ?_ _ | refine blk_drew ?_ | refine blk_alloc ?_ _)); exact BK171.out) hkp (fun hs_ => (fun e_ => (Kd.R_ne HO_194001.out BK171.out (by decide)) e_) hs_)); have n5_ := Aside0.mk (blk_kept (by (with_reducible repeat (first | refine blk_drewN ?_ _ | refine blk_drew ?_ | refine blk_alloc ?_ _)); exact BK172.out) hkp (fun hs_ => (fun e_ => (Kd.R_ne HO_194001.out BK172.out (by decide)) e_) hs_)); have n6_ := Aside0.mk (blk_kept (by (with_reducible repeat (first | refine blk_drewN ?_ _ | refine blk_drew ?_ | refine blk_alloc ?_ _)); exact BK188.out) hkp (fun hs_ => (fun e_ => (Kd.R_ne HO_194001.out BK188.out (by decide)) e_) hs_)); have n7_ := Aside0.mk (blk_kept (by (with_reducible repeat (first | refine blk_drewN ?_ _ | refine blk_drew ?_ | refine blk_alloc ?_ _)); exact BK193.out) hkp (fun hs_ => (fun e_ => (Kd.R_ne HO_194001.out BK193.out (by decide)) e_) hs_)); have n8_ := Aside0.mk (blk_kept (by (with_reducible repeat (first | refine blk_drewN ?_ _ | refine blk_drew ?_ | refine blk_alloc ?_ _)); exact BK198.out) hkp (fun hs_ => (fun e_ => (Kd.R_ne HO_194001.out BK198.out (by decide)) e_) hs_)); have n9_ := Aside0.mk (blk_kept (by (with_reducible repeat (first | refine blk_drewN ?_ _ | refine blk_drew ?_ | refine blk_alloc ?_ _)); exact BK204.out) hkp (fun hs_ => (fun e_ => (Kd.R_ne HO_194001.out BK204.out (by decide)) e_) hs_)); have n10_ := Aside0.mk (Kd.R_mono (ok' := fun k_ => some k_ ≠ (.slice Ao42 t184.length co42 : Value).ownBlock ∧ some k_ ≠ (.slice Ao52 t190.length co52 : Value).ownBlock ∧ some k_ ≠ (.slice Ao62 t195.length co62 : Value).ownBlock ∧ some k_ ≠ (.slice Ao72 t200.length co72 : Value).ownBlock ∧ some k_ ≠ (.slice Ao115 t212.length co115 : Value).ownBlock) (Kd.R_keptB (HO209.out) hkp (fun k_ hk_ hs_ => (hk_.1.1.1.2) hs_)) (fun k_ hk_ => ⟨hk_.1.1.1.1.1.2, hk_.1.1.1.1.2, hk_.1.1.1.2, hk_.1.1.2, hk_.1.2⟩)); have n11_ := Aside0.mk (Kd.R_mono (ok' := fun k_ => some k_ ≠ (.slice Ao42 t184.length co42 : Value).ownBlock ∧ some k_ ≠ (.slice Ao52 t190.length co52 : Value).ownBlock ∧ some k_ ≠ (.slice Ao62 t195.length co62 : Value).ownBlock ∧ some k_ ≠ (.slice Ao72 t200.length co72 : Value).ownBlock ∧ some k_ ≠ (.slice Ao111 t207.length co111 : Value).ownBlock) (Kd.R_keptB (HO214.out) hkp (fun k_ hk_ hs_ => (hk_.1.1.1.2) hs_)) (fun k_ hk_ => ⟨hk_.1.1.1.1.1.2, hk_.1.1.1.1.2, hk_.1.1.1.2, hk_.1.1.2, hk_.1.2⟩)); have n12_ := Aside0.mk (hb); clear HO_189001; clear HO_194001; clear HO_199001; clear HO_205001; clear BK171; clear BK172; clear BK188; clear BK193; clear BK198; clear BK204; clear HO209; clear HO214; clear HB; have HO_189001 := n0_; have HO_194001 := n1_; have HO_199001 := n2_; have HO_205001 := n3_; have BK171 := n4_; have BK172 := n5_; have BK188 := n6_; have BK193 := n7_; have BK198 := n8_; have BK204 := n9_; have HO209 := n10_; have HO214 := n11_; have HB := n12_; clear n0_ n1_ n2_ n3_ n4_ n5_ n6_ n7_ n8_ n9_ n10_ n11_ n12_; (try clear hb); (try clear hkp); (try clear hy0); have hnb124 := NB198_171.out; have hnc124 := NB171_198.out; have hnb125 := NB198_172.out; have hnc125 := NB172_198.out; have hnb126 := NB198_188.out; have hnc126 := NB188_198.out; have hnb127 := NB198_204.out; have hnc127 := NB204_198.out; have hcz128_0 : w123.cell? ⟨gb198, 0, none⟩ = some (.int .i64 t194) := (blk_cell BK198.out 0).trans rfl; have hcz128_1 : w123.cell? ⟨gb198, 1, none⟩ = some (.slice Ao62 t195.length co62) := (blk_cell BK198.out 1).trans rfl; have hfz128_0 := blk_frozen BK198.out 0; have hfz128_1 := blk_frozen BK198.out 1) | ((with_reducible refine gate_callee (f := 26) rfl ?_); refine goesL_ (some 69) rfl rfl Try.func26 (by kernel_rfl) rfl #[.agg #[.int .i64 t194, .slice Ao62 t195.length co62], .int .i64 t216] rfl (by (try simp only [List.map_toArray, List.map_cons, List.map_nil]); first | done | rfl | (simp only [List.length_drop, List.length_take]; rfl)) ?_; (with_reducible refine (laws_markGraph.calls kj24 t194 (fun k_ => some k_ = (.slice Ao62 t195.length co62 : Value).ownBlock) (.slice Ao62 t195.length co62) t195 t216 t218 t219 w _ ?side1 ?side2 A107.out).mono ?_); (case side1 => repeat (first | (with_reducible first | exact HB.out | apply below_alloc | apply pw_below_drewN | apply below_drew1 | refine below_set ?_ GE171.out | refine below_set ?_ GE172.out | refine below_set ?_ GE188.out | refine below_set ?_ GE193.out | refine below_set ?_ GE198.out | refine below_set ?_ GE204.out) | exact HB.out)); (case side2 => exact Kd.R_tight rfl HO_199001.out); rintro e w129 ⟨rfl, hy0, hb, hkp⟩; refine ⟨_, rfl, ?_⟩; have n0_ := Aside0.mk (Kd.R_mono (ok' := fun k_ => some k_ ≠ (.slice Ao52 t190.length co52 : Value).ownBlock ∧ some k_ ≠ (.slice Ao62 t195.length co62 : Value).ownBlock ∧ some k_ ≠ (.slice Ao72 t200.length co72 : Value).ownBlock ∧ some k_ ≠ (.slice Ao111 t207.length co111 : Value).ownBlock ∧ some k_ ≠ (.slice Ao115 t212.length co115 : Value).ownBlock) (Kd.R_keptB (HO_189001.out) hkp (fun k_ hk_ hs_ => (hk_.2.1) hs_)) (fun k_ hk_ => ⟨hk_.1.1, hk_.1.2.1, hk_.1.2.2.1, hk_.1.2.2.2.1, hk_.1.2.2.2.2⟩)); have n1_ := Aside0.mk (Kd.R_mono (ok' := fun k_ => some k_ ≠ (.slice Ao42 t184.length co42 : Value).ownBlock ∧ some k_ ≠ (.slice Ao62 t195.length co62 : Value).ownBlock ∧ some k_ ≠ (.slice Ao72 t200.length co72 : Value).ownBlock ∧ some k_ ≠ (.slice Ao111 t207.length co111 : Value).ownBlock ∧ some k_ ≠ (.slice Ao115 t212.length co115 : Value).ownBlock) (Kd.R_keptB (HO_194001.out) hkp (fun k_ hk_ hs_ => (hk_.1.1.2.1) hs_)) (fun k_ hk_ => ⟨hk_.1.1.1.1, hk_.1.1.1.2.1, hk_.1.1.1.2.2, hk_.1.1.2, hk_.1.2⟩)); have n2_ := Aside0.mk (Kd.R_reok rfl hy0 (fun k_ e_ => HO_199001.out.1 k_ e_)); have n3_ := Aside0.mk (Kd.R_mono (ok' := fun k_ => some k_ ≠ (.slice Ao42 t184.length co42 : Value).ownBlock ∧ some k_ ≠ (.slice Ao52 t190.length co52 : Value).ownBlock ∧ some k_ ≠ (.slice Ao62 t195.length co62 : Value).ownBlock ∧ some k_ ≠ (.slice Ao111 t207.length co111 : Value).ownBlock ∧ some k_ ≠ (.slice Ao115 t212.length co115 : Value).ownBlock) (Kd.R_keptB (HO_205001.out) hkp (fun k_ hk_ hs_ => (hk_.2.2.1) hs_)) (fun k_ hk_ => ⟨hk_.1.1, hk_.1.2.1, hk_.1.2.2.1, hk_.1.2.2.2.1, hk_.1.2.2.2.2⟩)); have n4_ := Aside0.mk (blk_kept (by (with_reducible repeat (first | refine blk_drewN ?_ _ | refine blk_drew ?_ | refine blk_alloc ?_ _)); exact BK171.out) hkp (fun hs_ => (fun e_ => (Kd.R_ne HO_199001.out BK171.out (by decide)) e_) hs_)); have n5_ := Aside0.mk (blk_kept (by (with_reducible repeat (first | refine blk_drewN ?_ _ | refine blk_drew ?_ | refine blk_alloc ?_ _)); exact BK172.out) hkp (fun hs_ => (fun e_ => (Kd.R_ne HO_199001.out BK172.out (by decide)) e_) hs_)); have n6_ := Aside0.mk (blk_kept (by (with_reducible repeat (first | refine blk_drewN ?_ _ | refine blk_drew ?_ | refine blk_alloc ?_ _)); exact BK188.out) hkp (fun hs_ => (fun e_ => (Kd.R_ne HO_199001.out BK188.out (by decide)) e_) hs_)); have n7_ := Aside0.mk (blk_kept (by (with_reducible repeat (first | refine blk_drewN ?_ _ | refine blk_drew ?_ | refine blk_alloc ?_ _)); exact BK193.out) hkp (fun hs_ => (fun e_ => (Kd.R_ne HO_199001.out BK193.out (by decide)) e_) hs_)); have n8_ := Aside0.mk (blk_kept (by (with_reducible repeat (first | refine blk_drewN ?_ _ | refine blk_drew ?_ | refine blk_alloc ?_ _)); exact BK198.out) hkp (fun hs_ => (fun e_ => (Kd.R_ne HO_199001.out BK198.out (by decide)) e_) hs_)); have n9_ := Aside0.mk (blk_kept (by (with_reducible repeat (first | refine blk_drewN ?_ _ | refine blk_drew ?_ | refine blk_alloc ?_ _)); exact BK204.out) hkp (fun hs_ => (fun e_ => (Kd.R_ne HO_199001.out BK204.out (by decide)) e_) hs_)); have n10_ := Aside0.mk (Kd.R_mono (ok' := fun k_ => some k_ ≠ (.slice Ao42 t184.length co42 : Value).ownBlock ∧ some k_ ≠ (.slice Ao52 t190.length co52 : Value).ownBlock ∧ some k_ ≠ (.slice Ao62 t195.length co62 : Value).ownBlock ∧ some k_ ≠ (.slice Ao72 t200.length co72 : Value).ownBlock ∧ some k_ ≠ (.slice Ao115 t212.length co115 : Value).ownBlock) (Kd.R_keptB (HO209.out) hkp (fun k_ hk_ hs_ => (hk_.2.2.1) hs_)) (fun k_ hk_ => ⟨hk_.1.1, hk_.1.2.1, hk_.1.2.2.1, hk_.1.2.2.2.1, hk_.1.2.2.2.2⟩)); have n11_ := Aside0.mk (Kd.R_mono (ok' := fun k_ => some k_ ≠ (.slice Ao42 t184.length co42 : Value).ownBlock ∧ some k_ ≠ (.slice Ao52 t190.length co52 : Value).ownBlock ∧ some k_ ≠ (.slice Ao62 t195.length co62 : Value).ownBlock ∧ some k_ ≠ (.slice Ao72 t200.length co72 : Value).ownBlock ∧ some k_ ≠ (.slice Ao111 t207.length co111 : Value).ownBlock) (Kd.R_keptB (HO214.out) hkp (fun k_ hk_ hs_ => (hk_.2.2.1) hs_)) (fun k_ hk_ => ⟨hk_.1.1, hk_.1.2.1, hk_.1.2.2.1, hk_.1.2.2.2.1, hk_.1.2.2.2.2⟩)); have n12_ := Aside0.mk (hb); clear HO_189001; clear HO_194001; clear HO_199001; clear HO_205001; clear BK171; clear BK172; clear BK188; clear BK193; clear BK198; clear BK204; clear HO209; clear HO214; clear HB; have HO_189001 := n0_; have HO_194001 := n1_; have HO_199001 := n2_; have HO_205001 := n3_; have BK171 := n4_; have BK172 := n5_; have BK188 := n6_; have BK193 := n7_; have BK198 := n8_; have BK204 := n9_; have HO209 := n10_; have HO214 := n11_; have HB := n12_; clear n0_ n1_ n2_ n3_ n4_ n5_ n6_ n7_ n8_ n9_ n10_ n11_ n12_; (try clear hb); (try clear hkp); (try clear hy0)))
     (try simp only [Act.put, List.setIfInBounds_toArray, List.set_cons_zero, List.set_cons_succ])
     go_cut [82] (fun v82 wc => ∃ (kq : Nat) (x82_107 : Bool), v82 = .bool x82_107 ∧ Aside0 (laws_FnExactPutBeside.j1 kq t187 x82_107 a0_0 l0_1 a1_0 l1_1 t183 t184 t199 t200 = some r) ∧ Aside0 (kq ≤ kj24) ∧ Aside0 (Kd.R (Kd.int .i64) 2 wc w.heap.size (fun k_ => some k_ ≠ ((.slice Ao52 t190.length co52) : Value).ownBlock ∧ some k_ ≠ ((.slice Ao62 t195.length co62) : Value).ownBlock ∧ some k_ ≠ ((.slice Ao72 t200.length co72) : Value).ownBlock) (.slice Ao42 t184.length co42) t184) ∧ Aside0 (Kd.R (Kd.int .i64) 2 wc w.heap.size (fun k_ => some k_ ≠ ((.slice Ao42 t184.length co42) : Value).ownBlock ∧ some k_ ≠ ((.slice Ao62 t195.length co62) : Value).ownBlock ∧ some k_ ≠ ((.slice Ao72 t200.length co72) : Value).ownBlock) (.slice Ao52 t190.length co52) t217) ∧ Aside0 (Kd.R (Kd.int .i64) 2 wc w.heap.size (fun k_ => some k_ ≠ ((.slice Ao42 t184.length co42) : Value).ownBlock ∧ some k_ ≠ ((.slice Ao52 t190.length co52) : Value).ownBlock ∧ some k_ ≠ ((.slice Ao72 t200.length co72) : Value).ownBlock) (.slice Ao62 t195.length co62) t219) ∧ Aside0 (Kd.R (Kd.int .i64) 2 wc w.heap.size (fun k_ => some k_ ≠ ((.slice Ao42 t184.length co42) : Value).ownBlock ∧ some k_ ≠ ((.slice Ao52 t190.length co52) : Value).ownBlock ∧ some k_ ≠ ((.slice Ao62 t195.length co62) : Value).ownBlock) (.slice Ao72 t200.length co72) t200) ∧ Aside0 (wc.heap[gb171]? = some (.cells #[.int .i64 a0_0, (.slice A0_1 l0_1.length c0_1)] 41 (0, 0))) ∧ Aside0 (wc.heap[gb172]? = some (.cells #[.int .i64 a1_0, (.slice A1_1 l1_1.length c1_1)] 41 (0, 0))) ∧ Aside0 (wc.heap[gb188]? = some (.cells #[.int .i64 t183, (.slice Ao42 t184.length co42)] 34 (0, 0))) ∧ Aside0 (wc.heap[gb193]? = some (.cells #[.int .i64 t189, (.slice Ao52 t190.length co52)] 34 (0, 0))) ∧ Aside0 (wc.heap[gb198]? = some (.cells #[.int .i64 t194, (.slice Ao62 t195.length co62)] 34 (0, 0))) ∧ Aside0 (wc.heap[gb204]? = some (.cells #[.int .i64 t199, (.slice Ao72 t200.length co72)] 34 (0, 0))) ∧ Aside0 (Below w.heap.size w wc))
     case first =>
      have H := HC108.out
      clear HC108
      by_cases c130 : t218 < 0
      ·rw [if_pos c130] at H
       have c130b0 : decide (t218 < 0) = true := decide_eq_true c130
       clear c130
       (first | rw [c130b0] | (simp only [i64_w, i32_w]; rw [c130b0]) | skip)
       have H' := Aside0.mk H
       clear H
       go_wp2
       go_meet
       case rel => exact ⟨_, (true), (by first | rfl | (simp; done) | (simp [*]; done)), H', ⟨by have := HJ24.out; first | omega | exact Nat.le_refl _⟩, ⟨by (with_reducible repeat (first | apply Kd.R_alloc | apply Kd.R_drewN | apply Kd.R_drew)); exact Kd.R_mono HO_189001.out (fun _ hk => ⟨hk.1, ⟨hk.2.1, hk.2.2.1⟩⟩)⟩, ⟨by (with_reducible repeat (first | apply Kd.R_alloc | apply Kd.R_drewN | apply Kd.R_drew)); exact Kd.R_mono HO_194001.out (fun _ hk => ⟨hk.1, ⟨hk.2.1, hk.2.2.1⟩⟩)⟩, ⟨by (with_reducible repeat (first | apply Kd.R_alloc | apply Kd.R_drewN | apply Kd.R_drew)); exact Kd.R_mono HO_199001.out (fun _ hk => ⟨hk.1, ⟨hk.2.1, hk.2.2.1⟩⟩)⟩, ⟨by (with_reducible repeat (first | apply Kd.R_alloc | apply Kd.R_drewN | apply Kd.R_drew)); exact Kd.R_mono HO_205001.out (fun _ hk => ⟨hk.1, ⟨hk.2.1, hk.2.2.1⟩⟩)⟩, ⟨by (with_reducible repeat (first | refine blk_drewN ?_ _ | refine blk_drew ?_ | refine blk_alloc ?_ _)); exact BK171.out⟩, ⟨by (with_reducible repeat (first | refine blk_drewN ?_ _ | refine blk_drew ?_ | refine blk_alloc ?_ _)); exact BK172.out⟩, ⟨by (with_reducible repeat (first | refine blk_drewN ?_ _ | refine blk_drew ?_ | refine blk_alloc ?_ _)); exact BK188.out⟩, ⟨by (with_reducible repeat (first | refine blk_drewN ?_ _ | refine blk_drew ?_ | refine blk_alloc ?_ _)); exact BK193.out⟩, ⟨by (with_reducible repeat (first | refine blk_drewN ?_ _ | refine blk_drew ?_ | refine blk_alloc ?_ _)); exact BK198.out⟩, ⟨by (with_reducible repeat (first | refine blk_drewN ?_ _ | refine blk_drew ?_ | refine blk_alloc ?_ _)); exact BK204.out⟩, ⟨by repeat (first | (with_reducible first | exact HB.out | apply below_alloc | apply pw_below_drewN | apply below_drew1 | refine below_set ?_ GE171.out | refine below_set ?_ GE172.out | refine below_set ?_ GE188.out | refine below_set ?_ GE193.out | refine below_set ?_ GE198.out | refine below_set ?_ GE204.out) | exact HB.out)⟩⟩
      ·rw [if_neg c130] at H
       have c130b0 : decide (t218 < 0) = false := decide_eq_false c130
       clear c130
       (first | rw [c130b0] | (simp only [i64_w, i32_w]; rw [c130b0]) | skip)
       replace H := Option.bind_eq_some_iff.mp H
       obtain ⟨t220, A1310, H⟩ := H
       replace H : (if t220 = true then (laws_FnExactPutBeside.j1 kj24 t187 (t203 != t187) a0_0 l0_1 a1_0 l1_1 t183 t184 t199 t200) else (laws_FnExactPutBeside.j1 kj24 t187 true a0_0 l0_1 a1_0 l1_1 t183 t184 t199 t200)) = some r := H
       have A131 := Aside0.mk A1310
       clear A1310
       by_cases c132 : t220 = true
       ·subst c132
        have H1 : (laws_FnExactPutBeside.j1 kj24 t187 (t203 != t187) a0_0 l0_1 a1_0 l1_1 t183 t184 t199 t200) = some r := by rw [if_pos rfl] at H; exact H
        clear H
        have H := H1
        clear H1
        have H' := Aside0.mk H
        clear H
        have hnb133 := NB204_171.out
        have hnc133 := NB171_204.out
        have hnb134 := NB204_172.out
        have hnc134 := NB172_204.out
        have hnb135 := NB204_188.out
        have hnc135 := NB188_204.out
        have hnb136 := NB204_193.out
        have hnc136 := NB193_204.out
        have hnb137 := NB204_198.out
        have hnc137 := NB198_204.out
        have hcz138_0 : w129.cell? ⟨gb204, 0, none⟩ = some (.int .i64 t199) := (blk_cell BK204.out 0).trans rfl
        have hcz138_1 : w129.cell? ⟨gb204, 1, none⟩ = some (.slice Ao72 t200.length co72) := (blk_cell BK204.out 1).trans rfl
        have hfz138_0 := blk_frozen BK204.out 0
        have hfz138_1 := blk_frozen BK204.out 1
        have hnb139 := NB188_171.out
        have hnc139 := NB171_188.out
        have hnb140 := NB188_172.out
        have hnc140 := NB172_188.out
        have hnb141 := NB188_193.out
        have hnc141 := NB193_188.out
        have hnb142 := NB188_198.out
        have hnc142 := NB198_188.out
        have hcz143_0 : w129.cell? ⟨gb188, 0, none⟩ = some (.int .i64 t183) := (blk_cell BK188.out 0).trans rfl
        have hcz143_1 : w129.cell? ⟨gb188, 1, none⟩ = some (.slice Ao42 t184.length co42) := (blk_cell BK188.out 1).trans rfl
        have hfz143_0 := blk_frozen BK188.out 0
        have hfz143_1 := blk_frozen BK188.out 1
        go_wp2_with (first | (go_at_call 25; (with_reducible refine (laws_eqGraph.calls kj24 t199 _ _ t200 t183 _ _ t184 true _ ?side1 ?side2 ?side3 ?side4 A131.out).mono ?_); (case side1 => repeat (first | exact (Kd.R_reads' HO_205001.out).2.2 | (with_reducible refine Kd.C_alloc ?_ _) | (with_reducible refine Kd.C_drewN ?_ _) | (with_reducible refine Kd.C_drew ?_))); (case side2 => exact (Kd.R_reads' HO_205001.out).2.1); (case side3 => repeat (first | exact (Kd.R_reads' HO_189001.out).2.2 | (with_reducible refine Kd.C_alloc ?_ _) | (with_reducible refine Kd.C_drewN ?_ _) | (with_reducible refine Kd.C_drew ?_))); (case side4 => exact (Kd.R_reads' HO_189001.out).2.1); rintro e w144 ⟨rfl, hb⟩; have n0_ := Aside0.mk (Kd.R_below (by (with_reducible repeat (first | apply Kd.R_alloc | apply Kd.R_drewN | apply Kd.R_drew)); exact HO_189001.out) hb); have n1_ := Aside0.mk (Kd.R_below (by (with_reducible repeat (first | apply Kd.R_alloc | apply Kd.R_drewN | apply Kd.R_drew)); exact HO_194001.out) hb); have n2_ := Aside0.mk (Kd.R_below (by (with_reducible repeat (first | apply Kd.R_alloc | apply Kd.R_drewN | apply Kd.R_drew)); exact HO_199001.out) hb); have n3_ := Aside0.mk (Kd.R_below (by (with_reducible repeat (first | apply Kd.R_alloc | apply Kd.R_drewN | apply Kd.R_drew)); exact HO_205001.out) hb); have n4_ := Aside0.mk (Kd.R_below (by (with_reducible repeat (first | apply Kd.R_alloc | apply Kd.R_drewN | apply Kd.R_drew)); exact HO209.out) hb); have n5_ := Aside0.mk (Kd.R_below (by (with_reducible repeat (first | apply Kd.R_alloc | apply Kd.R_drewN | apply Kd.R_drew)); exact HO214.out) hb); have n6_ := Aside0.mk (blk_below (g := gb171) (o := .cells #[.int .i64 a0_0, .slice A0_1 l0_1.length c0_1] 41 (0, 0)) (by (with_reducible repeat (first | refine blk_drewN ?_ _ | refine blk_drew ?_ | refine blk_alloc ?_ _)); exact BK171.out) hb); have n7_ := Aside0.mk (blk_below (g := gb172) (o := .cells #[.int .i64 a1_0, .slice A1_1 l1_1.length c1_1] 41 (0, 0)) (by (with_reducible repeat (first | refine blk_drewN ?_ _ | refine blk_drew ?_ | refine blk_alloc ?_ _)); exact BK172.out) hb); have n8_ := Aside0.mk (blk_below (g := gb188) (o := .cells #[.int .i64 t183, .slice Ao42 t184.length co42] 34 (0, 0)) (by (with_reducible repeat (first | refine blk_drewN ?_ _ | refine blk_drew ?_ | refine blk_alloc ?_ _)); exact BK188.out) hb); have n9_ := Aside0.mk (blk_below (g := gb193) (o := .cells #[.int .i64 t189, .slice Ao52 t190.length co52] 34 (0, 0)) (by (with_reducible repeat (first | refine blk_drewN ?_ _ | refine blk_drew ?_ | refine blk_alloc ?_ _)); exact BK193.out) hb); have n10_ := Aside0.mk (blk_below (g := gb198) (o := .cells #[.int .i64 t194, .slice Ao62 t195.length co62] 34 (0, 0)) (by (with_reducible repeat (first | refine blk_drewN ?_ _ | refine blk_drew ?_ | refine blk_alloc ?_ _)); exact BK198.out) hb); have n11_ := Aside0.mk (blk_below (g := gb204) (o := .cells #[.int .i64 t199, .slice Ao72 t200.length co72] 34 (0, 0)) (by (with_reducible repeat (first | refine blk_drewN ?_ _ | refine blk_drew ?_ | refine blk_alloc ?_ _)); exact BK204.out) hb); have n12_ := Aside0.mk (below_step (by repeat (first | (with_reducible first | exact HB.out | apply below_alloc | apply pw_below_drewN | apply below_drew1 | refine below_set ?_ GE171.out | refine below_set ?_ GE172.out | refine below_set ?_ GE188.out | refine below_set ?_ GE193.out | refine below_set ?_ GE198.out | refine below_set ?_ GE204.out) | exact HB.out)) hb); clear HO_189001; clear HO_194001; clear HO_199001; clear HO_205001; clear HO209; clear HO214; clear BK171; clear BK172; clear BK188; clear BK193; clear BK198; clear BK204; clear HB; have HO_189001 := n0_; have HO_194001 := n1_; have HO_199001 := n2_; have HO_205001 := n3_; have HO209 := n4_; have HO214 := n5_; have BK171 := n6_; have BK172 := n7_; have BK188 := n8_; have BK193 := n9_; have BK198 := n10_; have BK204 := n11_; have HB := n12_; clear n0_ n1_ n2_ n3_ n4_ n5_ n6_ n7_ n8_ n9_ n10_ n11_ n12_; (try clear hb); (try clear hb2); (try clear hk); (try clear hi)))
        go_meet
        case rel => exact ⟨_, ((t203 != t187)), (by first | rfl | (simp; done) | (simp [*]; done)), H', ⟨by have := HJ24.out; first | omega | exact Nat.le_refl _⟩, ⟨by (with_reducible repeat (first | apply Kd.R_alloc | apply Kd.R_drewN | apply Kd.R_drew)); exact Kd.R_mono HO_189001.out (fun _ hk => ⟨hk.1, ⟨hk.2.1, hk.2.2.1⟩⟩)⟩, ⟨by (with_reducible repeat (first | apply Kd.R_alloc | apply Kd.R_drewN | apply Kd.R_drew)); exact Kd.R_mono HO_194001.out (fun _ hk => ⟨hk.1, ⟨hk.2.1, hk.2.2.1⟩⟩)⟩, ⟨by (with_reducible repeat (first | apply Kd.R_alloc | apply Kd.R_drewN | apply Kd.R_drew)); exact Kd.R_mono HO_199001.out (fun _ hk => ⟨hk.1, ⟨hk.2.1, hk.2.2.1⟩⟩)⟩, ⟨by (with_reducible repeat (first | apply Kd.R_alloc | apply Kd.R_drewN | apply Kd.R_drew)); exact Kd.R_mono HO_205001.out (fun _ hk => ⟨hk.1, ⟨hk.2.1, hk.2.2.1⟩⟩)⟩, ⟨by (with_reducible repeat (first | refine blk_drewN ?_ _ | refine blk_drew ?_ | refine blk_alloc ?_ _)); exact BK171.out⟩, ⟨by (with_reducible repeat (first | refine blk_drewN ?_ _ | refine blk_drew ?_ | refine blk_alloc ?_ _)); exact BK172.out⟩, ⟨by (with_reducible repeat (first | refine blk_drewN ?_ _ | refine blk_drew ?_ | refine blk_alloc ?_ _)); exact BK188.out⟩, ⟨by (with_reducible repeat (first | refine blk_drewN ?_ _ | refine blk_drew ?_ | refine blk_alloc ?_ _)); exact BK193.out⟩, ⟨by (with_reducible repeat (first | refine blk_drewN ?_ _ | refine blk_drew ?_ | refine blk_alloc ?_ _)); exact BK198.out⟩, ⟨by (with_reducible repeat (first | refine blk_drewN ?_ _ | refine blk_drew ?_ | refine blk_alloc ?_ _)); exact BK204.out⟩, ⟨by repeat (first | (with_reducible first | exact HB.out | apply below_alloc | apply pw_below_drewN | apply below_drew1 | refine below_set ?_ GE171.out | refine below_set ?_ GE172.out | refine below_set ?_ GE188.out | refine below_set ?_ GE193.out | refine below_set ?_ GE198.out | refine below_set ?_ GE204.out) | exact HB.out)⟩⟩
       ·replace c132 := Bool.eq_false_iff.mpr c132
        subst c132
        have H1 : (laws_FnExactPutBeside.j1 kj24 t187 true a0_0 l0_1 a1_0 l1_1 t183 t184 t199 t200) = some r := by rw [if_neg (show ¬ (false = true) by decide)] at H; exact H
        clear H
        have H := H1
        clear H1
        have H' := Aside0.mk H
        clear H
        have hnb145 := NB204_171.out
        have hnc145 := NB171_204.out
        have hnb146 := NB204_172.out
        have hnc146 := NB172_204.out
        have hnb147 := NB204_188.out
        have hnc147 := NB188_204.out
        have hnb148 := NB204_193.out
        have hnc148 := NB193_204.out
        have hnb149 := NB204_198.out
        have hnc149 := NB198_204.out
        have hcz150_0 : w129.cell? ⟨gb204, 0, none⟩ = some (.int .i64 t199) := (blk_cell BK204.out 0).trans rfl
        have hcz150_1 : w129.cell? ⟨gb204, 1, none⟩ = some (.slice Ao72 t200.length co72) := (blk_cell BK204.out 1).trans rfl
        have hfz150_0 := blk_frozen BK204.out 0
        have hfz150_1 := blk_frozen BK204.out 1
        have hnb151 := NB188_171.out
        have hnc151 := NB171_188.out
        have hnb152 := NB188_172.out
        have hnc152 := NB172_188.out
        have hnb153 := NB188_193.out
        have hnc153 := NB193_188.out
        have hnb154 := NB188_198.out
        have hnc154 := NB198_188.out
        have hcz155_0 : w129.cell? ⟨gb188, 0, none⟩ = some (.int .i64 t183) := (blk_cell BK188.out 0).trans rfl
        have hcz155_1 : w129.cell? ⟨gb188, 1, none⟩ = some (.slice Ao42 t184.length co42) := (blk_cell BK188.out 1).trans rfl
        have hfz155_0 := blk_frozen BK188.out 0
        have hfz155_1 := blk_frozen BK188.out 1
        go_wp2_with (first | (go_at_call 25; (with_reducible refine (laws_eqGraph.calls kj24 t199 _ _ t200 t183 _ _ t184 false _ ?side1 ?side2 ?side3 ?side4 A131.out).mono ?_); (case side1 => repeat (first | exact (Kd.R_reads' HO_205001.out).2.2 | (with_reducible refine Kd.C_alloc ?_ _) | (with_reducible refine Kd.C_drewN ?_ _) | (with_reducible refine Kd.C_drew ?_))); (case side2 => exact (Kd.R_reads' HO_205001.out).2.1); (case side3 => repeat (first | exact (Kd.R_reads' HO_189001.out).2.2 | (with_reducible refine Kd.C_alloc ?_ _) | (with_reducible refine Kd.C_drewN ?_ _) | (with_reducible refine Kd.C_drew ?_))); (case side4 => exact (Kd.R_reads' HO_189001.out).2.1); rintro e w156 ⟨rfl, hb⟩; have n0_ := Aside0.mk (Kd.R_below (by (with_reducible repeat (first | apply Kd.R_alloc | apply Kd.R_drewN | apply Kd.R_drew)); exact HO_189001.out) hb); have n1_ := Aside0.mk (Kd.R_below (by (with_reducible repeat (first | apply Kd.R_alloc | apply Kd.R_drewN | apply Kd.R_drew)); exact HO_194001.out) hb); have n2_ := Aside0.mk (Kd.R_below (by (with_reducible repeat (first | apply Kd.R_alloc | apply Kd.R_drewN | apply Kd.R_drew)); exact HO_199001.out) hb); have n3_ := Aside0.mk (Kd.R_below (by (with_reducible repeat (first | apply Kd.R_alloc | apply Kd.R_drewN | apply Kd.R_drew)); exact HO_205001.out) hb); have n4_ := Aside0.mk (Kd.R_below (by (with_reducible repeat (first | apply Kd.R_alloc | apply Kd.R_drewN | apply Kd.R_drew)); exact HO209.out) hb); have n5_ := Aside0.mk (Kd.R_below (by (with_reducible repeat (first | apply Kd.R_alloc | apply Kd.R_drewN | apply Kd.R_drew)); exact HO214.out) hb); have n6_ := Aside0.mk (blk_below (g := gb171) (o := .cells #[.int .i64 a0_0, .slice A0_1 l0_1.length c0_1] 41 (0, 0)) (by (with_reducible repeat (first | refine blk_drewN ?_ _ | refine blk_drew ?_ | refine blk_alloc ?_ _)); exact BK171.out) hb); have n7_ := Aside0.mk (blk_below (g := gb172) (o := .cells #[.int .i64 a1_0, .slice A1_1 l1_1.length c1_1] 41 (0, 0)) (by (with_reducible repeat (first | refine blk_drewN ?_ _ | refine blk_drew ?_ | refine blk_alloc ?_ _)); exact BK172.out) hb); have n8_ := Aside0.mk (blk_below (g := gb188) (o := .cells #[.int .i64 t183, .slice Ao42 t184.length co42] 34 (0, 0)) (by (with_reducible repeat (first | refine blk_drewN ?_ _ | refine blk_drew ?_ | refine blk_alloc ?_ _)); exact BK188.out) hb); have n9_ := Aside0.mk (blk_below (g := gb193) (o := .cells #[.int .i64 t189, .slice Ao52 t190.length co52] 34 (0, 0)) (by (with_reducible repeat (first | refine blk_drewN ?_ _ | refine blk_drew ?_ | refine blk_alloc ?_ _)); exact BK193.out) hb); have n10_ := Aside0.mk (blk_below (g := gb198) (o := .cells #[.int .i64 t194, .slice Ao62 t195.length co62] 34 (0, 0)) (by (with_reducible repeat (first | refine blk_drewN ?_ _ | refine blk_drew ?_ | refine blk_alloc ?_ _)); exact BK198.out) hb); have n11_ := Aside0.mk (blk_below (g := gb204) (o := .cells #[.int .i64 t199, .slice Ao72 t200.length co72] 34 (0, 0)) (by (with_reducible repeat (first | refine blk_drewN ?_ _ | refine blk_drew ?_ | refine blk_alloc ?_ _)); exact BK204.out) hb); have n12_ := Aside0.mk (below_step (by repeat (first | (with_reducible first | exact HB.out | apply below_alloc | apply pw_below_drewN | apply below_drew1 | refine below_set ?_ GE171.out | refine below_set ?_ GE172.out | refine below_set ?_ GE188.out | refine below_set ?_ GE193.out | refine below_set ?_ GE198.out | refine below_set ?_ GE204.out) | exact HB.out)) hb); clear HO_189001; clear HO_194001; clear HO_199001; clear HO_205001; clear HO209; clear HO214; clear BK171; clear BK172; clear BK188; clear BK193; clear BK198; clear BK204; clear HB; have HO_189001 := n0_; have HO_194001 := n1_; have HO_199001 := n2_; have HO_205001 := n3_; have HO209 := n4_; have HO214 := n5_; have BK171 := n6_; have BK172 := n7_; have BK188 := n8_; have BK193 := n9_; have BK198 := n10_; have BK204 := n11_; have HB := n12_; clear n0_ n1_ n2_ n3_ n4_ n5_ n6_ n7_ n8_ n9_ n10_ n11_ n12_; (try clear hb); (try clear hb2); (try clear hk); (try clear hi)))
        go_meet
        case rel => exact ⟨_, (true), (by first | rfl | (simp; done) | (simp [*]; done)), H', ⟨by have := HJ24.out; first | omega | exact Nat.le_refl _⟩, ⟨by (with_reducible repeat (first | apply Kd.R_alloc | apply Kd.R_drewN | apply Kd.R_drew)); exact Kd.R_mono HO_189001.out (fun _ hk => ⟨hk.1, ⟨hk.2.1, hk.2.2.1⟩⟩)⟩, ⟨by (with_reducible repeat (first | apply Kd.R_alloc | apply Kd.R_drewN | apply Kd.R_drew)); exact Kd.R_mono HO_194001.out (fun _ hk => ⟨hk.1, ⟨hk.2.1, hk.2.2.1⟩⟩)⟩, ⟨by (with_reducible repeat (first | apply Kd.R_alloc | apply Kd.R_drewN | apply Kd.R_drew)); exact Kd.R_mono HO_199001.out (fun _ hk => ⟨hk.1, ⟨hk.2.1, hk.2.2.1⟩⟩)⟩, ⟨by (with_reducible repeat (first | apply Kd.R_alloc | apply Kd.R_drewN | apply Kd.R_drew)); exact Kd.R_mono HO_205001.out (fun _ hk => ⟨hk.1, ⟨hk.2.1, hk.2.2.1⟩⟩)⟩, ⟨by (with_reducible repeat (first | refine blk_drewN ?_ _ | refine blk_drew ?_ | refine blk_alloc ?_ _)); exact BK171.out⟩, ⟨by (with_reducible repeat (first | refine blk_drewN ?_ _ | refine blk_drew ?_ | refine blk_alloc ?_ _)); exact BK172.out⟩, ⟨by (with_reducible repeat (first | refine blk_drewN ?_ _ | refine blk_drew ?_ | refine blk_alloc ?_ _)); exact BK188.out⟩, ⟨by (with_reducible repeat (first | refine blk_drewN ?_ _ | refine blk_drew ?_ | refine blk_alloc ?_ _)); exact BK193.out⟩, ⟨by (with_reducible repeat (first | refine blk_drewN ?_ _ | refine blk_drew ?_ | refine blk_alloc ?_ _)); exact BK198.out⟩, ⟨by (with_reducible repeat (first | refine blk_drewN ?_ _ | refine blk_drew ?_ | refine blk_alloc ?_ _)); exact BK204.out⟩, ⟨by repeat (first | (with_reducible first | exact HB.out | apply below_alloc | apply pw_below_drewN | apply below_drew1 | refine below_set ?_ GE171.out | refine below_set ?_ GE172.out | refine below_set ?_ GE188.out | refine below_set ?_ GE193.out | refine below_set ?_ GE198.out | refine below_set ?_ GE204.out) | exact HB.out)⟩⟩
     case rest =>
      clear HC108
      try clear c1
      try clear c2
      try clear p2
      try clear c3
      try clear c7
      try clear c8
      try clear c9
      try clear c10
      try clear c11
      try clear c12
      try clear c13
      try clear c14
      try clear c15
      try clear c25
      try clear c26
      try clear c30
      try clear c76
      try clear c77
      try clear c78
      try clear c79
      try clear c81
      try clear c82
      try clear c83
      try clear c84
      try clear c87
      try clear c88
      try clear c89
      try clear c90
      try clear c91
      try clear c93
      try clear c94
      try clear c95
      try clear c96
      try clear c99
      try clear c102
      try clear c105
      try clear c117
      try clear c118
      try clear c119
      try clear c120
      try clear c121
      try clear c124
      try clear c125
      try clear c126
      try clear c127
      try clear c130
      try clear c130b0
      try clear c132
      try clear c133
      try clear c134
      try clear c135
      try clear c136
      try clear c137
      try clear c139
      try clear c140
      try clear c141
      try clear c142
      try clear c145
      try clear c146
      try clear c147
      try clear c148
      try clear c149
      try clear c151
      try clear c152
      try clear c153
      try clear c154
      try clear hcz122_0
      try clear hcz122_1
      try clear hcz128_0
      try clear hcz128_1
      try clear hcz138_0
      try clear hcz138_1
      try clear hcz143_0
      try clear hcz143_1
      try clear hcz150_0
      try clear hcz150_1
      try clear hcz155_0
      try clear hcz155_1
      try clear hcz45_0
      try clear hcz45_1
      try clear hcz51_0
      try clear hcz51_1
      try clear hcz54_0
      try clear hcz54_1
      try clear hcz61_0
      try clear hcz61_1
      try clear hcz63_0
      try clear hcz63_1
      try clear hcz71_0
      try clear hcz71_1
      try clear hcz80_0
      try clear hcz80_1
      try clear hcz85_0
      try clear hcz85_1
      try clear hcz92_0
      try clear hcz92_1
      try clear hcz97_0
      try clear hcz97_1
      try clear hfz122_0
      try clear hfz122_1
      try clear hfz128_0
      try clear hfz128_1
      try clear hfz138_0
      try clear hfz138_1
      try clear hfz143_0
      try clear hfz143_1
      try clear hfz150_0
      try clear hfz150_1
      try clear hfz155_0
      try clear hfz155_1
      try clear hfz45_0
      try clear hfz45_1
      try clear hfz51_0
      try clear hfz51_1
      try clear hfz54_0
      try clear hfz54_1
      try clear hfz61_0
      try clear hfz61_1
      try clear hfz63_0
      try clear hfz63_1
      try clear hfz71_0
      try clear hfz71_1
      try clear hfz80_0
      try clear hfz80_1
      try clear hfz85_0
      try clear hfz85_1
      try clear hfz92_0
      try clear hfz92_1
      try clear hfz97_0
      try clear hfz97_1
      obtain ⟨kq, x82_107, rfl, HA, HJ107, HO_189001, HO_194001, HO_199001, HO_205001, BK171, BK172, BK188, BK193, BK198, BK204, HB⟩ := hcut
      have hl194001_107 := (Kd.R_reads' HO_194001.out).1
      rw [hl194001_107] at HO_194001
      (try simp only [hl194001_107])
      (try simp only [hl194001_107] at BK171)
      (try simp only [hl194001_107] at BK172)
      (try simp only [hl194001_107] at BK188)
      (try simp only [hl194001_107] at BK193)
      (try simp only [hl194001_107] at BK198)
      (try simp only [hl194001_107] at BK204)
      (try simp only [hl194001_107] at HO_189001)
      (try simp only [hl194001_107] at HO_199001)
      (try simp only [hl194001_107] at HO_205001)
      have hl199001_107 := (Kd.R_reads' HO_199001.out).1
      rw [hl199001_107] at HO_199001
      (try simp only [hl199001_107])
      (try simp only [hl199001_107] at BK171)
      (try simp only [hl199001_107] at BK172)
      (try simp only [hl199001_107] at BK188)
      (try simp only [hl199001_107] at BK193)
      (try simp only [hl199001_107] at BK198)
      (try simp only [hl199001_107] at BK204)
      (try simp only [hl199001_107] at HO_189001)
      (try simp only [hl199001_107] at HO_194001)
      (try simp only [hl199001_107] at HO_205001)
      cases kq with
      | zero => exact absurd HA.out (by simp [laws_FnExactPutBeside.j1])
      | succ kj107 =>
       have H := HA.out
       clear HA
       simp only [laws_FnExactPutBeside.j1] at H
       by_cases c157 : x82_107 = true
       ·subst c157
        have H1 : (some false) = some r := by rw [if_pos rfl] at H; exact H
        clear H
        have H := H1
        clear H1
        obtain rfl := Option.some.inj H
        go_wp2
        go_ret
        exact ⟨by first | rfl | (simp [errW_none, errW_some] <;> rfl) | (simp [*, errW_none, errW_some] <;> rfl), by repeat (first | (with_reducible first | exact HB.out | apply below_alloc | apply pw_below_drewN | apply below_drew1 | refine below_set ?_ GE171.out | refine below_set ?_ GE172.out | refine below_set ?_ GE188.out | refine below_set ?_ GE193.out | refine below_set ?_ GE198.out | refine below_set ?_ GE204.out) | exact HB.out)⟩
       ·replace c157 := Bool.eq_false_iff.mpr c157
        subst c157
        have H1 : ((laws_markGraph.f kj107 t199 t200 1).bind fun bt221 => ((laws_heldGraph.f kj107 t199 bt221.2 1).bind fun t223 => (if t223 < 0 then (some false) else (if t223 = bt221.1 then ((laws_toGraph.f kj107 a0_0 l0_1).bind fun bt224 => ((laws_toGraph.f kj107 a1_0 l1_1).bind fun bt228 => ((impl_PutBeside.f kj107 bt224.1 bt224.2 bt228.1 bt228.2).bind fun bt232 => ((laws_eqGraph.f kj107 bt232.1 bt232.2.1 t183 t184).bind fun t238 => (if t238 = true then (laws_FnExactPutBeside.j2 kj107 bt221.1 (bt232.2.2 != t187) t199 bt221.2) else (laws_FnExactPutBeside.j2 kj107 bt221.1 true t199 bt221.2)))))) else (some false))))) = some r := by rw [if_neg (show ¬ (false = true) by decide)] at H; exact H
        clear H
        have H := H1
        clear H1
        replace H := Option.bind_eq_some_iff.mp H
        obtain ⟨⟨t221, t222⟩, A1580, H⟩ := H
        replace H : ((laws_heldGraph.f kj107 t199 t222 1).bind fun t223 => (if t223 < 0 then (some false) else (if t223 = t221 then ((laws_toGraph.f kj107 a0_0 l0_1).bind fun bt224 => ((laws_toGraph.f kj107 a1_0 l1_1).bind fun bt228 => ((impl_PutBeside.f kj107 bt224.1 bt224.2 bt228.1 bt228.2).bind fun bt232 => ((laws_eqGraph.f kj107 bt232.1 bt232.2.1 t183 t184).bind fun t238 => (if t238 = true then (laws_FnExactPutBeside.j2 kj107 t221 (bt232.2.2 != t187) t199 t222) else (laws_FnExactPutBeside.j2 kj107 t221 true t199 t222)))))) else (some false)))) = some r := H
        have A158 := Aside0.mk A1580
        clear A1580
        replace H := Option.bind_eq_some_iff.mp H
        obtain ⟨t223, A1590, H⟩ := H
        replace H : (if t223 < 0 then (some false) else (if t223 = t221 then ((laws_toGraph.f kj107 a0_0 l0_1).bind fun bt224 => ((laws_toGraph.f kj107 a1_0 l1_1).bind fun bt228 => ((impl_PutBeside.f kj107 bt224.1 bt224.2 bt228.1 bt228.2).bind fun bt232 => ((laws_eqGraph.f kj107 bt232.1 bt232.2.1 t183 t184).bind fun t238 => (if t238 = true then (laws_FnExactPutBeside.j2 kj107 t221 (bt232.2.2 != t187) t199 t222) else (laws_FnExactPutBeside.j2 kj107 t221 true t199 t222)))))) else (some false))) = some r := H
        have A159 := Aside0.mk A1590
        clear A1590
        by_cases c160 : t223 < 0
        ·rw [if_pos c160] at H
         have c160b0 : decide (t223 < 0) = true := decide_eq_true c160
         clear c160
         obtain rfl := Option.some.inj H
         have hnb161 := NB204_171.out
         have hnc161 := NB171_204.out
         have hnb162 := NB204_172.out
         have hnc162 := NB172_204.out
         have hnb163 := NB204_188.out
         have hnc163 := NB188_204.out
         have hnb164 := NB204_193.out
         have hnc164 := NB193_204.out
         have hnb165 := NB204_198.out
         have hnc165 := NB198_204.out
         have hcz166_0 : wc.cell? ⟨gb204, 0, none⟩ = some (.int .i64 t199) := (blk_cell BK204.out 0).trans rfl
         have hcz166_1 : wc.cell? ⟨gb204, 1, none⟩ = some (.slice Ao72 t200.length co72) := (blk_cell BK204.out 1).trans rfl
         have hfz166_0 := blk_frozen BK204.out 0
         have hfz166_1 := blk_frozen BK204.out 1
         go_wp2_with (first | ((with_reducible refine gate_callee (f := 26) rfl ?_); refine goesL_ (some 85) rfl rfl Try.func26 (by kernel_rfl) rfl #[.agg #[.int .i64 t199, .slice Ao72 t200.length co72], .int .i64 1] rfl (by (try simp only [List.map_toArray, List.map_cons, List.map_nil]); first | done | rfl | (simp only [List.length_drop, List.length_take]; rfl)) ?_; (with_reducible refine (laws_markGraph.calls kj107 t199 (fun k_ => some k_ = (.slice Ao72 t200.length co72 : Value).ownBlock) (.slice Ao72 t200.length co72) t200 1 t221 t222 w _ ?side1 ?side2 A158.out).mono ?_); (case side1 => repeat (first | (with_reducible first | exact HB.out | apply below_alloc | apply pw_below_drewN | apply below_drew1 | refine below_set ?_ GE171.out | refine below_set ?_ GE172.out | refine below_set ?_ GE188.out | refine below_set ?_ GE193.out | refine below_set ?_ GE198.out | refine below_set ?_ GE204.out) | exact HB.out)); (case side2 => exact Kd.R_tight rfl HO_205001.out); rintro e w167 ⟨rfl, hy0, hb, hkp⟩; refine ⟨_, rfl, ?_⟩; have n0_ := Aside0.mk (Kd.R_mono (ok' := fun k_ => some k_ ≠ (.slice Ao52 t217.length co52 : Value).ownBlock ∧ some k_ ≠ (.slice Ao62 t219.length co62 : Value).ownBlock ∧ some k_ ≠ (.slice Ao72 t200.length co72 : Value).ownBlock) (Kd.R_keptB (HO_189001.out) hkp (fun k_ hk_ hs_ => (hk_.2.2) hs_)) (fun k_ hk_ => ⟨hk_.1.1, hk_.1.2.1, hk_.1.2.2⟩)); have n1_ := Aside0.mk (Kd.R_mono (ok' := fun k_ => some k_ ≠ (.slice Ao42 t184.length co42 : Value).ownBlock ∧ some k_ ≠ (.slice Ao62 t219.length co62 : Value).ownBlock ∧ some k_ ≠ (.slice Ao72 t200.length co72 : Value).ownBlock) (Kd.R_keptB (HO_194001.out) hkp (fun k_ hk_ hs_ => (hk_.2.2) hs_)) (fun k_ hk_ => ⟨hk_.1.1, hk_.1.2.1, hk_.1.2.2⟩)); have n2_ := Aside0.mk (Kd.R_mono (ok' := fun k_ => some k_ ≠ (.slice Ao42 t184.length co42 : Value).ownBlock ∧ some k_ ≠ (.slice Ao52 t217.length co52 : Value).ownBlock ∧ some k_ ≠ (.slice Ao72 t200.length co72 : Value).ownBlock) (Kd.R_keptB (HO_199001.out) hkp (fun k_ hk_ hs_ => (hk_.2.2) hs_)) (fun k_ hk_ => ⟨hk_.1.1, hk_.1.2.1, hk_.1.2.2⟩)); have n3_ := Aside0.mk (Kd.R_reok rfl hy0 (fun k_ e_ => HO_205001.out.1 k_ e_)); have n4_ := Aside0.mk (blk_kept (by (with_reducible repeat (first | refine blk_drewN ?_ _ | refine blk_drew ?_ | refine blk_alloc ?_ _)); exact BK171.out) hkp (fun hs_ => (fun e_ => (Kd.R_ne HO_205001.out BK171.out (by decide)) e_) hs_)); have n5_ := Aside0.mk (blk_kept (by (with_reducible repeat (first | refine blk_drewN ?_ _ | refine blk_drew ?_ | refine blk_alloc ?_ _)); exact BK172.out) hkp (fun hs_ => (fun e_ => (Kd.R_ne HO_205001.out BK172.out (by decide)) e_) hs_)); have n6_ := Aside0.mk (blk_kept (by (with_reducible repeat (first | refine blk_drewN ?_ _ | refine blk_drew ?_ | refine blk_alloc ?_ _)); exact BK188.out) hkp (fun hs_ => (fun e_ => (Kd.R_ne HO_205001.out BK188.out (by decide)) e_) hs_)); have n7_ := Aside0.mk (blk_kept (by (with_reducible repeat (first | refine blk_drewN ?_ _ | refine blk_drew ?_ | refine blk_alloc ?_ _)); exact BK193.out) hkp (fun hs_ => (fun e_ => (Kd.R_ne HO_205001.out BK193.out (by decide)) e_) hs_)); have n8_ := Aside0.mk (blk_kept (by (with_reducible repeat (first | refine blk_drewN ?_ _ | refine blk_drew ?_ | refine blk_alloc ?_ _)); exact BK198.out) hkp (fun hs_ => (fun e_ => (Kd.R_ne HO_205001.out BK198.out (by decide)) e_) hs_)); have n9_ := Aside0.mk (blk_kept (by (with_reducible repeat (first | refine blk_drewN ?_ _ | refine blk_drew ?_ | refine blk_alloc ?_ _)); exact BK204.out) hkp (fun hs_ => (fun e_ => (Kd.R_ne HO_205001.out BK204.out (by decide)) e_) hs_)); have n10_ := Aside0.mk (hb); clear HO_189001; clear HO_194001; clear HO_199001; clear HO_205001; clear BK171; clear BK172; clear BK188; clear BK193; clear BK198; clear BK204; clear HB; have HO_189001 := n0_; have HO_194001 := n1_; have HO_199001 := n2_; have HO_205001 := n3_; have BK171 := n4_; have BK172 := n5_; have BK188 := n6_; have BK193 := n7_; have BK198 := n8_; have BK204 := n9_; have HB := n10_; clear n0_ n1_ n2_ n3_ n4_ n5_ n6_ n7_ n8_ n9_ n10_; (try clear hb); (try clear hkp); (try clear hy0); have hcz168_0 : w167.cell? ⟨gb204, 0, none⟩ = some (.int .i64 t199) := (blk_cell BK204.out 0).trans rfl; have hcz168_1 : w167.cell? ⟨gb204, 1, none⟩ = some (.slice Ao72 t200.length co72) := (blk_cell BK204.out 1).trans rfl; have hfz168_0 := blk_frozen BK204.out 0; have hfz168_1 := blk_frozen BK204.out 1) | ((with_reducible refine gate_callee (f := 27) rfl ?_); refine goesL_ (some 88) rfl rfl Try.func27 (by kernel_rfl) rfl #[.agg #[.int .i64 t199, .slice Ao72 t222.length co72], .int .i64 1] rfl (by (try simp only [List.map_toArray, List.map_cons, List.map_nil]); first | done | (rw [show t222.length = t200.length from (Kd.R_reads' HO_205001.out).1.symm] <;> rfl) | rfl | (simp only [List.length_drop, List.length_take]; rfl)) ?_; (with_reducible refine (laws_heldGraph.calls kj107 t199 _ _ t222 1 t223 _ ?side1 ?side2 A159.out).mono ?_); (case side1 => repeat (first | exact (Kd.R_reads' HO_205001.out).2.2 | (with_reducible refine Kd.C_alloc ?_ _) | (with_reducible refine Kd.C_drewN ?_ _) | (with_reducible refine Kd.C_drew ?_))); (case side2 => rw [show t222.length = t200.length from (Kd.R_reads' HO_205001.out).1.symm]; exact (Kd.R_reads' HO_205001.out).2.1); rintro e w169 ⟨rfl, hb⟩; refine ⟨_, rfl, ?_⟩; have n0_ := Aside0.mk (Kd.R_below (by (with_reducible repeat (first | apply Kd.R_alloc | apply Kd.R_drewN | apply Kd.R_drew)); exact HO_189001.out) hb); have n1_ := Aside0.mk (Kd.R_below (by (with_reducible repeat (first | apply Kd.R_alloc | apply Kd.R_drewN | apply Kd.R_drew)); exact HO_194001.out) hb); have n2_ := Aside0.mk (Kd.R_below (by (with_reducible repeat (first | apply Kd.R_alloc | apply Kd.R_drewN | apply Kd.R_drew)); exact HO_199001.out) hb); have n3_ := Aside0.mk (Kd.R_below (by (with_reducible repeat (first | apply Kd.R_alloc | apply Kd.R_drewN | apply Kd.R_drew)); exact HO_205001.out) hb); have n4_ := Aside0.mk (blk_below (g := gb171) (o := .cells #[.int .i64 a0_0, .slice A0_1 l0_1.length c0_1] 41 (0, 0)) (by (with_reducible repeat (first | refine blk_drewN ?_ _ | refine blk_drew ?_ | refine blk_alloc ?_ _)); exact BK171.out) hb); have n5_ := Aside0.mk (blk_below (g := gb172) (o := .cells #[.int .i64 a1_0, .slice A1_1 l1_1.length c1_1] 41 (0, 0)) (by (with_reducible repeat (first | refine blk_drewN ?_ _ | refine blk_drew ?_ | refine blk_alloc ?_ _)); exact BK172.out) hb); have n6_ := Aside0.mk (blk_below (g := gb188) (o := .cells #[.int .i64 t183, .slice Ao42 t184.length co42] 34 (0, 0)) (by (with_reducible repeat (first | refine blk_drewN ?_ _ | refine blk_drew ?_ | refine blk_alloc ?_ _)); exact BK188.out) hb); have n7_ := Aside0.mk (blk_below (g := gb193) (o := .cells #[.int .i64 t189, .slice Ao52 t217.length co52] 34 (0, 0)) (by (with_reducible repeat (first | refine blk_drewN ?_ _ | refine blk_drew ?_ | refine blk_alloc ?_ _)); exact BK193.out) hb); have n8_ := Aside0.mk (blk_below (g := gb198) (o := .cells #[.int .i64 t194, .slice Ao62 t219.length co62] 34 (0, 0)) (by (with_reducible repeat (first | refine blk_drewN ?_ _ | refine blk_drew ?_ | refine blk_alloc ?_ _)); exact BK198.out) hb); have n9_ := Aside0.mk (blk_below (g := gb204) (o := .cells #[.int .i64 t199, .slice Ao72 t200.length co72] 34 (0, 0)) (by (with_reducible repeat (first | refine blk_drewN ?_ _ | refine blk_drew ?_ | refine blk_alloc ?_ _)); exact BK204.out) hb); have n10_ := Aside0.mk (below_step (by repeat (first | (with_reducible first | exact HB.out | apply below_alloc | apply pw_below_drewN | apply below_drew1 | refine below_set ?_ GE171.out | refine below_set ?_ GE172.out | refine below_set ?_ GE188.out | refine below_set ?_ GE193.out | refine below_set ?_ GE198.out | refine below_set ?_ GE204.out) | exact HB.out)) hb); clear HO_189001; clear HO_194001; clear HO_199001; clear HO_205001; clear BK171; clear BK172; clear BK188; clear BK193; clear BK198; clear BK204; clear HB; have HO_189001 := n0_; have HO_194001 := n1_; have HO_199001 := n2_; have HO_205001 := n3_; have BK171 := n4_; have BK172 := n5_; have BK188 := n6_; have BK193 := n7_; have BK198 := n8_; have BK204 := n9_; have HB := n10_; clear n0_ n1_ n2_ n3_ n4_ n5_ n6_ n7_ n8_ n9_ n10_; (try clear hb); (try clear hb2); (try clear hk); (try clear hi)))
         go_ret
         exact ⟨by first | rfl | (simp [errW_none, errW_some] <;> rfl) | (simp [*, errW_none, errW_some] <;> rfl), by repeat (first | (with_reducible first | exact HB.out | apply below_alloc | apply pw_below_drewN | apply below_drew1 | refine below_set ?_ GE171.out | refine below_set ?_ GE172.out | refine below_set ?_ GE188.out | refine below_set ?_ GE193.out | refine below_set ?_ GE198.out | refine below_set ?_ GE204.out) | exact HB.out)⟩
        ·rw [if_neg c160] at H
         have c160b0 : decide (t223 < 0) = false := decide_eq_false c160
         clear c160
         by_cases c170 : t223 = t221
         ·skip
          rename_i q1_1_ q1_2_ q1_3_ q1_4_ q1_5_ q1_6_ q1_7_ q1_8_ q1_9_ q1_10_ q1_11_ q1_12_ q1_13_ q1_14_ q1_15_ q1_16_ q1_17_ q1_18_ q1_19_ q1_20_ q1_21_ q1_22_ q1_23_ q1_24_ q1_25_ q1_26_ q1_27_ q1_28_ q1_29_ q1_30_ q1_31_ q1_32_ q1_33_ q1_34_ q1_35_ q1_36_ q1_37_ q1_38_ q1_39_ q1_40_ q1_41_ q1_42_ q1_43_ q1_44_ q1_45_ q1_46_ q1_47_ q1_48_ q1_49_ q1_50_ q1_51_ q1_52_ q1_53_ q1_54_ q1_55_ q1_56_ q1_57_ q1_58_ q1_59_ q1_60_ q1_61_ q1_62_ q1_63_ q1_64_ q1_65_ q1_66_ q1_67_ q1_68_ q1_69_ q1_70_ q1_71_ q1_72_ q1_73_ q1_74_ q1_75_ q1_76_ q1_77_ q1_78_ q1_79_ q1_80_ q1_81_ q1_82_ q1_83_ q1_84_ q1_85_ q1_86_ q1_87_ q1_88_ q1_89_ q1_90_ q1_91_ q1_92_ q1_93_ q1_94_ q1_95_ q1_96_ q1_97_ q1_98_ q1_99_ q1_100_ q1_101_ q1_102_ q1_103_ q1_104_ q1_105_ q1_106_ q1_107_ q1_108_ q1_109_ q1_110_ q1_111_ q1_112_ q1_113_ q1_114_ q1_115_ q1_116_ q1_117_ q1_118_ q1_119_ q1_120_ q1_121_ q1_122_
          revert k a0_0 A0_1 c0_1 l0_1 a1_0 A1_1 c1_1 l1_1 r w hu41 hu34 HR0_1 HC0_1 HR1_1 HC1_1 t173 A3 c4b0 t174 A10 c11b0 t175 t176 A19 t179 t180 A20 t183 t184 t187 A21 t189 t190 A22 t194 t195 A23 t199 t200 t203 A24 q0_1_ gb171 w26 GW171 GE171 gb172 w27 GW172 GE172 NB171_172 NB172_171 hnb28 hnc28 hcz29_0 hcz29_1 hfz29_0 hfz29_1 w30 hcz31_0 hcz31_1 hfz31_0 hfz31_1 w32 HT_ HW_ w33 q0_2_ v177 v181 gb188 w40 hS_ GW188 GE188 NB171_188 NB188_171 NB172_188 NB188_172 q0_3_ Ao42 co42 hs41 hfs41 hns41_0 hns41_1 hms41_0 hms41_1 hs43 hfs43 hns43_0 hns43_1 hms43_0 hms43_1 q1_1_ hnb44 hnc44 w46 gb193 w47 GW193 GE193 NB171_193 NB193_171 NB172_193 NB193_172 NB188_193 NB193_188 hnb48 hnc48 hnb49 hnc49 hnb50 hnc50 Ao52 co52 hnb53 hnc53 w55 gb198 w56 GW198 GE198 NB171_198 NB198_171 NB172_198 NB198_172 NB188_198 NB198_188 NB193_198 NB198_193 hnb57 hnc57 hnb58 hnc58 hnb59 hnc59 hnb60 hnc60 Ao62 co62 w64 gb204 w65 q0_4_ q0_5_ q0_6_ q0_7_ q0_8_ q0_9_ q0_10_ GW204 GE204 NB171_204 NB204_171 NB172_204 NB204_172 NB188_204 NB204_188 NB193_204 NB204_193 NB198_204 NB204_198 hnb66 hnc66 hnb67 hnc67 hnb68 hnc68 hnb69 hnc69 hnb70 hnc70 Ao72 co72 HO178 HO182 HO186 HO192 HO197 HO202 q1_2_ q1_3_ q1_4_ q1_5_ q1_6_ q1_7_ q1_8_ q1_9_ q1_10_ q1_11_ q1_12_ q1_13_ q1_14_ q1_15_ q1_16_ q1_17_ q1_18_ q1_19_ q1_20_ q1_21_ q1_22_ q1_23_ q1_24_ q1_25_ q1_26_ q1_27_ q1_28_ q1_29_ q1_30_ q1_31_ q1_32_ q1_33_ q1_34_ q1_35_ q1_36_ q1_37_ q1_38_ q1_39_ q1_40_ q1_41_ q1_42_ q1_43_ q1_44_ q1_45_ q1_46_ q1_47_ q1_48_ q1_49_ q1_50_ q1_51_ q1_52_ q1_53_ q1_54_ q1_55_ q1_56_ q1_57_ q1_58_ q1_59_ q1_60_ q1_61_ q1_62_ q1_63_ q1_64_ q1_65_ q1_66_ u82 q1_67_ q1_68_ q1_69_ q1_70_ q1_71_ q1_72_ q1_73_ q1_74_ q1_75_ q1_76_ q1_77_ q1_78_ q1_79_ q1_80_ q1_81_ q1_82_ q1_83_ q1_84_ q1_85_ q1_86_ q1_87_ q1_88_ q1_89_ q1_90_ q1_91_ q1_92_ q1_93_ q1_94_ q1_95_ q1_96_ q1_97_ q1_98_ q1_99_ q1_100_ q1_101_ q1_102_ kj24 HJ24 t206 t207 A100 A101 t211 t212 A103 A104 t216 t217 A106 t218 t219 A107 w109 q1_103_ w110 Ao111 co111 q1_104_ w112 q1_105_ w113 q1_106_ w114 Ao115 co115 q1_107_ w116 hHeld hnb117 hnc117 hnb118 hnc118 hnb119 hnc119 hnb120 hnc120 hnb121 hnc121 w123 hnb124 hnc124 hnb125 hnc125 hnb126 hnc126 hnb127 hnc127 w129 q1_108_ q1_109_ q1_110_ q1_111_ q1_112_ q1_113_ q1_114_ q1_115_ q1_116_ q1_117_ HO209 HO214 q1_118_ q1_119_ q1_120_ q1_121_ q1_122_ wc u17 u18 u19 u20 u21 u22 u23 u24 u25 u26 u27 u28 u29 u30 u31 u32 u33 u34 u35 u36 u37 u38 u39 u40 u41 u42 u43 u44 u45 u46 u47 u48 u49 u50 u51 u52 u53 u54 u55 u56 u57 u58 u59 u60 u61 u62 u63 u64 u65 u66 u67 u68 u69 u70 u71 u72 u73 u74 u75 u76 u77 u78 u79 u80 u81 u83 u84 u85 u86 u87 u88 u89 u90 u91 u92 u93 u94 u95 u96 u97 u98 u99 u100 u101 u102 u103 u104 u105 u106 u107 u108 u109 u110 u111 u112 u113 u114 u115 u116 u117 u118 BK171 BK172 BK188 BK204 HB hl194001_107 BK193 HO_199001 hl199001_107 BK198 HO_189001 HO_194001 HO_205001 kj107 HJ107 t221 t222 A158 t223 H A159 c160b0 c170
          exact hP_.out
         ·rw [if_neg c170] at H
          have c170b0 : (t223 == t221) = false := beq_eq_false_iff_ne.mpr c170
          have c170b1 : (t223 != t221) = true := bne_iff_ne.mpr c170
          obtain rfl := Option.some.inj H
          have hnb253 := NB204_171.out
          have hnc253 := NB171_204.out
          have hnb254 := NB204_172.out
          have hnc254 := NB172_204.out
          have hnb255 := NB204_188.out
          have hnc255 := NB188_204.out
          have hnb256 := NB204_193.out
          have hnc256 := NB193_204.out
          have hnb257 := NB204_198.out
          have hnc257 := NB198_204.out
          have hcz258_0 : wc.cell? ⟨gb204, 0, none⟩ = some (.int .i64 t199) := (blk_cell BK204.out 0).trans rfl
          have hcz258_1 : wc.cell? ⟨gb204, 1, none⟩ = some (.slice Ao72 t200.length co72) := (blk_cell BK204.out 1).trans rfl
          have hfz258_0 := blk_frozen BK204.out 0
          have hfz258_1 := blk_frozen BK204.out 1
          go_wp2_with (first | ((with_reducible refine gate_callee (f := 26) rfl ?_); refine goesL_ (some 85) rfl rfl Try.func26 (by kernel_rfl) rfl #[.agg #[.int .i64 t199, .slice Ao72 t200.length co72], .int .i64 1] rfl (by (try simp only [List.map_toArray, List.map_cons, List.map_nil]); first | done | rfl | (simp only [List.length_drop, List.length_take]; rfl)) ?_; (with_reducible refine (laws_markGraph.calls kj107 t199 (fun k_ => some k_ = (.slice Ao72 t200.length co72 : Value).ownBlock) (.slice Ao72 t200.length co72) t200 1 t221 t222 w _ ?side1 ?side2 A158.out).mono ?_); (case side1 => repeat (first | (with_reducible first | exact HB.out | apply below_alloc | apply pw_below_drewN | apply below_drew1 | refine below_set ?_ GE171.out | refine below_set ?_ GE172.out | refine below_set ?_ GE188.out | refine below_set ?_ GE193.out | refine below_set ?_ GE198.out | refine below_set ?_ GE204.out) | exact HB.out)); (case side2 => exact Kd.R_tight rfl HO_205001.out); rintro e w259 ⟨rfl, hy0, hb, hkp⟩; refine ⟨_, rfl, ?_⟩; have n0_ := Aside0.mk (Kd.R_mono (ok' := fun k_ => some k_ ≠ (.slice Ao52 t217.length co52 : Value).ownBlock ∧ some k_ ≠ (.slice Ao62 t219.length co62 : Value).ownBlock ∧ some k_ ≠ (.slice Ao72 t200.length co72 : Value).ownBlock) (Kd.R_keptB (HO_189001.out) hkp (fun k_ hk_ hs_ => (hk_.2.2) hs_)) (fun k_ hk_ => ⟨hk_.1.1, hk_.1.2.1, hk_.1.2.2⟩)); have n1_ := Aside0.mk (Kd.R_mono (ok' := fun k_ => some k_ ≠ (.slice Ao42 t184.length co42 : Value).ownBlock ∧ some k_ ≠ (.slice Ao62 t219.length co62 : Value).ownBlock ∧ some k_ ≠ (.slice Ao72 t200.length co72 : Value).ownBlock) (Kd.R_keptB (HO_194001.out) hkp (fun k_ hk_ hs_ => (hk_.2.2) hs_)) (fun k_ hk_ => ⟨hk_.1.1, hk_.1.2.1, hk_.1.2.2⟩)); have n2_ := Aside0.mk (Kd.R_mono (ok' := fun k_ => some k_ ≠ (.slice Ao42 t184.length co42 : Value).ownBlock ∧ some k_ ≠ (.slice Ao52 t217.length co52 : Value).ownBlock ∧ some k_ ≠ (.slice Ao72 t200.length co72 : Value).ownBlock) (Kd.R_keptB (HO_199001.out) hkp (fun k_ hk_ hs_ => (hk_.2.2) hs_)) (fun k_ hk_ => ⟨hk_.1.1, hk_.1.2.1, hk_.1.2.2⟩)); have n3_ := Aside0.mk (Kd.R_reok rfl hy0 (fun k_ e_ => HO_205001.out.1 k_ e_)); have n4_ := Aside0.mk (blk_kept (by (with_reducible repeat (first | refine blk_drewN ?_ _ | refine blk_drew ?_ | refine blk_alloc ?_ _)); exact BK171.out) hkp (fun hs_ => (fun e_ => (Kd.R_ne HO_205001.out BK171.out (by decide)) e_) hs_)); have n5_ := Aside0.mk (blk_kept (by (with_reducible repeat (first | refine blk_drewN ?_ _ | refine blk_drew ?_ | refine blk_alloc ?_ _)); exact BK172.out) hkp (fun hs_ => (fun e_ => (Kd.R_ne HO_205001.out BK172.out (by decide)) e_) hs_)); have n6_ := Aside0.mk (blk_kept (by (with_reducible repeat (first | refine blk_drewN ?_ _ | refine blk_drew ?_ | refine blk_alloc ?_ _)); exact BK188.out) hkp (fun hs_ => (fun e_ => (Kd.R_ne HO_205001.out BK188.out (by decide)) e_) hs_)); have n7_ := Aside0.mk (blk_kept (by (with_reducible repeat (first | refine blk_drewN ?_ _ | refine blk_drew ?_ | refine blk_alloc ?_ _)); exact BK193.out) hkp (fun hs_ => (fun e_ => (Kd.R_ne HO_205001.out BK193.out (by decide)) e_) hs_)); have n8_ := Aside0.mk (blk_kept (by (with_reducible repeat (first | refine blk_drewN ?_ _ | refine blk_drew ?_ | refine blk_alloc ?_ _)); exact BK198.out) hkp (fun hs_ => (fun e_ => (Kd.R_ne HO_205001.out BK198.out (by decide)) e_) hs_)); have n9_ := Aside0.mk (blk_kept (by (with_reducible repeat (first | refine blk_drewN ?_ _ | refine blk_drew ?_ | refine blk_alloc ?_ _)); exact BK204.out) hkp (fun hs_ => (fun e_ => (Kd.R_ne HO_205001.out BK204.out (by decide)) e_) hs_)); have n10_ := Aside0.mk (hb); clear HO_189001; clear HO_194001; clear HO_199001; clear HO_205001; clear BK171; clear BK172; clear BK188; clear BK193; clear BK198; clear BK204; clear HB; have HO_189001 := n0_; have HO_194001 := n1_; have HO_199001 := n2_; have HO_205001 := n3_; have BK171 := n4_; have BK172 := n5_; have BK188 := n6_; have BK193 := n7_; have BK198 := n8_; have BK204 := n9_; have HB := n10_; clear n0_ n1_ n2_ n3_ n4_ n5_ n6_ n7_ n8_ n9_ n10_; (try clear hb); (try clear hkp); (try clear hy0); have hcz260_0 : w259.cell? ⟨gb204, 0, none⟩ = some (.int .i64 t199) := (blk_cell BK204.out 0).trans rfl; have hcz260_1 : w259.cell? ⟨gb204, 1, none⟩ = some (.slice Ao72 t200.length co72) := (blk_cell BK204.out 1).trans rfl; have hfz260_0 := blk_frozen BK204.out 0; have hfz260_1 := blk_frozen BK204.out 1) | ((with_reducible refine gate_callee (f := 27) rfl ?_); refine goesL_ (some 88) rfl rfl Try.func27 (by kernel_rfl) rfl #[.agg #[.int .i64 t199, .slice Ao72 t222.length co72], .int .i64 1] rfl (by (try simp only [List.map_toArray, List.map_cons, List.map_nil]); first | done | (rw [show t222.length = t200.length from (Kd.R_reads' HO_205001.out).1.symm] <;> rfl) | rfl | (simp only [List.length_drop, List.length_take]; rfl)) ?_; (with_reducible refine (laws_heldGraph.calls kj107 t199 _ _ t222 1 t223 _ ?side1 ?side2 A159.out).mono ?_); (case side1 => repeat (first | exact (Kd.R_reads' HO_205001.out).2.2 | (with_reducible refine Kd.C_alloc ?_ _) | (with_reducible refine Kd.C_drewN ?_ _) | (with_reducible refine Kd.C_drew ?_))); (case side2 => rw [show t222.length = t200.length from (Kd.R_reads' HO_205001.out).1.symm]; exact (Kd.R_reads' HO_205001.out).2.1); rintro e w261 ⟨rfl, hb⟩; refine ⟨_, rfl, ?_⟩; have n0_ := Aside0.mk (Kd.R_below (by (with_reducible repeat (first | apply Kd.R_alloc | apply Kd.R_drewN | apply Kd.R_drew)); exact HO_189001.out) hb); have n1_ := Aside0.mk (Kd.R_below (by (with_reducible repeat (first | apply Kd.R_alloc | apply Kd.R_drewN | apply Kd.R_drew)); exact HO_194001.out) hb); have n2_ := Aside0.mk (Kd.R_below (by (with_reducible repeat (first | apply Kd.R_alloc | apply Kd.R_drewN | apply Kd.R_drew)); exact HO_199001.out) hb); have n3_ := Aside0.mk (Kd.R_below (by (with_reducible repeat (first | apply Kd.R_alloc | apply Kd.R_drewN | apply Kd.R_drew)); exact HO_205001.out) hb); have n4_ := Aside0.mk (blk_below (g := gb171) (o := .cells #[.int .i64 a0_0, .slice A0_1 l0_1.length c0_1] 41 (0, 0)) (by (with_reducible repeat (first | refine blk_drewN ?_ _ | refine blk_drew ?_ | refine blk_alloc ?_ _)); exact BK171.out) hb); have n5_ := Aside0.mk (blk_below (g := gb172) (o := .cells #[.int .i64 a1_0, .slice A1_1 l1_1.length c1_1] 41 (0, 0)) (by (with_reducible repeat (first | refine blk_drewN ?_ _ | refine blk_drew ?_ | refine blk_alloc ?_ _)); exact BK172.out) hb); have n6_ := Aside0.mk (blk_below (g := gb188) (o := .cells #[.int .i64 t183, .slice Ao42 t184.length co42] 34 (0, 0)) (by (with_reducible repeat (first | refine blk_drewN ?_ _ | refine blk_drew ?_ | refine blk_alloc ?_ _)); exact BK188.out) hb); have n7_ := Aside0.mk (blk_below (g := gb193) (o := .cells #[.int .i64 t189, .slice Ao52 t217.length co52] 34 (0, 0)) (by (with_reducible repeat (first | refine blk_drewN ?_ _ | refine blk_drew ?_ | refine blk_alloc ?_ _)); exact BK193.out) hb); have n8_ := Aside0.mk (blk_below (g := gb198) (o := .cells #[.int .i64 t194, .slice Ao62 t219.length co62] 34 (0, 0)) (by (with_reducible repeat (first | refine blk_drewN ?_ _ | refine blk_drew ?_ | refine blk_alloc ?_ _)); exact BK198.out) hb); have n9_ := Aside0.mk (blk_below (g := gb204) (o := .cells #[.int .i64 t199, .slice Ao72 t200.length co72] 34 (0, 0)) (by (with_reducible repeat (first | refine blk_drewN ?_ _ | refine blk_drew ?_ | refine blk_alloc ?_ _)); exact BK204.out) hb); have n10_ := Aside0.mk (below_step (by repeat (first | (with_reducible first | exact HB.out | apply below_alloc | apply pw_below_drewN | apply below_drew1 | refine below_set ?_ GE171.out | refine below_set ?_ GE172.out | refine below_set ?_ GE188.out | refine below_set ?_ GE193.out | refine below_set ?_ GE198.out | refine below_set ?_ GE204.out) | exact HB.out)) hb); clear HO_189001; clear HO_194001; clear HO_199001; clear HO_205001; clear BK171; clear BK172; clear BK188; clear BK193; clear BK198; clear BK204; clear HB; have HO_189001 := n0_; have HO_194001 := n1_; have HO_199001 := n2_; have HO_205001 := n3_; have BK171 := n4_; have BK172 := n5_; have BK188 := n6_; have BK193 := n7_; have BK198 := n8_; have BK204 := n9_; have HB := n10_; clear n0_ n1_ n2_ n3_ n4_ n5_ n6_ n7_ n8_ n9_ n10_; (try clear hb); (try clear hb2); (try clear hk); (try clear hi)))
          go_ret
          exact ⟨by first | rfl | (simp [errW_none, errW_some] <;> rfl) | (simp [*, errW_none, errW_some] <;> rfl), by repeat (first | (with_reducible first | exact HB.out | apply below_alloc | apply pw_below_drewN | apply below_drew1 | refine below_set ?_ GE171.out | refine below_set ?_ GE172.out | refine below_set ?_ GE188.out | refine below_set ?_ GE193.out | refine below_set ?_ GE198.out | refine below_set ?_ GE204.out) | exact HB.out)⟩
    ·replace c105 := Bool.eq_false_iff.mpr c105
     subst c105
     have H1 : (some false) = some r := by rw [if_neg (show ¬ (false = true) by decide)] at H; exact H
     clear H
     have H := H1
     clear H1
     obtain rfl := Option.some.inj H
     try go_wp2
     have n0_ := Aside0.mk (Kd.R_drew HO_189001.out)
     have n1_ := Aside0.mk (Kd.R_drew HO_194001.out)
     have n2_ := Aside0.mk (Kd.R_drew HO_199001.out)
     have n3_ := Aside0.mk (Kd.R_drew HO_205001.out)
     have n4_ := Aside0.mk (blk_drew BK171.out)
     have n5_ := Aside0.mk (blk_drew BK172.out)
     have n6_ := Aside0.mk (blk_drew BK188.out)
     have n7_ := Aside0.mk (blk_drew BK193.out)
     have n8_ := Aside0.mk (blk_drew BK198.out)
     have n9_ := Aside0.mk (blk_drew BK204.out)
     have n10_ := Aside0.mk (below_drew1 HB.out)
     clear HO_189001
     clear HO_194001
     clear HO_199001
     clear HO_205001
     clear BK171
     clear BK172
     clear BK188
     clear BK193
     clear BK198
     clear BK204
     clear HB
     have HO_189001 := n0_
     have HO_194001 := n1_
     have HO_199001 := n2_
     have HO_205001 := n3_
     have BK171 := n4_
     have BK172 := n5_
     have BK188 := n6_
     have BK193 := n7_
     have BK198 := n8_
     have BK204 := n9_
     have HB := n10_
     clear n0_ n1_ n2_ n3_ n4_ n5_ n6_ n7_ n8_ n9_ n10_
     refine start_ (n := 5) (S := fun w' => w'.cell? ⟨gb193, 0, none⟩ = some (.int .i64 t189) ∧ w'.cell? ⟨gb193, 1, none⟩ = some (.slice Ao52 t190.length co52) ∧ w'.cell? ⟨gb171, 0, none⟩ = some (.int .i64 a0_0) ∧ w'.cell? ⟨gb171, 1, none⟩ = some (.slice A0_1 l0_1.length c0_1)) (ds := []) #[false, false, false, false, false] (by kernel_rfl) rfl rfl ⟨(blk_cell BK193.out 0).trans rfl, (blk_cell BK193.out 1).trans rfl, (blk_cell BK171.out 0).trans rfl, (blk_cell BK171.out 1).trans rfl⟩ (fun hHeld => ?_)
     generalize wc.drew = w262 at HO_189001 HO_194001 HO_199001 HO_205001 BK171 BK172 BK188 BK193 BK198 BK204 HB hHeld ⊢
     refine take_ (i := 0) (N := some 54) (v := ?_) (a' := ?_) #[true, false, false, false, false] rfl rfl (by kernel_rfl) (fun _ _ _ h => h) (Or.inl ⟨by rfl, ?_⟩) hHeld ?_ ?_
     rotate_left
     ·rintro w' ⟨s0, s1, s2, s3⟩
      go_simp
      with_reducible rfl
     rotate_left
     ·simp only [Act.put, List.setIfInBounds_toArray, List.set_cons_zero, List.set_cons_succ, i64_w, i32_w]
      rfl
     refine take_ (i := 1) (N := some 55) (v := ?_) (a' := ?_) #[true, true, false, false, false] rfl rfl (by kernel_rfl) (fun _ _ _ h => h) (Or.inl ⟨by rfl, ?_⟩) hHeld ?_ ?_
     rotate_left
     ·rintro w' ⟨s0, s1, s2, s3⟩
      go_simp
      with_reducible rfl
     rotate_left
     ·simp only [Act.put, List.setIfInBounds_toArray, List.set_cons_zero, List.set_cons_succ, i64_w, i32_w]
      rfl
     refine one_ (i := 2) (N := some 56) #[true, true, true, false, false] rfl rfl (by kernel_rfl) (by decide) (fun K hK => ?_)
     refine goes_ Try.func30 (by kernel_rfl) rfl #[.agg #[.int .i64 a0_0, .slice A0_1 l0_1.length c0_1]] (by rfl) rfl rfl (by (try simp only [List.map_toArray, List.map_cons, List.map_nil]); first | done | rfl | (simp only [List.length_drop, List.length_take]; rfl)) ?_
     with_reducible refine (laws_toGraph.calls kj24 a0_0 _ _ l0_1 t206 t207 _ ?side1 ?side2 A100.out).mono ?_
     (case side1 => repeat (first | exact (Kd.C_below HR0_1.out HB.out) | (with_reducible refine Kd.C_alloc ?_ _) | (with_reducible refine Kd.C_drewN ?_ _) | (with_reducible refine Kd.C_drew ?_)))
     (case side2 => exact HC0_1.out)
     rintro e w263 ⟨v208, rfl, ho0, hb⟩
     refine ⟨_, rfl, ?_⟩
     have n0_ := Aside0.mk (Kd.R_elder' (by (with_reducible repeat (first | apply Kd.R_alloc | apply Kd.R_drewN | apply Kd.R_drew)); exact HO_189001.out) (Kd.R_base ho0) hb)
     have n1_ := Aside0.mk (Kd.R_elder' (by (with_reducible repeat (first | apply Kd.R_alloc | apply Kd.R_drewN | apply Kd.R_drew)); exact HO_194001.out) (Kd.R_base ho0) hb)
     have n2_ := Aside0.mk (Kd.R_elder' (by (with_reducible repeat (first | apply Kd.R_alloc | apply Kd.R_drewN | apply Kd.R_drew)); exact HO_199001.out) (Kd.R_base ho0) hb)
     have n3_ := Aside0.mk (Kd.R_elder' (by (with_reducible repeat (first | apply Kd.R_alloc | apply Kd.R_drewN | apply Kd.R_drew)); exact HO_205001.out) (Kd.R_base ho0) hb)
     have n4_ := Aside0.mk (Kd.R_lower (Kd.R_new' (Kd.R_new' (Kd.R_new' (Kd.R_new' ho0 (Kd.R_lt (by (with_reducible repeat (first | apply Kd.R_alloc | apply Kd.R_drewN | apply Kd.R_drew)); exact HO_189001.out))) (Kd.R_lt (by (with_reducible repeat (first | apply Kd.R_alloc | apply Kd.R_drewN | apply Kd.R_drew)); exact HO_194001.out))) (Kd.R_lt (by (with_reducible repeat (first | apply Kd.R_alloc | apply Kd.R_drewN | apply Kd.R_drew)); exact HO_199001.out))) (Kd.R_lt (by (with_reducible repeat (first | apply Kd.R_alloc | apply Kd.R_drewN | apply Kd.R_drew)); exact HO_205001.out))) (below_size (by repeat (first | (with_reducible first | exact HB.out | apply below_alloc | apply pw_below_drewN | apply below_drew1 | refine below_set ?_ GE171.out | refine below_set ?_ GE172.out | refine below_set ?_ GE188.out | refine below_set ?_ GE193.out | refine below_set ?_ GE198.out | refine below_set ?_ GE204.out) | exact HB.out))))
     have n5_ := Aside0.mk (blk_below (g := gb171) (o := .cells #[.int .i64 a0_0, .slice A0_1 l0_1.length c0_1] 41 (0, 0)) (by (with_reducible repeat (first | refine blk_drewN ?_ _ | refine blk_drew ?_ | refine blk_alloc ?_ _)); exact BK171.out) hb)
     have n6_ := Aside0.mk (blk_below (g := gb172) (o := .cells #[.int .i64 a1_0, .slice A1_1 l1_1.length c1_1] 41 (0, 0)) (by (with_reducible repeat (first | refine blk_drewN ?_ _ | refine blk_drew ?_ | refine blk_alloc ?_ _)); exact BK172.out) hb)
     have n7_ := Aside0.mk (blk_below (g := gb188) (o := .cells #[.int .i64 t183, .slice Ao42 t184.length co42] 34 (0, 0)) (by (with_reducible repeat (first | refine blk_drewN ?_ _ | refine blk_drew ?_ | refine blk_alloc ?_ _)); exact BK188.out) hb)
     have n8_ := Aside0.mk (blk_below (g := gb193) (o := .cells #[.int .i64 t189, .slice Ao52 t190.length co52] 34 (0, 0)) (by (with_reducible repeat (first | refine blk_drewN ?_ _ | refine blk_drew ?_ | refine blk_alloc ?_ _)); exact BK193.out) hb)
     have n9_ := Aside0.mk (blk_below (g := gb198) (o := .cells #[.int .i64 t194, .slice Ao62 t195.length co62] 34 (0, 0)) (by (with_reducible repeat (first | refine blk_drewN ?_ _ | refine blk_drew ?_ | refine blk_alloc ?_ _)); exact BK198.out) hb)
     have n10_ := Aside0.mk (blk_below (g := gb204) (o := .cells #[.int .i64 t199, .slice Ao72 t200.length co72] 34 (0, 0)) (by (with_reducible repeat (first | refine blk_drewN ?_ _ | refine blk_drew ?_ | refine blk_alloc ?_ _)); exact BK204.out) hb)
     have n11_ := Aside0.mk (below_step (by repeat (first | (with_reducible first | exact HB.out | apply below_alloc | apply pw_below_drewN | apply below_drew1 | refine below_set ?_ GE171.out | refine below_set ?_ GE172.out | refine below_set ?_ GE188.out | refine below_set ?_ GE193.out | refine below_set ?_ GE198.out | refine below_set ?_ GE204.out) | exact HB.out)) hb)
     clear HO_189001
     clear HO_194001
     clear HO_199001
     clear HO_205001
     clear BK171
     clear BK172
     clear BK188
     clear BK193
     clear BK198
     clear BK204
     clear HB
     have HO_189001 := n0_
     have HO_194001 := n1_
     have HO_199001 := n2_
     have HO_205001 := n3_
     have HO209 := n4_
     have BK171 := n5_
     have BK172 := n6_
     have BK188 := n7_
     have BK193 := n8_
     have BK198 := n9_
     have BK204 := n10_
     have HB := n11_
     clear n0_ n1_ n2_ n3_ n4_ n5_ n6_ n7_ n8_ n9_ n10_ n11_
     (try clear hb)
     (try clear hb2)
     (try clear hk)
     (try clear hi)
     (try clear ho0)
     obtain ⟨Ao264, co264, eo264⟩ := Kd.R_slice HO209.out
     (first | subst eo264 | (injection eo264 with f1_ f2_ f3_; have f4_ := f1_.symm; have f5_ := f3_.symm; clear f1_ f2_ f3_; subst f4_; subst f5_))
     refine hK.out _ _ ⟨(blk_cell BK193.out 0).trans rfl, (blk_cell BK193.out 1).trans rfl, (blk_cell BK171.out 0).trans rfl, (blk_cell BK171.out 1).trans rfl⟩ (fun hHeld => ?_)
     clear hK K
     refine norm_ (a' := ?_) ?_ ?_
     rotate_left
     ·show Act.put _ (some 56) _ = _
      simp only [Act.put, List.setIfInBounds_toArray, List.set_cons_zero, List.set_cons_succ, i64_w, i32_w]
      rfl
     refine one_ (i := 3) (N := some 57) #[true, true, true, true, false] rfl rfl (by kernel_rfl) (by decide) (fun K hK => ?_)
     refine goes_ Try.func25 (by kernel_rfl) rfl #[.agg #[.int .i64 t189, .slice Ao52 t190.length co52], .agg #[.int .i64 t206, .slice Ao264 t207.length co264]] (by rfl) rfl rfl (by (try simp only [List.map_toArray, List.map_cons, List.map_nil]); first | done | rfl | (simp only [List.length_drop, List.length_take]; rfl)) ?_
     with_reducible refine (laws_eqGraph.calls kj24 t189 _ _ t190 t206 _ _ t207 true _ ?side1 ?side2 ?side3 ?side4 A101.out).mono ?_
     (case side1 => repeat (first | exact (Kd.R_reads' HO_194001.out).2.2 | (with_reducible refine Kd.C_alloc ?_ _) | (with_reducible refine Kd.C_drewN ?_ _) | (with_reducible refine Kd.C_drew ?_)))
     (case side2 => exact (Kd.R_reads' HO_194001.out).2.1)
     (case side3 => repeat (first | exact (Kd.R_reads' HO209.out).2.2 | (with_reducible refine Kd.C_alloc ?_ _) | (with_reducible refine Kd.C_drewN ?_ _) | (with_reducible refine Kd.C_drew ?_)))
     (case side4 => exact (Kd.R_reads' HO209.out).2.1)
     rintro e w265 ⟨rfl, hb⟩
     refine ⟨_, rfl, ?_⟩
     have n0_ := Aside0.mk (Kd.R_below (by (with_reducible repeat (first | apply Kd.R_alloc | apply Kd.R_drewN | apply Kd.R_drew)); exact HO_189001.out) hb)
     have n1_ := Aside0.mk (Kd.R_below (by (with_reducible repeat (first | apply Kd.R_alloc | apply Kd.R_drewN | apply Kd.R_drew)); exact HO_194001.out) hb)
     have n2_ := Aside0.mk (Kd.R_below (by (with_reducible repeat (first | apply Kd.R_alloc | apply Kd.R_drewN | apply Kd.R_drew)); exact HO_199001.out) hb)
     have n3_ := Aside0.mk (Kd.R_below (by (with_reducible repeat (first | apply Kd.R_alloc | apply Kd.R_drewN | apply Kd.R_drew)); exact HO_205001.out) hb)
     have n4_ := Aside0.mk (Kd.R_below (by (with_reducible repeat (first | apply Kd.R_alloc | apply Kd.R_drewN | apply Kd.R_drew)); exact HO209.out) hb)
     have n5_ := Aside0.mk (blk_below (g := gb171) (o := .cells #[.int .i64 a0_0, .slice A0_1 l0_1.length c0_1] 41 (0, 0)) (by (with_reducible repeat (first | refine blk_drewN ?_ _ | refine blk_drew ?_ | refine blk_alloc ?_ _)); exact BK171.out) hb)
     have n6_ := Aside0.mk (blk_below (g := gb172) (o := .cells #[.int .i64 a1_0, .slice A1_1 l1_1.length c1_1] 41 (0, 0)) (by (with_reducible repeat (first | refine blk_drewN ?_ _ | refine blk_drew ?_ | refine blk_alloc ?_ _)); exact BK172.out) hb)
     have n7_ := Aside0.mk (blk_below (g := gb188) (o := .cells #[.int .i64 t183, .slice Ao42 t184.length co42] 34 (0, 0)) (by (with_reducible repeat (first | refine blk_drewN ?_ _ | refine blk_drew ?_ | refine blk_alloc ?_ _)); exact BK188.out) hb)
     have n8_ := Aside0.mk (blk_below (g := gb193) (o := .cells #[.int .i64 t189, .slice Ao52 t190.length co52] 34 (0, 0)) (by (with_reducible repeat (first | refine blk_drewN ?_ _ | refine blk_drew ?_ | refine blk_alloc ?_ _)); exact BK193.out) hb)
     have n9_ := Aside0.mk (blk_below (g := gb198) (o := .cells #[.int .i64 t194, .slice Ao62 t195.length co62] 34 (0, 0)) (by (with_reducible repeat (first | refine blk_drewN ?_ _ | refine blk_drew ?_ | refine blk_alloc ?_ _)); exact BK198.out) hb)
     have n10_ := Aside0.mk (blk_below (g := gb204) (o := .cells #[.int .i64 t199, .slice Ao72 t200.length co72] 34 (0, 0)) (by (with_reducible repeat (first | refine blk_drewN ?_ _ | refine blk_drew ?_ | refine blk_alloc ?_ _)); exact BK204.out) hb)
     have n11_ := Aside0.mk (below_step (by repeat (first | (with_reducible first | exact HB.out | apply below_alloc | apply pw_below_drewN | apply below_drew1 | refine below_set ?_ GE171.out | refine below_set ?_ GE172.out | refine below_set ?_ GE188.out | refine below_set ?_ GE193.out | refine below_set ?_ GE198.out | refine below_set ?_ GE204.out) | exact HB.out)) hb)
     clear HO_189001
     clear HO_194001
     clear HO_199001
     clear HO_205001
     clear HO209
     clear BK171
     clear BK172
     clear BK188
     clear BK193
     clear BK198
     clear BK204
     clear HB
     have HO_189001 := n0_
     have HO_194001 := n1_
     have HO_199001 := n2_
     have HO_205001 := n3_
     have HO209 := n4_
     have BK171 := n5_
     have BK172 := n6_
     have BK188 := n7_
     have BK193 := n8_
     have BK198 := n9_
     have BK204 := n10_
     have HB := n11_
     clear n0_ n1_ n2_ n3_ n4_ n5_ n6_ n7_ n8_ n9_ n10_ n11_
     (try clear hb)
     (try clear hb2)
     (try clear hk)
     (try clear hi)
     refine hK.out _ _ ⟨(blk_cell BK193.out 0).trans rfl, (blk_cell BK193.out 1).trans rfl, (blk_cell BK171.out 0).trans rfl, (blk_cell BK171.out 1).trans rfl⟩ (fun hHeld => ?_)
     clear hK K
     refine norm_ (a' := ?_) ?_ ?_
     rotate_left
     ·show Act.put _ (some 57) _ = _
      simp only [Act.put, List.setIfInBounds_toArray, List.set_cons_zero, List.set_cons_succ, i64_w, i32_w]
      rfl
     refine pure_ (i := 4) (N := some 58) (v := ?_) (a' := ?_) #[true, true, true, true, true] rfl rfl (by kernel_rfl) (fun _ _ _ h => h) (Or.inl ⟨by rfl, ?_⟩) ?_ ?_
     rotate_left
     ·intro w'
      go_simp
      with_reducible rfl
     rotate_left
     ·simp only [Act.put, List.setIfInBounds_toArray, List.set_cons_zero, List.set_cons_succ, i64_w, i32_w]
      rfl
     refine done_ (by kernel_rfl) ?_
     try go_wp2
     have n0_ := Aside0.mk (Kd.R_drew HO_189001.out)
     have n1_ := Aside0.mk (Kd.R_drew HO_194001.out)
     have n2_ := Aside0.mk (Kd.R_drew HO_199001.out)
     have n3_ := Aside0.mk (Kd.R_drew HO_205001.out)
     have n4_ := Aside0.mk (Kd.R_drew HO209.out)
     have n5_ := Aside0.mk (blk_drew BK171.out)
     have n6_ := Aside0.mk (blk_drew BK172.out)
     have n7_ := Aside0.mk (blk_drew BK188.out)
     have n8_ := Aside0.mk (blk_drew BK193.out)
     have n9_ := Aside0.mk (blk_drew BK198.out)
     have n10_ := Aside0.mk (blk_drew BK204.out)
     have n11_ := Aside0.mk (below_drew1 HB.out)
     clear HO_189001
     clear HO_194001
     clear HO_199001
     clear HO_205001
     clear HO209
     clear BK171
     clear BK172
     clear BK188
     clear BK193
     clear BK198
     clear BK204
     clear HB
     have HO_189001 := n0_
     have HO_194001 := n1_
     have HO_199001 := n2_
     have HO_205001 := n3_
     have HO209 := n4_
     have BK171 := n5_
     have BK172 := n6_
     have BK188 := n7_
     have BK193 := n8_
     have BK198 := n9_
     have BK204 := n10_
     have HB := n11_
     clear n0_ n1_ n2_ n3_ n4_ n5_ n6_ n7_ n8_ n9_ n10_ n11_
     refine start_ (n := 5) (S := fun w' => w'.cell? ⟨gb198, 0, none⟩ = some (.int .i64 t194) ∧ w'.cell? ⟨gb198, 1, none⟩ = some (.slice Ao62 t195.length co62) ∧ w'.cell? ⟨gb172, 0, none⟩ = some (.int .i64 a1_0) ∧ w'.cell? ⟨gb172, 1, none⟩ = some (.slice A1_1 l1_1.length c1_1)) (ds := []) #[false, false, false, false, false] (by kernel_rfl) rfl rfl ⟨(blk_cell BK198.out 0).trans rfl, (blk_cell BK198.out 1).trans rfl, (blk_cell BK172.out 0).trans rfl, (blk_cell BK172.out 1).trans rfl⟩ (fun hHeld => ?_)
     generalize w265.drew = w266 at HO_189001 HO_194001 HO_199001 HO_205001 HO209 BK171 BK172 BK188 BK193 BK198 BK204 HB hHeld ⊢
     refine take_ (i := 0) (N := some 59) (v := ?_) (a' := ?_) #[true, false, false, false, false] rfl rfl (by kernel_rfl) (fun _ _ _ h => h) (Or.inl ⟨by rfl, ?_⟩) hHeld ?_ ?_
     rotate_left
     ·rintro w' ⟨s0, s1, s2, s3⟩
      go_simp
      with_reducible rfl
     rotate_left
     ·simp only [Act.put, List.setIfInBounds_toArray, List.set_cons_zero, List.set_cons_succ, i64_w, i32_w]
      rfl
     refine take_ (i := 1) (N := some 60) (v := ?_) (a' := ?_) #[true, true, false, false, false] rfl rfl (by kernel_rfl) (fun _ _ _ h => h) (Or.inl ⟨by rfl, ?_⟩) hHeld ?_ ?_
     rotate_left
     ·rintro w' ⟨s0, s1, s2, s3⟩
      go_simp
      with_reducible rfl
     rotate_left
     ·simp only [Act.put, List.setIfInBounds_toArray, List.set_cons_zero, List.set_cons_succ, i64_w, i32_w]
      rfl
     refine one_ (i := 2) (N := some 61) #[true, true, true, false, false] rfl rfl (by kernel_rfl) (by decide) (fun K hK => ?_)
     refine goes_ Try.func30 (by kernel_rfl) rfl #[.agg #[.int .i64 a1_0, .slice A1_1 l1_1.length c1_1]] (by rfl) rfl rfl (by (try simp only [List.map_toArray, List.map_cons, List.map_nil]); first | done | rfl | (simp only [List.length_drop, List.length_take]; rfl)) ?_
     with_reducible refine (laws_toGraph.calls kj24 a1_0 _ _ l1_1 t211 t212 _ ?side1 ?side2 A103.out).mono ?_
     (case side1 => repeat (first | exact (Kd.C_below HR1_1.out HB.out) | (with_reducible refine Kd.C_alloc ?_ _) | (with_reducible refine Kd.C_drewN ?_ _) | (with_reducible refine Kd.C_drew ?_)))
     (case side2 => exact HC1_1.out)
     rintro e w267 ⟨v213, rfl, ho0, hb⟩
     refine ⟨_, rfl, ?_⟩
     have n0_ := Aside0.mk (Kd.R_elder' (by (with_reducible repeat (first | apply Kd.R_alloc | apply Kd.R_drewN | apply Kd.R_drew)); exact HO_189001.out) (Kd.R_base ho0) hb)
     have n1_ := Aside0.mk (Kd.R_elder' (by (with_reducible repeat (first | apply Kd.R_alloc | apply Kd.R_drewN | apply Kd.R_drew)); exact HO_194001.out) (Kd.R_base ho0) hb)
     have n2_ := Aside0.mk (Kd.R_elder' (by (with_reducible repeat (first | apply Kd.R_alloc | apply Kd.R_drewN | apply Kd.R_drew)); exact HO_199001.out) (Kd.R_base ho0) hb)
     have n3_ := Aside0.mk (Kd.R_elder' (by (with_reducible repeat (first | apply Kd.R_alloc | apply Kd.R_drewN | apply Kd.R_drew)); exact HO_205001.out) (Kd.R_base ho0) hb)
     have n4_ := Aside0.mk (Kd.R_elder' (by (with_reducible repeat (first | apply Kd.R_alloc | apply Kd.R_drewN | apply Kd.R_drew)); exact HO209.out) (Kd.R_base ho0) hb)
     have n5_ := Aside0.mk (Kd.R_lower (Kd.R_new' (Kd.R_new' (Kd.R_new' (Kd.R_new' (Kd.R_new' ho0 (Kd.R_lt (by (with_reducible repeat (first | apply Kd.R_alloc | apply Kd.R_drewN | apply Kd.R_drew)); exact HO_189001.out))) (Kd.R_lt (by (with_reducible repeat (first | apply Kd.R_alloc | apply Kd.R_drewN | apply Kd.R_drew)); exact HO_194001.out))) (Kd.R_lt (by (with_reducible repeat (first | apply Kd.R_alloc | apply Kd.R_drewN | apply Kd.R_drew)); exact HO_199001.out))) (Kd.R_lt (by (with_reducible repeat (first | apply Kd.R_alloc | apply Kd.R_drewN | apply Kd.R_drew)); exact HO_205001.out))) (Kd.R_lt (by (with_reducible repeat (first | apply Kd.R_alloc | apply Kd.R_drewN | apply Kd.R_drew)); exact HO209.out))) (below_size (by repeat (first | (with_reducible first | exact HB.out | apply below_alloc | apply pw_below_drewN | apply below_drew1 | refine below_set ?_ GE171.out | refine below_set ?_ GE172.out | refine below_set ?_ GE188.out | refine below_set ?_ GE193.out | refine below_set ?_ GE198.out | refine below_set ?_ GE204.out) | exact HB.out))))
     have n6_ := Aside0.mk (blk_below (g := gb171) (o := .cells #[.int .i64 a0_0, .slice A0_1 l0_1.length c0_1] 41 (0, 0)) (by (with_reducible repeat (first | refine blk_drewN ?_ _ | refine blk_drew ?_ | refine blk_alloc ?_ _)); exact BK171.out) hb)
     have n7_ := Aside0.mk (blk_below (g := gb172) (o := .cells #[.int .i64 a1_0, .slice A1_1 l1_1.length c1_1] 41 (0, 0)) (by (with_reducible repeat (first | refine blk_drewN ?_ _ | refine blk_drew ?_ | refine blk_alloc ?_ _)); exact BK172.out) hb)
     have n8_ := Aside0.mk (blk_below (g := gb188) (o := .cells #[.int .i64 t183, .slice Ao42 t184.length co42] 34 (0, 0)) (by (with_reducible repeat (first | refine blk_drewN ?_ _ | refine blk_drew ?_ | refine blk_alloc ?_ _)); exact BK188.out) hb)
     have n9_ := Aside0.mk (blk_below (g := gb193) (o := .cells #[.int .i64 t189, .slice Ao52 t190.length co52] 34 (0, 0)) (by (with_reducible repeat (first | refine blk_drewN ?_ _ | refine blk_drew ?_ | refine blk_alloc ?_ _)); exact BK193.out) hb)
     have n10_ := Aside0.mk (blk_below (g := gb198) (o := .cells #[.int .i64 t194, .slice Ao62 t195.length co62] 34 (0, 0)) (by (with_reducible repeat (first | refine blk_drewN ?_ _ | refine blk_drew ?_ | refine blk_alloc ?_ _)); exact BK198.out) hb)
     have n11_ := Aside0.mk (blk_below (g := gb204) (o := .cells #[.int .i64 t199, .slice Ao72 t200.length co72] 34 (0, 0)) (by (with_reducible repeat (first | refine blk_drewN ?_ _ | refine blk_drew ?_ | refine blk_alloc ?_ _)); exact BK204.out) hb)
     have n12_ := Aside0.mk (below_step (by repeat (first | (with_reducible first | exact HB.out | apply below_alloc | apply pw_below_drewN | apply below_drew1 | refine below_set ?_ GE171.out | refine below_set ?_ GE172.out | refine below_set ?_ GE188.out | refine below_set ?_ GE193.out | refine below_set ?_ GE198.out | refine below_set ?_ GE204.out) | exact HB.out)) hb)
     clear HO_189001
     clear HO_194001
     clear HO_199001
     clear HO_205001
     clear HO209
     clear BK171
     clear BK172
     clear BK188
     clear BK193
     clear BK198
     clear BK204
     clear HB
     have HO_189001 := n0_
     have HO_194001 := n1_
     have HO_199001 := n2_
     have HO_205001 := n3_
     have HO209 := n4_
     have HO214 := n5_
     have BK171 := n6_
     have BK172 := n7_
     have BK188 := n8_
     have BK193 := n9_
     have BK198 := n10_
     have BK204 := n11_
     have HB := n12_
     clear n0_ n1_ n2_ n3_ n4_ n5_ n6_ n7_ n8_ n9_ n10_ n11_ n12_
     (try clear hb)
     (try clear hb2)
     (try clear hk)
     (try clear hi)
     (try clear ho0)
     obtain ⟨Ao268, co268, eo268⟩ := Kd.R_slice HO214.out
     (first | subst eo268 | (injection eo268 with f1_ f2_ f3_; have f4_ := f1_.symm; have f5_ := f3_.symm; clear f1_ f2_ f3_; subst f4_; subst f5_))
     refine hK.out _ _ ⟨(blk_cell BK198.out 0).trans rfl, (blk_cell BK198.out 1).trans rfl, (blk_cell BK172.out 0).trans rfl, (blk_cell BK172.out 1).trans rfl⟩ (fun hHeld => ?_)
     clear hK K
     refine norm_ (a' := ?_) ?_ ?_
     rotate_left
     ·show Act.put _ (some 61) _ = _
      simp only [Act.put, List.setIfInBounds_toArray, List.set_cons_zero, List.set_cons_succ, i64_w, i32_w]
      rfl
     refine one_ (i := 3) (N := some 62) #[true, true, true, true, false] rfl rfl (by kernel_rfl) (by decide) (fun K hK => ?_)
     refine goes_ Try.func25 (by kernel_rfl) rfl #[.agg #[.int .i64 t194, .slice Ao62 t195.length co62], .agg #[.int .i64 t211, .slice Ao268 t212.length co268]] (by rfl) rfl rfl (by (try simp only [List.map_toArray, List.map_cons, List.map_nil]); first | done | rfl | (simp only [List.length_drop, List.length_take]; rfl)) ?_
     with_reducible refine (laws_eqGraph.calls kj24 t194 _ _ t195 t211 _ _ t212 false _ ?side1 ?side2 ?side3 ?side4 A104.out).mono ?_
     (case side1 => repeat (first | exact (Kd.R_reads' HO_199001.out).2.2 | (with_reducible refine Kd.C_alloc ?_ _) | (with_reducible refine Kd.C_drewN ?_ _) | (with_reducible refine Kd.C_drew ?_)))
     (case side2 => exact (Kd.R_reads' HO_199001.out).2.1)
     (case side3 => repeat (first | exact (Kd.R_reads' HO214.out).2.2 | (with_reducible refine Kd.C_alloc ?_ _) | (with_reducible refine Kd.C_drewN ?_ _) | (with_reducible refine Kd.C_drew ?_)))
     (case side4 => exact (Kd.R_reads' HO214.out).2.1)
     rintro e w269 ⟨rfl, hb⟩
     refine ⟨_, rfl, ?_⟩
     have n0_ := Aside0.mk (Kd.R_below (by (with_reducible repeat (first | apply Kd.R_alloc | apply Kd.R_drewN | apply Kd.R_drew)); exact HO_189001.out) hb)
     have n1_ := Aside0.mk (Kd.R_below (by (with_reducible repeat (first | apply Kd.R_alloc | apply Kd.R_drewN | apply Kd.R_drew)); exact HO_194001.out) hb)
     have n2_ := Aside0.mk (Kd.R_below (by (with_reducible repeat (first | apply Kd.R_alloc | apply Kd.R_drewN | apply Kd.R_drew)); exact HO_199001.out) hb)
     have n3_ := Aside0.mk (Kd.R_below (by (with_reducible repeat (first | apply Kd.R_alloc | apply Kd.R_drewN | apply Kd.R_drew)); exact HO_205001.out) hb)
     have n4_ := Aside0.mk (Kd.R_below (by (with_reducible repeat (first | apply Kd.R_alloc | apply Kd.R_drewN | apply Kd.R_drew)); exact HO209.out) hb)
     have n5_ := Aside0.mk (Kd.R_below (by (with_reducible repeat (first | apply Kd.R_alloc | apply Kd.R_drewN | apply Kd.R_drew)); exact HO214.out) hb)
     have n6_ := Aside0.mk (blk_below (g := gb171) (o := .cells #[.int .i64 a0_0, .slice A0_1 l0_1.length c0_1] 41 (0, 0)) (by (with_reducible repeat (first | refine blk_drewN ?_ _ | refine blk_drew ?_ | refine blk_alloc ?_ _)); exact BK171.out) hb)
     have n7_ := Aside0.mk (blk_below (g := gb172) (o := .cells #[.int .i64 a1_0, .slice A1_1 l1_1.length c1_1] 41 (0, 0)) (by (with_reducible repeat (first | refine blk_drewN ?_ _ | refine blk_drew ?_ | refine blk_alloc ?_ _)); exact BK172.out) hb)
     have n8_ := Aside0.mk (blk_below (g := gb188) (o := .cells #[.int .i64 t183, .slice Ao42 t184.length co42] 34 (0, 0)) (by (with_reducible repeat (first | refine blk_drewN ?_ _ | refine blk_drew ?_ | refine blk_alloc ?_ _)); exact BK188.out) hb)
     have n9_ := Aside0.mk (blk_below (g := gb193) (o := .cells #[.int .i64 t189, .slice Ao52 t190.length co52] 34 (0, 0)) (by (with_reducible repeat (first | refine blk_drewN ?_ _ | refine blk_drew ?_ | refine blk_alloc ?_ _)); exact BK193.out) hb)
     have n10_ := Aside0.mk (blk_below (g := gb198) (o := .cells #[.int .i64 t194, .slice Ao62 t195.length co62] 34 (0, 0)) (by (with_reducible repeat (first | refine blk_drewN ?_ _ | refine blk_drew ?_ | refine blk_alloc ?_ _)); exact BK198.out) hb)
     have n11_ := Aside0.mk (blk_below (g := gb204) (o := .cells #[.int .i64 t199, .slice Ao72 t200.length co72] 34 (0, 0)) (by (with_reducible repeat (first | refine blk_drewN ?_ _ | refine blk_drew ?_ | refine blk_alloc ?_ _)); exact BK204.out) hb)
     have n12_ := Aside0.mk (below_step (by repeat (first | (with_reducible first | exact HB.out | apply below_alloc | apply pw_below_drewN | apply below_drew1 | refine below_set ?_ GE171.out | refine below_set ?_ GE172.out | refine below_set ?_ GE188.out | refine below_set ?_ GE193.out | refine below_set ?_ GE198.out | refine below_set ?_ GE204.out) | exact HB.out)) hb)
     clear HO_189001
     clear HO_194001
     clear HO_199001
     clear HO_205001
     clear HO209
     clear HO214
     clear BK171
     clear BK172
     clear BK188
     clear BK193
     clear BK198
     clear BK204
     clear HB
     have HO_189001 := n0_
     have HO_194001 := n1_
     have HO_199001 := n2_
     have HO_205001 := n3_
     have HO209 := n4_
     have HO214 := n5_
     have BK171 := n6_
     have BK172 := n7_
     have BK188 := n8_
     have BK193 := n9_
     have BK198 := n10_
     have BK204 := n11_
     have HB := n12_
     clear n0_ n1_ n2_ n3_ n4_ n5_ n6_ n7_ n8_ n9_ n10_ n11_ n12_
     (try clear hb)
     (try clear hb2)
     (try clear hk)
     (try clear hi)
     refine hK.out _ _ ⟨(blk_cell BK198.out 0).trans rfl, (blk_cell BK198.out 1).trans rfl, (blk_cell BK172.out 0).trans rfl, (blk_cell BK172.out 1).trans rfl⟩ (fun hHeld => ?_)
     clear hK K
     refine norm_ (a' := ?_) ?_ ?_
     rotate_left
     ·show Act.put _ (some 62) _ = _
      simp only [Act.put, List.setIfInBounds_toArray, List.set_cons_zero, List.set_cons_succ, i64_w, i32_w]
      rfl
     refine pure_ (i := 4) (N := some 63) (v := ?_) (a' := ?_) #[true, true, true, true, true] rfl rfl (by kernel_rfl) (fun _ _ _ h => h) (Or.inl ⟨by rfl, ?_⟩) ?_ ?_
     rotate_left
     ·intro w'
      go_simp
      with_reducible rfl
     rotate_left
     ·simp only [Act.put, List.setIfInBounds_toArray, List.set_cons_zero, List.set_cons_succ, i64_w, i32_w]
      rfl
     refine done_ (by kernel_rfl) ?_
     try go_wp2
     go_ret
     exact ⟨by first | rfl | (simp [errW_none, errW_some] <;> rfl) | (simp [*, errW_none, errW_some] <;> rfl), by repeat (first | (with_reducible first | exact HB.out | apply below_alloc | apply pw_below_drewN | apply below_drew1 | refine below_set ?_ GE171.out | refine below_set ?_ GE172.out | refine below_set ?_ GE188.out | refine below_set ?_ GE193.out | refine below_set ?_ GE198.out | refine below_set ?_ GE204.out) | exact HB.out)⟩
   ·replace c102 := Bool.eq_false_iff.mpr c102
    subst c102
    have H1 : (some false) = some r := by rw [if_neg (show ¬ (false = true) by decide)] at H; exact H
    clear H
    have H := H1
    clear H1
    obtain rfl := Option.some.inj H
    try go_wp2
    have n0_ := Aside0.mk (Kd.R_drew HO_189001.out)
    have n1_ := Aside0.mk (Kd.R_drew HO_194001.out)
    have n2_ := Aside0.mk (Kd.R_drew HO_199001.out)
    have n3_ := Aside0.mk (Kd.R_drew HO_205001.out)
    have n4_ := Aside0.mk (blk_drew BK171.out)
    have n5_ := Aside0.mk (blk_drew BK172.out)
    have n6_ := Aside0.mk (blk_drew BK188.out)
    have n7_ := Aside0.mk (blk_drew BK193.out)
    have n8_ := Aside0.mk (blk_drew BK198.out)
    have n9_ := Aside0.mk (blk_drew BK204.out)
    have n10_ := Aside0.mk (below_drew1 HB.out)
    clear HO_189001
    clear HO_194001
    clear HO_199001
    clear HO_205001
    clear BK171
    clear BK172
    clear BK188
    clear BK193
    clear BK198
    clear BK204
    clear HB
    have HO_189001 := n0_
    have HO_194001 := n1_
    have HO_199001 := n2_
    have HO_205001 := n3_
    have BK171 := n4_
    have BK172 := n5_
    have BK188 := n6_
    have BK193 := n7_
    have BK198 := n8_
    have BK204 := n9_
    have HB := n10_
    clear n0_ n1_ n2_ n3_ n4_ n5_ n6_ n7_ n8_ n9_ n10_
    refine start_ (n := 5) (S := fun w' => w'.cell? ⟨gb193, 0, none⟩ = some (.int .i64 t189) ∧ w'.cell? ⟨gb193, 1, none⟩ = some (.slice Ao52 t190.length co52) ∧ w'.cell? ⟨gb171, 0, none⟩ = some (.int .i64 a0_0) ∧ w'.cell? ⟨gb171, 1, none⟩ = some (.slice A0_1 l0_1.length c0_1)) (ds := []) #[false, false, false, false, false] (by kernel_rfl) rfl rfl ⟨(blk_cell BK193.out 0).trans rfl, (blk_cell BK193.out 1).trans rfl, (blk_cell BK171.out 0).trans rfl, (blk_cell BK171.out 1).trans rfl⟩ (fun hHeld => ?_)
    generalize wc.drew = w270 at HO_189001 HO_194001 HO_199001 HO_205001 BK171 BK172 BK188 BK193 BK198 BK204 HB hHeld ⊢
    refine take_ (i := 0) (N := some 54) (v := ?_) (a' := ?_) #[true, false, false, false, false] rfl rfl (by kernel_rfl) (fun _ _ _ h => h) (Or.inl ⟨by rfl, ?_⟩) hHeld ?_ ?_
    rotate_left
    ·rintro w' ⟨s0, s1, s2, s3⟩
     go_simp
     with_reducible rfl
    rotate_left
    ·simp only [Act.put, List.setIfInBounds_toArray, List.set_cons_zero, List.set_cons_succ, i64_w, i32_w]
     rfl
    refine take_ (i := 1) (N := some 55) (v := ?_) (a' := ?_) #[true, true, false, false, false] rfl rfl (by kernel_rfl) (fun _ _ _ h => h) (Or.inl ⟨by rfl, ?_⟩) hHeld ?_ ?_
    rotate_left
    ·rintro w' ⟨s0, s1, s2, s3⟩
     go_simp
     with_reducible rfl
    rotate_left
    ·simp only [Act.put, List.setIfInBounds_toArray, List.set_cons_zero, List.set_cons_succ, i64_w, i32_w]
     rfl
    refine one_ (i := 2) (N := some 56) #[true, true, true, false, false] rfl rfl (by kernel_rfl) (by decide) (fun K hK => ?_)
    refine goes_ Try.func30 (by kernel_rfl) rfl #[.agg #[.int .i64 a0_0, .slice A0_1 l0_1.length c0_1]] (by rfl) rfl rfl (by (try simp only [List.map_toArray, List.map_cons, List.map_nil]); first | done | rfl | (simp only [List.length_drop, List.length_take]; rfl)) ?_
    with_reducible refine (laws_toGraph.calls kj24 a0_0 _ _ l0_1 t206 t207 _ ?side1 ?side2 A100.out).mono ?_
    (case side1 => repeat (first | exact (Kd.C_below HR0_1.out HB.out) | (with_reducible refine Kd.C_alloc ?_ _) | (with_reducible refine Kd.C_drewN ?_ _) | (with_reducible refine Kd.C_drew ?_)))
    (case side2 => exact HC0_1.out)
    rintro e w271 ⟨v208, rfl, ho0, hb⟩
    refine ⟨_, rfl, ?_⟩
    have n0_ := Aside0.mk (Kd.R_elder' (by (with_reducible repeat (first | apply Kd.R_alloc | apply Kd.R_drewN | apply Kd.R_drew)); exact HO_189001.out) (Kd.R_base ho0) hb)
    have n1_ := Aside0.mk (Kd.R_elder' (by (with_reducible repeat (first | apply Kd.R_alloc | apply Kd.R_drewN | apply Kd.R_drew)); exact HO_194001.out) (Kd.R_base ho0) hb)
    have n2_ := Aside0.mk (Kd.R_elder' (by (with_reducible repeat (first | apply Kd.R_alloc | apply Kd.R_drewN | apply Kd.R_drew)); exact HO_199001.out) (Kd.R_base ho0) hb)
    have n3_ := Aside0.mk (Kd.R_elder' (by (with_reducible repeat (first | apply Kd.R_alloc | apply Kd.R_drewN | apply Kd.R_drew)); exact HO_205001.out) (Kd.R_base ho0) hb)
    have n4_ := Aside0.mk (Kd.R_lower (Kd.R_new' (Kd.R_new' (Kd.R_new' (Kd.R_new' ho0 (Kd.R_lt (by (with_reducible repeat (first | apply Kd.R_alloc | apply Kd.R_drewN | apply Kd.R_drew)); exact HO_189001.out))) (Kd.R_lt (by (with_reducible repeat (first | apply Kd.R_alloc | apply Kd.R_drewN | apply Kd.R_drew)); exact HO_194001.out))) (Kd.R_lt (by (with_reducible repeat (first | apply Kd.R_alloc | apply Kd.R_drewN | apply Kd.R_drew)); exact HO_199001.out))) (Kd.R_lt (by (with_reducible repeat (first | apply Kd.R_alloc | apply Kd.R_drewN | apply Kd.R_drew)); exact HO_205001.out))) (below_size (by repeat (first | (with_reducible first | exact HB.out | apply below_alloc | apply pw_below_drewN | apply below_drew1 | refine below_set ?_ GE171.out | refine below_set ?_ GE172.out | refine below_set ?_ GE188.out | refine below_set ?_ GE193.out | refine below_set ?_ GE198.out | refine below_set ?_ GE204.out) | exact HB.out))))
    have n5_ := Aside0.mk (blk_below (g := gb171) (o := .cells #[.int .i64 a0_0, .slice A0_1 l0_1.length c0_1] 41 (0, 0)) (by (with_reducible repeat (first | refine blk_drewN ?_ _ | refine blk_drew ?_ | refine blk_alloc ?_ _)); exact BK171.out) hb)
    have n6_ := Aside0.mk (blk_below (g := gb172) (o := .cells #[.int .i64 a1_0, .slice A1_1 l1_1.length c1_1] 41 (0, 0)) (by (with_reducible repeat (first | refine blk_drewN ?_ _ | refine blk_drew ?_ | refine blk_alloc ?_ _)); exact BK172.out) hb)
    have n7_ := Aside0.mk (blk_below (g := gb188) (o := .cells #[.int .i64 t183, .slice Ao42 t184.length co42] 34 (0, 0)) (by (with_reducible repeat (first | refine blk_drewN ?_ _ | refine blk_drew ?_ | refine blk_alloc ?_ _)); exact BK188.out) hb)
    have n8_ := Aside0.mk (blk_below (g := gb193) (o := .cells #[.int .i64 t189, .slice Ao52 t190.length co52] 34 (0, 0)) (by (with_reducible repeat (first | refine blk_drewN ?_ _ | refine blk_drew ?_ | refine blk_alloc ?_ _)); exact BK193.out) hb)
    have n9_ := Aside0.mk (blk_below (g := gb198) (o := .cells #[.int .i64 t194, .slice Ao62 t195.length co62] 34 (0, 0)) (by (with_reducible repeat (first | refine blk_drewN ?_ _ | refine blk_drew ?_ | refine blk_alloc ?_ _)); exact BK198.out) hb)
    have n10_ := Aside0.mk (blk_below (g := gb204) (o := .cells #[.int .i64 t199, .slice Ao72 t200.length co72] 34 (0, 0)) (by (with_reducible repeat (first | refine blk_drewN ?_ _ | refine blk_drew ?_ | refine blk_alloc ?_ _)); exact BK204.out) hb)
    have n11_ := Aside0.mk (below_step (by repeat (first | (with_reducible first | exact HB.out | apply below_alloc | apply pw_below_drewN | apply below_drew1 | refine below_set ?_ GE171.out | refine below_set ?_ GE172.out | refine below_set ?_ GE188.out | refine below_set ?_ GE193.out | refine below_set ?_ GE198.out | refine below_set ?_ GE204.out) | exact HB.out)) hb)
    clear HO_189001
    clear HO_194001
    clear HO_199001
    clear HO_205001
    clear BK171
    clear BK172
    clear BK188
    clear BK193
    clear BK198
    clear BK204
    clear HB
    have HO_189001 := n0_
    have HO_194001 := n1_
    have HO_199001 := n2_
    have HO_205001 := n3_
    have HO209 := n4_
    have BK171 := n5_
    have BK172 := n6_
    have BK188 := n7_
    have BK193 := n8_
    have BK198 := n9_
    have BK204 := n10_
    have HB := n11_
    clear n0_ n1_ n2_ n3_ n4_ n5_ n6_ n7_ n8_ n9_ n10_ n11_
    (try clear hb)
    (try clear hb2)
    (try clear hk)
    (try clear hi)
    (try clear ho0)
    obtain ⟨Ao272, co272, eo272⟩ := Kd.R_slice HO209.out
    (first | subst eo272 | (injection eo272 with f1_ f2_ f3_; have f4_ := f1_.symm; have f5_ := f3_.symm; clear f1_ f2_ f3_; subst f4_; subst f5_))
    refine hK.out _ _ ⟨(blk_cell BK193.out 0).trans rfl, (blk_cell BK193.out 1).trans rfl, (blk_cell BK171.out 0).trans rfl, (blk_cell BK171.out 1).trans rfl⟩ (fun hHeld => ?_)
    clear hK K
    refine norm_ (a' := ?_) ?_ ?_
    rotate_left
    ·show Act.put _ (some 56) _ = _
     simp only [Act.put, List.setIfInBounds_toArray, List.set_cons_zero, List.set_cons_succ, i64_w, i32_w]
     rfl
    refine one_ (i := 3) (N := some 57) #[true, true, true, true, false] rfl rfl (by kernel_rfl) (by decide) (fun K hK => ?_)
    refine goes_ Try.func25 (by kernel_rfl) rfl #[.agg #[.int .i64 t189, .slice Ao52 t190.length co52], .agg #[.int .i64 t206, .slice Ao272 t207.length co272]] (by rfl) rfl rfl (by (try simp only [List.map_toArray, List.map_cons, List.map_nil]); first | done | rfl | (simp only [List.length_drop, List.length_take]; rfl)) ?_
    with_reducible refine (laws_eqGraph.calls kj24 t189 _ _ t190 t206 _ _ t207 false _ ?side1 ?side2 ?side3 ?side4 A101.out).mono ?_
    (case side1 => repeat (first | exact (Kd.R_reads' HO_194001.out).2.2 | (with_reducible refine Kd.C_alloc ?_ _) | (with_reducible refine Kd.C_drewN ?_ _) | (with_reducible refine Kd.C_drew ?_)))
    (case side2 => exact (Kd.R_reads' HO_194001.out).2.1)
    (case side3 => repeat (first | exact (Kd.R_reads' HO209.out).2.2 | (with_reducible refine Kd.C_alloc ?_ _) | (with_reducible refine Kd.C_drewN ?_ _) | (with_reducible refine Kd.C_drew ?_)))
    (case side4 => exact (Kd.R_reads' HO209.out).2.1)
    rintro e w273 ⟨rfl, hb⟩
    refine ⟨_, rfl, ?_⟩
    have n0_ := Aside0.mk (Kd.R_below (by (with_reducible repeat (first | apply Kd.R_alloc | apply Kd.R_drewN | apply Kd.R_drew)); exact HO_189001.out) hb)
    have n1_ := Aside0.mk (Kd.R_below (by (with_reducible repeat (first | apply Kd.R_alloc | apply Kd.R_drewN | apply Kd.R_drew)); exact HO_194001.out) hb)
    have n2_ := Aside0.mk (Kd.R_below (by (with_reducible repeat (first | apply Kd.R_alloc | apply Kd.R_drewN | apply Kd.R_drew)); exact HO_199001.out) hb)
    have n3_ := Aside0.mk (Kd.R_below (by (with_reducible repeat (first | apply Kd.R_alloc | apply Kd.R_drewN | apply Kd.R_drew)); exact HO_205001.out) hb)
    have n4_ := Aside0.mk (Kd.R_below (by (with_reducible repeat (first | apply Kd.R_alloc | apply Kd.R_drewN | apply Kd.R_drew)); exact HO209.out) hb)
    have n5_ := Aside0.mk (blk_below (g := gb171) (o := .cells #[.int .i64 a0_0, .slice A0_1 l0_1.length c0_1] 41 (0, 0)) (by (with_reducible repeat (first | refine blk_drewN ?_ _ | refine blk_drew ?_ | refine blk_alloc ?_ _)); exact BK171.out) hb)
    have n6_ := Aside0.mk (blk_below (g := gb172) (o := .cells #[.int .i64 a1_0, .slice A1_1 l1_1.length c1_1] 41 (0, 0)) (by (with_reducible repeat (first | refine blk_drewN ?_ _ | refine blk_drew ?_ | refine blk_alloc ?_ _)); exact BK172.out) hb)
    have n7_ := Aside0.mk (blk_below (g := gb188) (o := .cells #[.int .i64 t183, .slice Ao42 t184.length co42] 34 (0, 0)) (by (with_reducible repeat (first | refine blk_drewN ?_ _ | refine blk_drew ?_ | refine blk_alloc ?_ _)); exact BK188.out) hb)
    have n8_ := Aside0.mk (blk_below (g := gb193) (o := .cells #[.int .i64 t189, .slice Ao52 t190.length co52] 34 (0, 0)) (by (with_reducible repeat (first | refine blk_drewN ?_ _ | refine blk_drew ?_ | refine blk_alloc ?_ _)); exact BK193.out) hb)
    have n9_ := Aside0.mk (blk_below (g := gb198) (o := .cells #[.int .i64 t194, .slice Ao62 t195.length co62] 34 (0, 0)) (by (with_reducible repeat (first | refine blk_drewN ?_ _ | refine blk_drew ?_ | refine blk_alloc ?_ _)); exact BK198.out) hb)
    have n10_ := Aside0.mk (blk_below (g := gb204) (o := .cells #[.int .i64 t199, .slice Ao72 t200.length co72] 34 (0, 0)) (by (with_reducible repeat (first | refine blk_drewN ?_ _ | refine blk_drew ?_ | refine blk_alloc ?_ _)); exact BK204.out) hb)
    have n11_ := Aside0.mk (below_step (by repeat (first | (with_reducible first | exact HB.out | apply below_alloc | apply pw_below_drewN | apply below_drew1 | refine below_set ?_ GE171.out | refine below_set ?_ GE172.out | refine below_set ?_ GE188.out | refine below_set ?_ GE193.out | refine below_set ?_ GE198.out | refine below_set ?_ GE204.out) | exact HB.out)) hb)
    clear HO_189001
    clear HO_194001
    clear HO_199001
    clear HO_205001
    clear HO209
    clear BK171
    clear BK172
    clear BK188
    clear BK193
    clear BK198
    clear BK204
    clear HB
    have HO_189001 := n0_
    have HO_194001 := n1_
    have HO_199001 := n2_
    have HO_205001 := n3_
    have HO209 := n4_
    have BK171 := n5_
    have BK172 := n6_
    have BK188 := n7_
    have BK193 := n8_
    have BK198 := n9_
    have BK204 := n10_
    have HB := n11_
    clear n0_ n1_ n2_ n3_ n4_ n5_ n6_ n7_ n8_ n9_ n10_ n11_
    (try clear hb)
    (try clear hb2)
    (try clear hk)
    (try clear hi)
    refine hK.out _ _ ⟨(blk_cell BK193.out 0).trans rfl, (blk_cell BK193.out 1).trans rfl, (blk_cell BK171.out 0).trans rfl, (blk_cell BK171.out 1).trans rfl⟩ (fun hHeld => ?_)
    clear hK K
    refine norm_ (a' := ?_) ?_ ?_
    rotate_left
    ·show Act.put _ (some 57) _ = _
     simp only [Act.put, List.setIfInBounds_toArray, List.set_cons_zero, List.set_cons_succ, i64_w, i32_w]
     rfl
    refine pure_ (i := 4) (N := some 58) (v := ?_) (a' := ?_) #[true, true, true, true, true] rfl rfl (by kernel_rfl) (fun _ _ _ h => h) (Or.inl ⟨by rfl, ?_⟩) ?_ ?_
    rotate_left
    ·intro w'
     go_simp
     with_reducible rfl
    rotate_left
    ·simp only [Act.put, List.setIfInBounds_toArray, List.set_cons_zero, List.set_cons_succ, i64_w, i32_w]
     rfl
    refine done_ (by kernel_rfl) ?_
    try go_wp2
    go_ret
    exact ⟨by first | rfl | (simp [errW_none, errW_some] <;> rfl) | (simp [*, errW_none, errW_some] <;> rfl), by repeat (first | (with_reducible first | exact HB.out | apply below_alloc | apply pw_below_drewN | apply below_drew1 | refine below_set ?_ GE171.out | refine below_set ?_ GE172.out | refine below_set ?_ GE188.out | refine below_set ?_ GE193.out | refine below_set ?_ GE198.out | refine below_set ?_ GE204.out) | exact HB.out)⟩
end Go.Proofs.Ythnjnhdalpcfpaa.XFnExactPutBeside
