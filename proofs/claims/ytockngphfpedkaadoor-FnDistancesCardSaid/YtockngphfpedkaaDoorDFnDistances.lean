/- FnDistances: what its functions answer at each code, and the law's walk: it returns true for every code. No condition. -/
import Derived.Test.YtockngphfpedkaaDoorXFnDistancesx0
import Derived.Test.YtockngphfpedkaaDoorXFnDistancesx1
import Derived.Test.YtockngphfpedkaaDoorXFnDistancesx2
import Derived.Test.YtockngphfpedkaaDoorXFnDistancesx3
import Derived.Test.YtockngphfpedkaaDoorXFnDistancesx4
import Derived.Test.YtockngphfpedkaaDoorXFnDistancesx5
import Derived.Test.YtockngphfpedkaaDoorXFnDistancesx6
import Derived.Test.YtockngphfpedkaaDoorXFnDistancesx7
import Derived.Test.YtockngphfpedkaaDoorXFnDistancesx8
import Derived.Test.YtockngphfpedkaaDoorXFnDistancesx9
import Derived.Test.YtockngphfpedkaaDoorXFnDistancesx10
import Derived.Test.YtockngphfpedkaaDoorXFnDistancesx11
import Derived.Test.YtockngphfpedkaaDoorXFnDistancesx12
import Derived.Test.YtockngphfpedkaaDoorXFnDistancesx13
import Derived.Test.YtockngphfpedkaaDoorXFnDistancesx14
import Derived.Test.YtockngphfpedkaaDoorXFnDistancesx15
import Derived.Test.YtockngphfpedkaaDoorXFnDistancesx16
import Derived.Test.YtockngphfpedkaaDoorXFnDistancesx17
import Derived.Test.YtockngphfpedkaaDoorXFnDistancesx18
import Derived.Test.YtockngphfpedkaaDoorXFnDistancesx19
import Derived.Test.YtockngphfpedkaaDoorLFnDistances
namespace Go.Proofs.YtockngphfpedkaaDoor.XFnDistances
open Go.RowKit Go.Proofs.YtockngphfpedkaaDoorW.PrintWords Go.Proofs.YtockngphfpedkaaDoorW.PrintLast Go.Proofs.YtockngphfpedkaaDoorW.PrintMore Go.Proofs.YtockngphfpedkaaDoor.B
attribute [local go_sem] max2_int min2_int max_two min_two max_three min_three max_four min_four
set_option linter.unusedVariables false
set_option linter.unusedSimpArgs false
/-- What the law's functions answer, all with as many rounds. -/
structure Vals (l : List Int) (n : Int) (rr : List Int) (v n2 : Int) (r2 : List Int) (x y n3 : Int) (r3 ds : List Int) (e1 di e2 : Int) (le : List Int) (e3 mo lo e4 : Int) (re : List Int) (e5 : Int) (k : Nat) : Prop where
  s1 : spec_DrawDistancesFrom.f k l = some (n, rr, v)
  s2 : impl_DistancesFrom.f k n rr v = some (ds, e1)
  s3 : spec_DistancesFrom.f k n rr v = some (ds, e1)
  s4 : spec_DrawDistanceOf.f k l = some (n2, r2, x, y)
  s5 : impl_DistanceOf.f k n2 r2 x y = some (di, e2)
  s6 : spec_DistanceOf.f k n2 r2 x y = some (di, e2)
  s7 : impl_LevelsFrom.f k n rr v = some (le, e3)
  s8 : spec_LevelsFrom.f k n rr v = some (le, e3)
  s9 : spec_DrawDiameterOf.f k l = some (n3, r3)
  s10 : impl_DiameterOf.f k n3 r3 = some (mo, lo, e4)
  s11 : spec_DiameterOf.f k n3 r3 = some (mo, lo, e4)
  s12 : impl_ReachesOf.f k n3 r3 = some (re, e5)
  s13 : spec_ReachesOf.f k n3 r3 = some (re, e5)
  l1 : laws_likeInts.f k ds ds = some true
  l2 : laws_likeInts.f k le le = some true
  l3 : laws_likeInts.f k re re = some true
  d : e4 = 0 → e5 = 0 ∧ lo ≤ mo ∧ mo ≤ 2 * lo ∧ 0 ≤ lo ∧ mo ≤ 62 ∧ laws_hasInt.f k re mo = some true ∧ laws_hasInt.f k re lo = some true
  b : e2 = 0 → impl_DistanceOf.f k n2 r2 y x = some (di, 0) ∧ ((di == 0) != (x == y)) = false
  e : (e1 ≠ 0 ∧ ds = [] ∧ e3 = e1) ∨ (e1 = 0 ∧ e3 = 0 ∧ laws_sum.f k le = some ((posR ds ds.length : Nat) : Int) ∧ 0 < le.length ∧ rd le 0 = 1)
  len : ds.length ≤ 62
theorem ev_when {α : Type} {p : Prop} {g : Nat → Option α} {r : α} (h : p → Ev g r) : ∃ K, ∀ k, K ≤ k → p → g k = some r := by
  by_cases t : p
  · obtain ⟨K, hK⟩ := h t
    exact ⟨K, fun k hk _ => hK k hk⟩
  · exact ⟨0, fun k _ h => absurd h t⟩
theorem vals {l : List Int} (b : Bts l) : ∃ n rr v n2 r2 x y n3 r3 ds e1 di e2 le e3 mo lo e4 re e5 k, Vals l n rr v n2 r2 x y n3 r3 ds e1 di e2 le e3 mo lo e4 re e5 k := by
  obtain ⟨n, r, v, K1, h1⟩ := spec_DrawDistancesFrom.ok b
  obtain ⟨n2, r2, x, y, K2, h2⟩ := spec_DrawDistanceOf.ok b
  obtain ⟨n3, r3, K3, h3⟩ := spec_DrawDiameterOf.ok b
  obtain ⟨K4, h4⟩ := impl_DistancesFrom.ev n r v
  obtain ⟨K5, h5⟩ := spec_DistancesFrom.ev n r v
  obtain ⟨K6, h6⟩ := impl_DistanceOf.ev n2 r2 x y
  obtain ⟨K7, h7⟩ := spec_DistanceOf.ev n2 r2 x y
  obtain ⟨K8, h8⟩ := impl_DistanceOf.ev n2 r2 y x
  obtain ⟨K9, h9⟩ := impl_LevelsFrom.ev n r v
  obtain ⟨K10, h10⟩ := spec_LevelsFrom.ev n r v
  obtain ⟨K11, h11⟩ := impl_DiameterOf.ev n3 r3
  obtain ⟨K12, h12⟩ := spec_DiameterOf.ev n3 r3
  obtain ⟨K13, h13⟩ := impl_ReachesOf.ev n3 r3
  obtain ⟨K14, h14⟩ := spec_ReachesOf.ev n3 r3
  have hd := distsR_length n r v
  have hv := levR_length n r v
  have hr := reachR_length n3 r3
  have fs := distR_facts n2 r2 x y
  have fd := diam_facts n3 r3
  have fl := lev_facts n r v
  obtain ⟨K15, h15⟩ := laws_likeInts.ev (distsR n r v).1 (by omega)
  obtain ⟨K16, h16⟩ := laws_likeInts.ev (levR n r v).1 (by omega)
  obtain ⟨K17, h17⟩ := laws_likeInts.ev (reachR n3 r3).1 (by omega)
  obtain ⟨K18, h18⟩ := ev_when fun t : (diamR n3 r3).2.2 = 0 => laws_hasInt.ev (by omega) (fd t).2.2.2.2.2.1
  obtain ⟨K19, h19⟩ := ev_when fun t : (diamR n3 r3).2.2 = 0 => laws_hasInt.ev (by omega) (fd t).2.2.2.2.2.2.1
  obtain ⟨K20, h20⟩ : ∃ K, ∀ k, K ≤ k → ((distsR n r v).2 ≠ 0 ∧ (distsR n r v).1 = [] ∧ (levR n r v).2 = (distsR n r v).2) ∨ ((distsR n r v).2 = 0 ∧ (levR n r v).2 = 0 ∧ laws_sum.f k (levR n r v).1 = some ((posR (distsR n r v).1 (distsR n r v).1.length : Nat) : Int) ∧ 0 < (levR n r v).1.length ∧ rd (levR n r v).1 0 = 1) := by
    rcases fl with h | ⟨a, c, ⟨K, hK⟩, d, e⟩
    · exact ⟨0, fun _ _ => .inl h⟩
    · exact ⟨K, fun k hk => .inr ⟨a, c, hK k hk, d, e⟩⟩
  refine ⟨n, r, v, n2, r2, x, y, n3, r3, (distsR n r v).1, (distsR n r v).2, (distR n2 r2 x y).1, (distR n2 r2 x y).2, (levR n r v).1, (levR n r v).2, (diamR n3 r3).1, (diamR n3 r3).2.1, (diamR n3 r3).2.2, (reachR n3 r3).1, (reachR n3 r3).2, K1 + K2 + K3 + K4 + K5 + K6 + K7 + K8 + K9 + K10 + K11 + K12 + K13 + K14 + K15 + K16 + K17 + K18 + K19 + K20, ?_⟩
  exact {
    s1 := h1 _ (by omega)
    s2 := h4 _ (by omega)
    s3 := h5 _ (by omega)
    s4 := h2 _ (by omega)
    s5 := h6 _ (by omega)
    s6 := h7 _ (by omega)
    s7 := h9 _ (by omega)
    s8 := h10 _ (by omega)
    s9 := h3 _ (by omega)
    s10 := h11 _ (by omega)
    s11 := h12 _ (by omega)
    s12 := h13 _ (by omega)
    s13 := h14 _ (by omega)
    l1 := h15 _ (by omega)
    l2 := h16 _ (by omega)
    l3 := h17 _ (by omega)
    d := fun t => ⟨(fd t).1, (fd t).2.1, (fd t).2.2.1, (fd t).2.2.2.1, (fd t).2.2.2.2.1, h18 _ (by omega) t, h19 _ (by omega) t⟩
    b := fun t => by
      obtain ⟨u1, u2⟩ := fs t
      refine ⟨?_, ?_⟩
      · refine (h8 _ (by omega)).trans ?_
        rw [u1, ← t]
      · generalize (distR n2 r2 x y).1 = di at u2
        by_cases z : di = 0
        · rw [beq_iff_eq.mpr z, beq_iff_eq.mpr (u2.1 z)]; rfl
        · rw [beq_eq_false_iff_ne.mpr z, beq_eq_false_iff_ne.mpr (fun q => z (u2.2 q))]; rfl
    e := h20 _ (by omega)
    len := hd }
instance {W : World} {g j b : Nat} {ok : Nat → Prop} {u z : Value} {xs : List Int} {cs : Array Value} [h : Fa (Kd.R (Kd.int .i64) 2 W b ok u xs)] [Dm (kn cs)] [k : Fa (W.heap[g]? = some (.cells cs 26 (0, 0)))] : Fa (Kd.R (Kd.int .i64) 2 (W.setCell ⟨g, j, none⟩ z) b ok u xs) :=
  ⟨Kd.R_mono (Kd.R_far (p := ⟨g, j, none⟩) (Kd.R_types h.out k.out (by decide)) (fun _ hk => hk.2) z) (fun _ hk => hk.1)⟩
instance {W : World} {g g' j : Nat} {t : TypeId} {z : Value} {cs : Array Value} [h : Fa (W.heap[g]? = some (.cells cs t (0, 0)))] [k : Fa (g ≠ g')] : Fa ((W.setCell ⟨g', j, none⟩ z).heap[g]? = some (.cells cs t (0, 0))) := ⟨blk_far h.out k.out z⟩
set_option maxHeartbeats 8000000 in
set_option maxRecDepth 100000 in
theorem direct (A0 : Option Addr) (c0 : Nat) (l0 : List Int) (w : World) (w0 : ∀ x ∈ l0, (Lit.int .u8 x).wf = true) (hr0 : Kd.C (Kd.int .u8) w A0 l0.length l0) (hc0 : l0.length ≤ c0) (ht : Tab w) :
    Calls Tryd.prog 3 #[.slice A0 l0.length c0] w fun e w' => e = .returned (.bool true) ∧ Below w.heap.size w w' := by
  have hu := Tryd.underlying26
  have HR0 := Fa.mk hr0
  have HC0 := Fa.mk hc0
  have HB := Fa.mk (Below.refl w.heap.size w)
  have HT := Fa.mk ht
  clear hr0 hc0 ht
  by_cases c : (l0.length : Int) > 4096
  · have SBG : Fa (laws_big.f l0 = some true) := ⟨by unfold laws_big.f; rw [decide_eq_true c]⟩
    clear c
    go_enter Tryd.func3, Tryd.ntmps3
    go_wp2_with (first | ((with_reducible refine gc 7 rfl ?_); refine gL 36 Tryd.func7 #[.slice A0 l0.length c0] rfl (by first | rfl | (simp only [mA, mC, mN]; rfl)) ?_; (with_reducible refine (laws_big.calls _ _ l0 true _ (cU HR0) HC0.out SBG.out).mono ?_); rintro e w1 ⟨rfl, ⟨nd, rfl⟩⟩; refine ⟨_, rfl, ?_⟩))
    go_ret
    exact ⟨rfl, BU HB⟩
  · have SBG : Fa (laws_big.f l0 = some false) := ⟨by unfold laws_big.f; rw [decide_eq_false c]⟩
    have hb0 : Bts l0 := ⟨by omega, fun x hx => by
      have h := w0 x hx
      simp [Lit.wf, IntKind.min, IntKind.max, IntKind.signed, IntKind.bits] at h
      omega⟩
    obtain ⟨n, rr, v, n2, r2, x, y, n3, r3, ds, e1, di, e2, le, e3, mo, lo, e4, re, e5, k, V⟩ := vals hb0
    clear c hb0 w0
    have S1 := Fa.mk V.s1
    have S2 := Fa.mk V.s2
    have S3 := Fa.mk V.s3
    have S4 := Fa.mk V.s4
    have S5 := Fa.mk V.s5
    have S6 := Fa.mk V.s6
    have S7 := Fa.mk V.s7
    have S8 := Fa.mk V.s8
    have S9 := Fa.mk V.s9
    have S10 := Fa.mk V.s10
    have S11 := Fa.mk V.s11
    have S12 := Fa.mk V.s12
    have S13 := Fa.mk V.s13
    have L1 := Fa.mk V.l1
    have L2 := Fa.mk V.l2
    have L3 := Fa.mk V.l3
    have VD := Fa.mk V.d
    have VB := Fa.mk V.b
    have VE := Fa.mk V.e
    have VL := Fa.mk V.len
    clear V
    have b1 : (e1 != e1) = false := by simp
    have b2 : (e2 != e2) = false := by simp
    have b3 : (di != di) = false := by simp
    have b4 : (e3 != e3) = false := by simp
    have b5 : (e4 != e4) = false := by simp
    have b6 : (mo != mo) = false := by simp
    have b7 : (lo != lo) = false := by simp
    have b8 : (e5 != e5) = false := by simp
    go_enter Tryd.func3, Tryd.ntmps3
    go_upto_region 6 with (first | ((with_reducible refine gc 7 rfl ?_); refine gL 36 Tryd.func7 #[.slice A0 l0.length c0] rfl (by first | rfl | (simp only [mA, mC, mN]; rfl)) ?_; (with_reducible refine (laws_big.calls _ _ l0 false _ (cU HR0) HC0.out SBG.out).mono ?_); rintro e w1 ⟨rfl, ⟨nd, rfl⟩⟩; refine ⟨_, rfl, ?_⟩) | ((with_reducible refine gc 8 rfl ?_); refine gL 39 Tryd.func8 #[.slice A0 l0.length c0] rfl (by first | rfl | (simp only [mA, mC, mN]; rfl)) ?_; (with_reducible refine (spec_DrawDistancesFrom.calls k _ _ l0 n rr v _ (cU HR0) HC0.out S1.out).mono ?_); rintro e w1 ⟨v1, rfl, ho0, hb⟩; refine ⟨_, rfl, ?_⟩; have HG := Fa.mk (Kd.R_mono (ok' := fun _ => True) (Kd.R_lower ho0 (below_size (BU HB))) (fun _ _ => trivial)); clear ho0; replace HB := Fa.mk (below_step (BU HB) hb); clear hb) | ((with_reducible refine gd 3 rfl ?_); refine box_event ?hg (N := 3) ?hd (cs := #[.int .i64 0, .slice none 0 0]) (t := 26) ?hr ?_; (case hd => rfl); (case hg => rfl); (case hr => first | (go_simp; done) | (go_simp; rfl)); intro g1 hg w1 hbox hb; have Gg1 := Fa.mk (bsz hg (BU HB) : w.heap.size ≤ g1); replace HG := Fa.mk (Kd.R_below (rU HG) hb); replace HB := Fa.mk (below_step (BU HB) hb); clear hb; have Bg1 := Fa.mk hbox; clear hbox hg; obtain ⟨hz0, hz1, hz2, hz3⟩ := cz2 Bg1.out; obtain ⟨Aq1, cq1, eq1⟩ := Kd.R_slice HG.out; subst eq1) | ((with_reducible refine gc 9 rfl ?_); refine gL 45 Tryd.func9 #[.agg #[.int .i64 n, .slice Aq1 rr.length cq1], .int .i64 v] rfl (by first | rfl | (simp only [mA, mC, mN]; rfl)) ?_; (with_reducible refine (impl_DistancesFrom.calls k n _ _ rr v ds e1 _ (rC HG) ((Kd.R_reads' HG.out).2.1) (Tab.below HT.out (BU HB)) S2.out).mono ?_); rintro e w1 ⟨v2, rfl, ho0, hb⟩; refine ⟨_, rfl, ?_⟩; have HD := Fa.mk (Kd.R_mono (ok' := fun _ => True) (Kd.R_lower ho0 (below_size (BU HB))) (fun _ _ => trivial)); clear ho0; replace HG := Fa.mk (Kd.R_below (rU HG) hb); replace Bg1 := Fa.mk (blk_below (g := g1) (o := .cells #[.int .i64 n, .slice Aq1 rr.length cq1] 26 (0, 0)) oo hb); replace HB := Fa.mk (below_step (BU HB) hb); clear hb; obtain ⟨hz0, hz1, hz2, hz3⟩ := cz2 Bg1.out) | ((with_reducible refine gc 10 rfl ?_); refine gL 51 Tryd.func10 #[.agg #[.int .i64 n, .slice Aq1 rr.length cq1], .int .i64 v] rfl (by first | rfl | (simp only [mA, mC, mN]; rfl)) ?_; (with_reducible refine (spec_DistancesFrom.calls k n _ _ rr v ds e1 _ (rC HG) ((Kd.R_reads' HG.out).2.1) S3.out).mono ?_); rintro e w1 ⟨v3, rfl, ho0, hb⟩; refine ⟨_, rfl, ?_⟩; have HX := Fa.mk (Kd.R_mono (ok' := fun _ => True) (Kd.R_lower ho0 (below_size (BU HB))) (fun _ _ => trivial)); clear ho0; replace HG := Fa.mk (Kd.R_below (rU HG) hb); replace HD := Fa.mk (Kd.R_below (rU HD) hb); replace Bg1 := Fa.mk (blk_below (bU Bg1) hb); replace HB := Fa.mk (below_step (BU HB) hb); clear hb; obtain ⟨Ad1, cd1, ed1⟩ := Kd.R_slice HD.out; subst ed1; obtain ⟨Ax1, cx1, ex1⟩ := Kd.R_slice HX.out; subst ex1))
    go_upto_region 11 with (first | (go_at_call 11; (with_reducible refine (laws_likeInts.calls k _ _ ds _ _ ds true _ (rC HD) ((Kd.R_reads' HD.out).2.1) (rC HX) ((Kd.R_reads' HX.out).2.1) L1.out).mono ?_); rintro e w' ⟨rfl, ⟨nd, rfl⟩⟩) | ((with_reducible refine gc 12 rfl ?_); refine gL 65 Tryd.func12 #[.slice A0 l0.length c0] rfl (by first | rfl | (simp only [mA, mC, mN]; rfl)) ?_; (with_reducible refine (spec_DrawDistanceOf.calls k _ _ l0 n2 r2 x y _ (Kd.C_below HR0.out (BU HB)) HC0.out S4.out).mono ?_); rintro e w1 ⟨v4, rfl, ho0, hb⟩; refine ⟨_, rfl, ?_⟩; have HH := Fa.mk (Kd.R_mono (ok' := fun _ => True) (Kd.R_lower ho0 (below_size (BU HB))) (fun _ _ => trivial)); clear ho0; replace HG := Fa.mk (Kd.R_below (rU HG) hb); replace HD := Fa.mk (Kd.R_below (rU HD) hb); replace Bg1 := Fa.mk (blk_below (bU Bg1) hb); replace HB := Fa.mk (below_step (BU HB) hb); clear hb; clear HX) | ((with_reducible refine gd 9 rfl ?_); refine box_event ?hg (N := 9) ?hd (cs := #[.int .i64 0, .slice none 0 0]) (t := 26) ?hr ?_; (case hd => rfl); (case hg => rfl); (case hr => first | (go_simp; done) | (go_simp; rfl)); intro g2 hg w1 hbox hb; have Gg2 := Fa.mk (bsz hg (BU HB) : w.heap.size ≤ g2); have Ng1_g2 := Fa.mk ((by rw [hg]; exact Nat.ne_of_lt (blk_lt (bU Bg1)) : g1 ≠ g2)); have Ng2_g1 := Fa.mk (Ne.symm Ng1_g2.out); replace HG := Fa.mk (Kd.R_below (rU HG) hb); replace HD := Fa.mk (Kd.R_below (rU HD) hb); replace HH := Fa.mk (Kd.R_below (rU HH) hb); replace Bg1 := Fa.mk (blk_below (bU Bg1) hb); replace HB := Fa.mk (below_step (BU HB) hb); clear hb; have Bg2 := Fa.mk hbox; clear hbox hg; have hnb_Bg1 := Ng2_g1.out; have hnc_Bg1 := Ng1_g2.out; obtain ⟨hz0, hz1, hz2, hz3⟩ := cz2 Bg2.out; obtain ⟨Aq2, cq2, eq2⟩ := Kd.R_slice HH.out; subst eq2) | ((with_reducible refine gc 13 rfl ?_); refine gL 73 Tryd.func13 #[.agg #[.int .i64 n2, .slice Aq2 r2.length cq2], .int .i64 x, .int .i64 y] rfl (by first | rfl | (simp only [mA, mC, mN]; rfl)) ?_; (with_reducible refine (impl_DistanceOf.calls k n2 _ _ r2 x y di e2 _ (rC HH) ((Kd.R_reads' HH.out).2.1) (Tab.below HT.out (BU HB)) S5.out).mono ?_); rintro e w1 ⟨rfl, hb⟩; refine ⟨_, rfl, ?_⟩; replace HG := Fa.mk (Kd.R_below (rU HG) hb); replace HD := Fa.mk (Kd.R_below (rU HD) hb); replace HH := Fa.mk (Kd.R_below (rU HH) hb); replace Bg1 := Fa.mk (blk_below (bU Bg1) hb); replace Bg2 := Fa.mk (blk_below (g := g2) (o := .cells #[.int .i64 n2, .slice Aq2 r2.length cq2] 26 (0, 0)) oo hb); replace HB := Fa.mk (below_step (BU HB) hb); clear hb; obtain ⟨hz0, hz1, hz2, hz3⟩ := cz2 Bg2.out) | ((with_reducible refine gc 14 rfl ?_); refine gL 80 Tryd.func14 #[.agg #[.int .i64 n2, .slice Aq2 r2.length cq2], .int .i64 x, .int .i64 y] rfl (by first | rfl | (simp only [mA, mC, mN]; rfl)) ?_; (with_reducible refine (spec_DistanceOf.calls k n2 _ _ r2 x y di e2 _ (rC HH) ((Kd.R_reads' HH.out).2.1) S6.out).mono ?_); rintro e w1 ⟨rfl, hb⟩; refine ⟨_, rfl, ?_⟩; replace HG := Fa.mk (Kd.R_below (rU HG) hb); replace HD := Fa.mk (Kd.R_below (rU HD) hb); replace HH := Fa.mk (Kd.R_below (rU HH) hb); replace Bg1 := Fa.mk (blk_below (bU Bg1) hb); replace Bg2 := Fa.mk (blk_below (bU Bg2) hb); replace HB := Fa.mk (below_step (BU HB) hb); clear hb; obtain ⟨hz0, hz1, hz2, hz3⟩ := cz2 Bg1.out))
    go_upto_region 15 with (first | ((with_reducible refine gc 15 rfl ?_); refine gL 94 Tryd.func15 #[.agg #[.int .i64 n, .slice Aq1 rr.length cq1], .int .i64 v] rfl (by first | rfl | (simp only [mA, mC, mN]; rfl)) ?_; (with_reducible refine (impl_LevelsFrom.calls k n _ _ rr v le e3 _ (rC HG) ((Kd.R_reads' HG.out).2.1) (Tab.below HT.out (BU HB)) S7.out).mono ?_); rintro e w1 ⟨v5, rfl, ho0, hb⟩; refine ⟨_, rfl, ?_⟩; have HL := Fa.mk (Kd.R_mono (ok' := fun _ => True) (Kd.R_lower ho0 (below_size (BU HB))) (fun _ _ => trivial)); clear ho0; replace HG := Fa.mk (Kd.R_below (rU HG) hb); replace HD := Fa.mk (Kd.R_below (rU HD) hb); replace HH := Fa.mk (Kd.R_below (rU HH) hb); replace Bg1 := Fa.mk (blk_below (bU Bg1) hb); replace Bg2 := Fa.mk (blk_below (bU Bg2) hb); replace HB := Fa.mk (below_step (BU HB) hb); clear hb; obtain ⟨hz0, hz1, hz2, hz3⟩ := cz2 Bg1.out) | ((with_reducible refine gc 16 rfl ?_); refine gL 100 Tryd.func16 #[.agg #[.int .i64 n, .slice Aq1 rr.length cq1], .int .i64 v] rfl (by first | rfl | (simp only [mA, mC, mN]; rfl)) ?_; (with_reducible refine (spec_LevelsFrom.calls k n _ _ rr v le e3 _ (rC HG) ((Kd.R_reads' HG.out).2.1) S8.out).mono ?_); rintro e w1 ⟨v6, rfl, ho0, hb⟩; refine ⟨_, rfl, ?_⟩; have HX := Fa.mk (Kd.R_mono (ok' := fun _ => True) (Kd.R_lower ho0 (below_size (BU HB))) (fun _ _ => trivial)); clear ho0; replace HD := Fa.mk (Kd.R_below (rU HD) hb); replace HH := Fa.mk (Kd.R_below (rU HH) hb); replace HL := Fa.mk (Kd.R_below (rU HL) hb); replace Bg2 := Fa.mk (blk_below (bU Bg2) hb); replace HB := Fa.mk (below_step (BU HB) hb); clear hb; clear HG Bg1; obtain ⟨Al1, cl1, el1⟩ := Kd.R_slice HL.out; subst el1; obtain ⟨Ax2, cx2, ex2⟩ := Kd.R_slice HX.out; subst ex2))
    go_upto_region 20 with (first | (go_at_call 11; (with_reducible refine (laws_likeInts.calls k _ _ le _ _ le true _ (rC HL) ((Kd.R_reads' HL.out).2.1) (rC HX) ((Kd.R_reads' HX.out).2.1) L2.out).mono ?_); rintro e w' ⟨rfl, ⟨nd, rfl⟩⟩) | ((with_reducible refine gc 17 rfl ?_); refine gL 113 Tryd.func17 #[.slice A0 l0.length c0] rfl (by first | rfl | (simp only [mA, mC, mN]; rfl)) ?_; (with_reducible refine (spec_DrawDiameterOf.calls k _ _ l0 n3 r3 _ (Kd.C_below HR0.out (BU HB)) HC0.out S9.out).mono ?_); rintro e w1 ⟨v7, rfl, ho0, hb⟩; refine ⟨_, rfl, ?_⟩; have HK := Fa.mk (Kd.R_mono (ok' := fun _ => True) (Kd.R_lower ho0 (below_size (BU HB))) (fun _ _ => trivial)); clear ho0; replace HD := Fa.mk (Kd.R_below (rU HD) hb); replace HH := Fa.mk (Kd.R_below (rU HH) hb); replace HL := Fa.mk (Kd.R_below (rU HL) hb); replace Bg2 := Fa.mk (blk_below (bU Bg2) hb); replace HB := Fa.mk (below_step (BU HB) hb); clear hb; clear HX) | ((with_reducible refine gd 20 rfl ?_); refine box_event ?hg (N := 20) ?hd (cs := #[.int .i64 0, .slice none 0 0]) (t := 26) ?hr ?_; (case hd => rfl); (case hg => rfl); (case hr => first | (go_simp; done) | (go_simp; rfl)); intro g3 hg w1 hbox hb; have Gg3 := Fa.mk (bsz hg (BU HB) : w.heap.size ≤ g3); have Ng2_g3 := Fa.mk ((by rw [hg]; exact Nat.ne_of_lt (blk_lt (bU Bg2)) : g2 ≠ g3)); have Ng3_g2 := Fa.mk (Ne.symm Ng2_g3.out); replace HD := Fa.mk (Kd.R_below (rU HD) hb); replace HH := Fa.mk (Kd.R_below (rU HH) hb); replace HL := Fa.mk (Kd.R_below (rU HL) hb); replace HK := Fa.mk (Kd.R_below (rU HK) hb); replace Bg2 := Fa.mk (blk_below (bU Bg2) hb); replace HB := Fa.mk (below_step (BU HB) hb); clear hb; have Bg3 := Fa.mk hbox; clear hbox hg; have hnb_Bg2 := Ng3_g2.out; have hnc_Bg2 := Ng2_g3.out; obtain ⟨hz0, hz1, hz2, hz3⟩ := cz2 Bg3.out; obtain ⟨Aq3, cq3, eq3⟩ := Kd.R_slice HK.out; subst eq3) | ((with_reducible refine gc 18 rfl ?_); refine gL 116 Tryd.func18 #[.agg #[.int .i64 n3, .slice Aq3 r3.length cq3]] rfl (by first | rfl | (simp only [mA, mC, mN]; rfl)) ?_; (with_reducible refine (impl_DiameterOf.calls k n3 _ _ r3 mo lo e4 _ (rC HK) ((Kd.R_reads' HK.out).2.1) (Tab.below HT.out (BU HB)) S10.out).mono ?_); rintro e w1 ⟨rfl, hb⟩; refine ⟨_, rfl, ?_⟩; replace HD := Fa.mk (Kd.R_below (rU HD) hb); replace HH := Fa.mk (Kd.R_below (rU HH) hb); replace HL := Fa.mk (Kd.R_below (rU HL) hb); replace HK := Fa.mk (Kd.R_below (rU HK) hb); replace Bg2 := Fa.mk (blk_below (bU Bg2) hb); replace Bg3 := Fa.mk (blk_below (g := g3) (o := .cells #[.int .i64 n3, .slice Aq3 r3.length cq3] 26 (0, 0)) oo hb); replace HB := Fa.mk (below_step (BU HB) hb); clear hb; obtain ⟨hz0, hz1, hz2, hz3⟩ := cz2 Bg3.out) | ((with_reducible refine gc 19 rfl ?_); refine gL 122 Tryd.func19 #[.agg #[.int .i64 n3, .slice Aq3 r3.length cq3]] rfl (by first | rfl | (simp only [mA, mC, mN]; rfl)) ?_; (with_reducible refine (spec_DiameterOf.calls k n3 _ _ r3 mo lo e4 _ (rC HK) ((Kd.R_reads' HK.out).2.1) S11.out).mono ?_); rintro e w1 ⟨rfl, hb⟩; refine ⟨_, rfl, ?_⟩; replace HD := Fa.mk (Kd.R_below (rU HD) hb); replace HH := Fa.mk (Kd.R_below (rU HH) hb); replace HL := Fa.mk (Kd.R_below (rU HL) hb); replace HK := Fa.mk (Kd.R_below (rU HK) hb); replace Bg2 := Fa.mk (blk_below (bU Bg2) hb); replace Bg3 := Fa.mk (blk_below (bU Bg3) hb); replace HB := Fa.mk (below_step (BU HB) hb); clear hb; obtain ⟨hz0, hz1, hz2, hz3⟩ := cz2 Bg3.out))
    go_upto_region 24 with (first | ((with_reducible refine gc 20 rfl ?_); refine gL 141 Tryd.func20 #[.agg #[.int .i64 n3, .slice Aq3 r3.length cq3]] rfl (by first | rfl | (simp only [mA, mC, mN]; rfl)) ?_; (with_reducible refine (impl_ReachesOf.calls k n3 _ _ r3 re e5 _ (rC HK) ((Kd.R_reads' HK.out).2.1) (Tab.below HT.out (BU HB)) S12.out).mono ?_); rintro e w1 ⟨v8, rfl, ho0, hb⟩; refine ⟨_, rfl, ?_⟩; have HE := Fa.mk (Kd.R_mono (ok' := fun _ => True) (Kd.R_lower ho0 (below_size (BU HB))) (fun _ _ => trivial)); clear ho0; replace HD := Fa.mk (Kd.R_below (rU HD) hb); replace HH := Fa.mk (Kd.R_below (rU HH) hb); replace HL := Fa.mk (Kd.R_below (rU HL) hb); replace HK := Fa.mk (Kd.R_below (rU HK) hb); replace Bg2 := Fa.mk (blk_below (bU Bg2) hb); replace Bg3 := Fa.mk (blk_below (bU Bg3) hb); replace HB := Fa.mk (below_step (BU HB) hb); clear hb; obtain ⟨hz0, hz1, hz2, hz3⟩ := cz2 Bg3.out) | ((with_reducible refine gc 21 rfl ?_); refine gL 146 Tryd.func21 #[.agg #[.int .i64 n3, .slice Aq3 r3.length cq3]] rfl (by first | rfl | (simp only [mA, mC, mN]; rfl)) ?_; (with_reducible refine (spec_ReachesOf.calls k n3 _ _ r3 re e5 _ (rC HK) ((Kd.R_reads' HK.out).2.1) S13.out).mono ?_); rintro e w1 ⟨v9, rfl, ho0, hb⟩; refine ⟨_, rfl, ?_⟩; have HX := Fa.mk (Kd.R_mono (ok' := fun _ => True) (Kd.R_lower ho0 (below_size (BU HB))) (fun _ _ => trivial)); clear ho0; replace HD := Fa.mk (Kd.R_below (rU HD) hb); replace HH := Fa.mk (Kd.R_below (rU HH) hb); replace HL := Fa.mk (Kd.R_below (rU HL) hb); replace HE := Fa.mk (Kd.R_below (rU HE) hb); replace Bg2 := Fa.mk (blk_below (bU Bg2) hb); replace HB := Fa.mk (below_step (BU HB) hb); clear hb; clear HK Bg3; obtain ⟨Ar1, cr1, er1⟩ := Kd.R_slice HE.out; subst er1; obtain ⟨Ax3, cx3, ex3⟩ := Kd.R_slice HX.out; subst ex3))
    go_upto_region 26 with (first | (go_at_call 11; (with_reducible refine (laws_likeInts.calls k _ _ re _ _ re true _ (rC HE) ((Kd.R_reads' HE.out).2.1) (rC HX) ((Kd.R_reads' HX.out).2.1) L3.out).mono ?_); rintro e w' ⟨rfl, ⟨nd, rfl⟩⟩))
    clear HX
    go_cut [186] (fun v186 wc => v186 = .bool false ∧ Fa (Kd.R (Kd.int .i64) 2 wc w.heap.size (fun _ => True) (.slice Ad1 ds.length cd1) ds) ∧ Fa (Kd.R (Kd.int .i64) 2 wc w.heap.size (fun _ => True) (.slice Aq2 r2.length cq2) r2) ∧ Fa (Kd.R (Kd.int .i64) 2 wc w.heap.size (fun _ => True) (.slice Al1 le.length cl1) le) ∧ Fa (wc.heap[g2]? = some (.cells #[.int .i64 n2, .slice Aq2 r2.length cq2] 26 (0, 0))) ∧ Fa (Below w.heap.size w wc))
    case first =>
      by_cases t : e4 = 0
      · obtain ⟨u1, u2, u3, u4, u5, u6, u7⟩ := VD.out t
        subst u1
        have c1 : (e4 == 0) = true := beq_iff_eq.mpr t
        have c2 : ((0 : Int) != 0) = false := by simp
        have c3 : decide (lo > mo) = false := decide_eq_false (by omega)
        have c4 : decide (mo > wrap64 (2 * lo)) = false := by rw [w64 (by omega) (by omega)]; exact decide_eq_false (by omega)
        have T1 := Fa.mk u6
        have T2 := Fa.mk u7
        clear t u2 u3 u4 u5 u6 u7
        go_wp2_with (first | (go_at_call 22; (with_reducible refine (laws_hasInt.calls k _ _ re mo true _ (rC HE) ((Kd.R_reads' HE.out).2.1) T1.out).mono ?_); rintro e w' ⟨rfl, ⟨nd, rfl⟩⟩) | (go_at_call 22; (with_reducible refine (laws_hasInt.calls k _ _ re lo true _ (rC HE) ((Kd.R_reads' HE.out).2.1) T2.out).mono ?_); rintro e w' ⟨rfl, ⟨nd, rfl⟩⟩))
        go_meet
        case rel => exact ⟨rfl, ⟨rU HD⟩, ⟨rU HH⟩, ⟨rU HL⟩, ⟨bU Bg2⟩, ⟨BU HB⟩⟩
      · have c1 : (e4 == 0) = false := beq_eq_false_iff_ne.mpr t
        clear t
        go_wp2
        go_meet
        case rel => exact ⟨rfl, ⟨rU HD⟩, ⟨rU HH⟩, ⟨rU HL⟩, ⟨bU Bg2⟩, ⟨BU HB⟩⟩
    case rest =>
      clear HD HH HL HE Bg2 HB VD
      obtain ⟨rfl, HD, HH, HL, Bg2, HB⟩ := hcut
      go_upto_if 188 with (fail)
      go_cut [] (fun wc => Fa (Kd.R (Kd.int .i64) 2 wc w.heap.size (fun _ => True) (.slice Ad1 ds.length cd1) ds) ∧ Fa (Kd.R (Kd.int .i64) 2 wc w.heap.size (fun _ => True) (.slice Al1 le.length cl1) le) ∧ Fa (Below w.heap.size w wc))
      case first =>
        by_cases t : e2 = 0
        · obtain ⟨u1, u2⟩ := VB.out t
          have S14 := Fa.mk u1
          have c1 : (e2 == 0) = true := beq_iff_eq.mpr t
          have c2 : ((0 : Int) != 0) = false := by simp
          have u3 : ((di == 0) == (x == y)) = true := by simpa using u2
          have u4 : decide ((di == 0) = (x == y)) = true := by simpa using u2
          clear t u1
          obtain ⟨hz0, hz1, hz2, hz3⟩ := cz2 Bg2.out
          (first | rw [c1] | (simp only [i64_w, i32_w]; rw [c1]) | skip)
          go_wp2_with (first | ((with_reducible refine gc 13 rfl ?_); refine gL 193 Tryd.func13 #[.agg #[.int .i64 n2, .slice Aq2 r2.length cq2], .int .i64 y, .int .i64 x] rfl (by first | rfl | (simp only [mA, mC, mN]; rfl)) ?_; (with_reducible refine (impl_DistanceOf.calls k n2 _ _ r2 y x di 0 _ (rC HH) ((Kd.R_reads' HH.out).2.1) (Tab.below HT.out (BU HB)) S14.out).mono ?_); rintro e w1 ⟨rfl, hb⟩; refine ⟨_, rfl, ?_⟩; replace HD := Fa.mk (Kd.R_below (rU HD) hb); replace HH := Fa.mk (Kd.R_below (rU HH) hb); replace HL := Fa.mk (Kd.R_below (rU HL) hb); replace Bg2 := Fa.mk (blk_below (bU Bg2) hb); replace HB := Fa.mk (below_step (BU HB) hb); clear hb))
          go_meet
          case rel => exact ⟨⟨rU HD⟩, ⟨rU HL⟩, ⟨BU HB⟩⟩
        · have c1 : (e2 == 0) = false := beq_eq_false_iff_ne.mpr t
          clear t
          (first | rw [c1] | (simp only [i64_w, i32_w]; rw [c1]) | skip)
          go_wp2
          go_meet
          case rel => exact ⟨⟨rU HD⟩, ⟨rU HL⟩, ⟨BU HB⟩⟩
      case rest =>
        clear HD HH HL Bg2 HB VB
        obtain ⟨HD, HL, HB⟩ := hcut
        rcases VE.out with ⟨a1, a2, a3⟩ | ⟨a1, a2, a3, a4, a5⟩
        · subst a2 a3
          have c1 : (e3 != 0) = true := bne_iff_ne.mpr a1
          have c2 : (e3 == e3) = true := by simp
          have c3 : (((([] : List Int).length : Nat) : Int) == 0) = true := by simp
          go_wp2
          go_ret
          exact ⟨by first | rfl | simp, BU HB⟩
        · subst a1 a2
          have c2 : ((0 : Int) != 0) = false := by simp
          have SU := Fa.mk a3
          have Z4 := Fa.mk a4
          have Z5 := Fa.mk a5
          clear a3 a4 a5 VE
          go_wp2
          go_loopg [33, 34] ds.length (fun kq v33 v34 w' => ∃ (i : Nat) (cn xi : Int), v33 = .int .i64 cn ∧ v34 = .int .i64 xi ∧ Fa (cn = ((posR ds i : Nat) : Int) ∧ xi = (i : Int) ∧ i + kq = ds.length) ∧ Fa (Kd.R (Kd.int .i64) 2 w' w.heap.size (fun _ => True) (.slice Ad1 ds.length cd1) ds) ∧ Fa (Kd.R (Kd.int .i64) 2 w' w.heap.size (fun _ => True) (.slice Al1 le.length cl1) le) ∧ Fa (Below w.heap.size w w'))
          case atStart => exact ⟨0, 0, 0, rfl, rfl, ⟨rfl, rfl, by omega⟩, ⟨rU HD⟩, ⟨rU HL⟩, ⟨BU HB⟩⟩
          case round =>
            clear HD HL HB
            obtain ⟨i, cn, xi, rfl, rfl, HI, HD, HL, HB⟩ := hrel
            have hp := posR_le ds i
            have hl := VL.out
            obtain ⟨hc, hx, hi⟩ := HI.out
            cases gk with
            | zero =>
              obtain rfl : i = ds.length := by omega
              have c3 : decide (xi < (ds.length : Int)) = false := decide_eq_false (by omega)
              have c4 : (((posR ds ds.length : Nat) : Int) == cn) = true := beq_iff_eq.mpr hc.symm
              have c5 : ((0 : Int) == 0) = true := by simp
              have c6 : (rd le 0 == 1) = true := beq_iff_eq.mpr Z5.out
              have c7 : decide (0 < (le.length : Int)) = true := decide_eq_true (by have := Z4.out; omega)
              have c8 : decide (0 < le.length) = true := decide_eq_true Z4.out
              clear hi hp hl hc hx HI
              go_wp2_with (first | (go_at_call 23; (with_reducible refine (laws_sum.calls k _ _ le ((posR ds ds.length : Nat) : Int) _ (rC HL) ((Kd.R_reads' HL.out).2.1) SU.out).mono ?_); rintro e w' ⟨rfl, ⟨nd, rfl⟩⟩; have p8 : 0 ≤ (0 : Int) := (by omega); have q8 : 0 < (le.length : Int) := of_decide_eq_true (by assumption); obtain ⟨ad8, e8, hx8⟩ := Kd.at_int (Kd.R_reads' HL.out).2.2 0 p8 q8; cases e8; have qi8 : (0 < le.length) = True := eq_true (by omega); (try rw [show ((0 : Int)).toNat = 0 from rfl] at hx8); (try rw [Addr.add_zero'] at hx8); replace p8 := eq_true p8; replace q8 := eq_true q8))
              go_ret
              exact ⟨by first | rfl | simp [*], BU HB⟩
            | succ k8 =>
              have c3 : decide (xi < (ds.length : Int)) = true := decide_eq_true (by omega)
              have p8 : 0 ≤ xi := by omega
              have q8 : xi < (ds.length : Int) := by omega
              obtain ⟨ad8, e8, hx8⟩ := Kd.at_int (Kd.R_reads' HD.out).2.2 xi p8 q8
              cases e8
              have hw : wrap64 (xi + 1) = ((i + 1 : Nat) : Int) := by rw [w64 (by omega) (by omega), hx]; rfl
              have hq : posR ds (i + 1) = posR ds i + (if 0 ≤ rd ds (i : Int) then 1 else 0) := rfl
              rw [← hx] at hq
              by_cases t : 0 ≤ rd ds xi
              · have c4 : decide (rd ds xi ≥ 0) = true := decide_eq_true t
                rw [if_pos t] at hq
                have hv : wrap64 (cn + 1) = ((posR ds (i + 1) : Nat) : Int) := by rw [w64 (by omega) (by omega), hq, hc]; rfl
                have HI2 := Fa.mk (show i + 1 + k8 = ds.length by omega)
                clear hi hp hl t hq hc hx HI
                replace p8 := eq_true p8
                replace q8 := eq_true q8
                go_wp2
                go_roundg k8
                case measure => omega
                case rel => exact ⟨i + 1, _, _, rfl, rfl, ⟨by first | exact hv | rfl | omega, by first | exact hw | rfl | omega, HI2.out⟩, ⟨rU HD⟩, ⟨rU HL⟩, ⟨BU HB⟩⟩
              · have c4 : decide (rd ds xi ≥ 0) = false := decide_eq_false t
                rw [if_neg t] at hq
                have hv : cn = ((posR ds (i + 1) : Nat) : Int) := by rw [hq]; exact hc
                have HI2 := Fa.mk (show i + 1 + k8 = ds.length by omega)
                clear hi hp hl t hc hx HI
                replace p8 := eq_true p8
                replace q8 := eq_true q8
                go_wp2
                go_roundg k8
                case measure => omega
                case rel => exact ⟨i + 1, _, _, rfl, rfl, ⟨by first | exact hv | rfl | omega, by first | exact hw | rfl | omega, HI2.out⟩, ⟨rU HD⟩, ⟨rU HL⟩, ⟨BU HB⟩⟩
end Go.Proofs.YtockngphfpedkaaDoor.XFnDistances
