/- What the functions that FnDistances reaches compute. -/
import Derived.Test.YtockngphfpedkaaDoorLFnDistancesp1
import Derived.Test.YtockngphfpedkaaDoorGr
namespace Go.Proofs.YtockngphfpedkaaDoor.XFnDistances
open Go.RowKit Go.Proofs.YtockngphfpedkaaDoorW.PrintWords Go.Proofs.YtockngphfpedkaaDoorW.PrintLast Go.Proofs.YtockngphfpedkaaDoor.B
open Classical
set_option linter.unusedVariables false
set_option linter.unusedSimpArgs false
set_option linter.unusedSectionVars false

theorem spec_l01DrawRegular.ok_j {s0 : List Int} (b : Bts s0) {n : Int} {rows : List Int} (g : Gd n rows) {s1 : Int} (s2 : Int) (hs : InS s0 s1) :
    ∃ r t1 t2, Ev (fun q => spec_l01DrawRegular.j0 q s0 s1 s2 n rows) (n, r, t1, t2) ∧ Gd n r ∧ InS s0 t1 := by
  obtain ⟨v, t1, t2, e, i1, _, _⟩ := spec_l01Next.ok s2 2 b hs
  by_cases c : v = 0
  · obtain ⟨l, u1, u2, hl, p1, p2, p3⟩ := spec_l01DrawOrder.ok b g.1 g.2.1 t2 i1
    obtain ⟨r, hr, gr⟩ := spec_l01Renamed.ok g p1 p2
    refine ⟨r, u1, u2, Ev.step (fun k => spec_l01DrawRegular.j0.eq_2 ..) ?_, gr, p3⟩
    rw [e]
    simp only [Option.bind_some, if_pos c]
    exact Ev.bind hl (Ev.bind hr (Ev.now _))
  · refine ⟨rows, t1, t2, Ev.step (fun k => spec_l01DrawRegular.j0.eq_2 ..) ?_, g, i1⟩
    rw [e]
    simp only [Option.bind_some, if_neg c]
    exact Ev.now _
theorem spec_l01DrawRegular.ok {s0 : List Int} (b : Bts s0) {s1 : Int} (s2 : Int) (hs : InS s0 s1) : ∃ n r t1 t2, Ev (fun q => spec_l01DrawRegular.f q s0 s1 s2) (n, r, t1, t2) ∧ Gd n r ∧ InS s0 t1 := by
  obtain ⟨L, eL, lL, hL⟩ := spec_l01Names.sp
  obtain ⟨v1, a1, a2, e1, i1, m1⟩ := spec_l01Pick.ok (s1 := s1) s2 (l := ([6, 13, 15] : List Int)) b hs (by simp)
  obtain ⟨v2, b1, b2, e2, i2, p2, q2⟩ := spec_l01Next.ok a2 v1 b i1
  have hv1 : 1 ≤ v1 ∧ v1 ≤ 15 := by simp at m1; omega
  have hv2 := q2 hv1.1
  obtain ⟨j, rfl⟩ := Int.eq_ofNat_of_zero_le p2
  obtain ⟨n, r, bo, hn, gn⟩ := hL j (by omega)
  obtain ⟨v3, c1, c2, e3, i3, p3, q3⟩ := spec_l01Next.ok b2 3 b i2
  obtain ⟨v4, d1, d2, e4, i4, p4, q4⟩ := spec_l01Next.ok c2 14 b i3
  have hv4 := q4 (by omega)
  have w1 : wrap64 (3 + v4) = 3 + v4 := w64 (by omega) (by omega)
  have w2 : wrap64 (3 + v4 - 1) = 3 + v4 - 1 := w64 (by omega) (by omega)
  obtain ⟨v5, f1, f2, e5, i5, p5, q5⟩ := spec_l01Next.ok d2 2 b i4
  obtain ⟨v6, g1, g2, e6, i6, p6, q6⟩ := spec_l01Next.ok f2 (3 + v4 - 1) b i5
  have hv6 := q6 (by omega)
  have w3 : wrap64 (1 + v6) = 1 + v6 := w64 (by omega) (by omega)
  have head : ∀ {R : Int × List Int × Int × Int}, Ev (fun q => (if v3 = 0 then ((spec_l01Next.f s0 c1 c2 14).bind fun bt339 => ((spec_l01Jumps.f q (wrap64 (3 + bt339.1)) ([] : List Int)).bind fun bt342 => ((spec_l01Next.f s0 bt339.2.1 bt339.2.2 2).bind fun bt346 => (if bt346.1 = 0 then ((spec_l01Next.f s0 bt346.2.1 bt346.2.2 (wrap64 ((wrap64 (3 + bt339.1)) - 1))).bind fun bt349 => ((spec_l01Jumps.f q (wrap64 (3 + bt339.1)) (([wrap64 (1 + bt349.1)] : List Int))).bind fun bt355 => (spec_l01DrawRegular.j0 q s0 bt349.2.1 bt349.2.2 bt355.1 bt355.2))) else (spec_l01DrawRegular.j0 q s0 bt346.2.1 bt346.2.2 bt342.1 bt342.2))))) else (spec_l01DrawRegular.j0 q s0 c1 c2 n r))) R → Ev (fun q => spec_l01DrawRegular.f q s0 s1 s2) R := by
    intro R h
    unfold spec_l01DrawRegular.f
    rw [eL]
    simp only [Option.bind_some]
    rw [e1]
    simp only [Option.bind_some]
    rw [e2]
    simp only [Option.bind_some, if_pos p2, if_pos (show ((j : Nat) : Int) < (L.length : Int) by rw [lL]; omega)]
    refine Ev.bind hn ?_
    simp only
    rw [e3]
    simp only [Option.bind_some]
    exact h
  by_cases c3 : v3 = 0
  · obtain ⟨r1, hr1, k1⟩ := spec_l01Jumps.ok (n := 3 + v4) (by omega) (by omega) (l := ([] : List Int)) (fun x m => by cases m) (by simp)
    by_cases c5 : v5 = 0
    · obtain ⟨r2, hr2, k2⟩ := spec_l01Jumps.ok (n := 3 + v4) (by omega) (by omega) (l := ([1 + v6] : List Int)) (fun x m => by rw [List.mem_singleton] at m; omega) (by simp)
      obtain ⟨r3, u1, u2, h3, k3, k4⟩ := spec_l01DrawRegular.ok_j b k2 g2 i6
      refine ⟨_, r3, u1, u2, head ?_, k3, k4⟩
      simp only [if_pos c3]
      rw [e4]
      simp only [Option.bind_some]
      rw [w1]
      refine Ev.bind hr1 ?_
      rw [e5]
      simp only [Option.bind_some, if_pos c5]
      rw [w2, e6]
      simp only [Option.bind_some]
      rw [w3]
      exact Ev.bind hr2 h3
    · obtain ⟨r3, u1, u2, h3, k3, k4⟩ := spec_l01DrawRegular.ok_j b k1 f2 i5
      refine ⟨_, r3, u1, u2, head ?_, k3, k4⟩
      simp only [if_pos c3]
      rw [e4]
      simp only [Option.bind_some]
      rw [w1]
      refine Ev.bind hr1 ?_
      rw [e5]
      simp only [Option.bind_some, if_neg c5]
      exact h3
  · obtain ⟨r3, u1, u2, h3, k3, k4⟩ := spec_l01DrawRegular.ok_j b gn c2 i3
    refine ⟨n, r3, u1, u2, head ?_, k3, k4⟩
    simp only [if_neg c3]
    exact h3
theorem spec_l01DrawOf.ok_1 {s0 : List Int} (b : Bts s0) {n few : Int} (h2 : n ≤ 62) {v : Nat} (hv : (v : Int) < n)
    (next : ∀ out s1 s2, Gd n out → InS s0 s1 → ∃ r t1 t2, Ev (fun q => spec_l01DrawOf.l0 q n few ((v + 1 : Nat) : Int) s0 s1 s2 n out) (n, r, t1, t2) ∧ Gd n r ∧ InS s0 t1) (d : Nat) :
    ∀ (u : Nat) (out : List Int) (s1 s2 : Int), u + d = v → Gd n out → InS s0 s1 → ∃ r t1 t2, Ev (fun q => spec_l01DrawOf.l1 q n few (v : Int) (u : Int) s0 s1 s2 n out) (n, r, t1, t2) ∧ Gd n r ∧ InS s0 t1 := by
  induction d with
  | zero =>
    intro u out s1 s2 h g hs
    obtain ⟨r, t1, t2, hr, gr, hi⟩ := next out s1 s2 g hs
    refine ⟨r, t1, t2, Ev.step (fun k => spec_l01DrawOf.l1.eq_2 ..) ?_, gr, hi⟩
    simp only [if_neg (show ¬ ((u : Int) < (v : Int)) by omega)]
    rw [show wrap64 ((v : Int) + 1) = ((v + 1 : Nat) : Int) by rw [w64 (by omega) (by omega)]; rfl]
    exact hr
  | succ d ih =>
    intro u out s1 s2 h g hs
    obtain ⟨x, t1, t2, e, i1, _, _⟩ := spec_l01Next.ok s2 n b hs
    have hu : wrap64 ((u : Int) + 1) = ((u + 1 : Nat) : Int) := by rw [w64 (by omega) (by omega)]; rfl
    by_cases c : x < few
    · obtain ⟨e2, g'⟩ := g.put (v : Int) (u : Int) (by omega) hv (by omega) (by omega)
      obtain ⟨r, a1, a2, hr, gr, hi⟩ := ih (u + 1) _ t1 t2 (by omega) g' i1
      refine ⟨r, a1, a2, Ev.step (fun k => spec_l01DrawOf.l1.eq_2 ..) ?_, gr, hi⟩
      rw [e, hu]
      simp only [if_pos (show (u : Int) < (v : Int) by omega), Option.bind_some, if_pos c]
      rw [e2]
      simp only [Option.bind_some]
      exact hr
    · obtain ⟨r, a1, a2, hr, gr, hi⟩ := ih (u + 1) _ t1 t2 (by omega) g i1
      refine ⟨r, a1, a2, Ev.step (fun k => spec_l01DrawOf.l1.eq_2 ..) ?_, gr, hi⟩
      rw [e, hu]
      simp only [if_pos (show (u : Int) < (v : Int) by omega), Option.bind_some, if_neg c]
      exact hr
theorem spec_l01DrawOf.ok_0 {s0 : List Int} (b : Bts s0) {n few : Int} (h2 : n ≤ 62) (d : Nat) : ∀ (v : Nat) (out : List Int) (s1 s2 : Int), (v : Int) + d = n → Gd n out → InS s0 s1 →
    ∃ r t1 t2, Ev (fun q => spec_l01DrawOf.l0 q n few (v : Int) s0 s1 s2 n out) (n, r, t1, t2) ∧ Gd n r ∧ InS s0 t1 := by
  induction d with
  | zero =>
    intro v out s1 s2 h g hs
    refine ⟨out, s1, s2, Ev.step (fun k => spec_l01DrawOf.l0.eq_2 ..) ?_, g, hs⟩
    simp only [if_neg (show ¬ ((v : Int) < n) by omega)]
    exact Ev.now _
  | succ d ih =>
    intro v out s1 s2 h g hs
    obtain ⟨r, t1, t2, hr, gr, hi⟩ := spec_l01DrawOf.ok_1 b (few := few) h2 (v := v) (by omega) (fun o a1 a2 go io => ih (v + 1) o a1 a2 (by omega) go io) v 0 out s1 s2 (by omega) g hs
    refine ⟨r, t1, t2, Ev.step (fun k => spec_l01DrawOf.l0.eq_2 ..) ?_, gr, hi⟩
    simp only [if_pos (show (v : Int) < n by omega)]
    exact hr
theorem spec_l01DrawOf.ok {s0 : List Int} (b : Bts s0) {n : Int} (h1 : 1 ≤ n) (h2 : n ≤ 62) {s1 : Int} (s2 : Int) (hs : InS s0 s1) : ∃ r t1 t2, Ev (fun q => spec_l01DrawOf.f q s0 s1 s2 n) (n, r, t1, t2) ∧ Gd n r ∧ InS s0 t1 := by
  obtain ⟨v, a1, a2, e, i1, _⟩ := spec_l01Pick.ok (s1 := s1) s2 (l := ([1, 2, 3, 4, n] : List Int)) b hs (by simp)
  obtain ⟨r, t1, t2, hr, gr, hi⟩ := spec_l01DrawOf.ok_0 b (few := v) h2 n.toNat 0 _ a1 a2 (by omega) (Gd.empty h1 h2) i1
  refine ⟨r, t1, t2, ?_, gr, hi⟩
  unfold spec_l01DrawOf.f
  rw [spec_l01Empty.sp n (by omega) (by omega)]
  simp only [Option.bind_some]
  rw [e]
  simp only [Option.bind_some]
  exact hr
theorem spec_l01Draw.ok {s0 : List Int} (b : Bts s0) {s1 : Int} (s2 : Int) (hs : InS s0 s1) : ∃ n r t1 t2, Ev (fun q => spec_l01Draw.f q s0 s1 s2) (n, r, t1, t2) ∧ Gd n r ∧ InS s0 t1 := by
  obtain ⟨v1, a1, a2, e1, i1, _, _⟩ := spec_l01Next.ok s2 4 b hs
  by_cases c1 : v1 = 0
  · obtain ⟨n, r, t1, t2, hr, g, hi⟩ := spec_l01DrawRegular.ok b a2 i1
    refine ⟨n, r, t1, t2, ?_, g, hi⟩
    unfold spec_l01Draw.f
    rw [e1]
    simp only [Option.bind_some, if_pos c1]
    exact Ev.bind hr (Ev.now _)
  · by_cases c2 : v1 = 1
    · obtain ⟨v2, b1, b2, e2, i2, m2⟩ := spec_l01Pick.ok (s1 := a1) a2 (l := ([1, 10, 20, 40, 61, 62] : List Int)) b i1 (by simp)
      have hv2 : 1 ≤ v2 ∧ v2 ≤ 62 := by simp at m2; omega
      obtain ⟨r, t1, t2, hr, g, hi⟩ := spec_l01DrawOf.ok b hv2.1 hv2.2 b2 i2
      refine ⟨v2, r, t1, t2, ?_, g, hi⟩
      unfold spec_l01Draw.f
      rw [e1]
      simp only [Option.bind_some, if_neg c1, if_pos c2]
      rw [e2]
      simp only [Option.bind_some]
      exact Ev.bind hr (Ev.now _)
    · obtain ⟨v2, b1, b2, e2, i2, p2, q2⟩ := spec_l01Next.ok a2 14 b i1
      have hv2 := q2 (by omega)
      obtain ⟨r, t1, t2, hr, g, hi⟩ := spec_l01DrawOf.ok b (n := 1 + v2) (by omega) (by omega) b2 i2
      refine ⟨_, r, t1, t2, ?_, g, hi⟩
      unfold spec_l01Draw.f
      rw [e1]
      simp only [Option.bind_some, if_neg c1, if_neg c2]
      rw [e2]
      simp only [Option.bind_some]
      rw [w64 (n := 1 + v2) (by omega) (by omega)]
      exact Ev.bind hr (Ev.now _)
theorem spec_l01Bad.ok {s0 : List Int} (b : Bts s0) {n : Int} {rows : List Int} (g : Gd n rows) {s1 : Int} (s2 : Int) (hs : InS s0 s1) : ∃ m r t1 t2, spec_l01Bad.f s0 s1 s2 n rows = some (m, r, t1, t2) ∧ InS s0 t1 := by
  obtain ⟨g1, g2, g3⟩ := g
  obtain ⟨v1, a1, a2, e1, i1, _, _⟩ := spec_l01Next.ok s2 50 b hs
  unfold spec_l01Bad.f
  rw [spec_l01Own.sp (by omega)]
  simp only [Option.bind_some]
  rw [e1]
  simp only [Option.bind_some]
  by_cases c0 : v1 = 0
  · obtain ⟨v2, b1, b2, e2, i2, m2⟩ := spec_l01Pick.ok (s1 := a1) a2 (l := ([0, 63, (-1), wrap64 (n + 1)] : List Int)) b i1 (by simp)
    rw [if_pos c0, e2]
    simp only [Option.bind_some]
    exact ⟨_, _, _, _, rfl, i2⟩
  · rw [if_neg c0]
    by_cases c1 : v1 = 1
    · obtain ⟨v2, b1, b2, e2, i2, p2, q2⟩ := spec_l01Next.ok a2 n b i1
      have hv2 := q2 g1
      obtain ⟨v3, d1, d2, e3, i3, m3⟩ := spec_l01Pick.ok (s1 := b1) b2 (l := ([(-1), 1, 2, 4611686018427387904, shl .i64 1 (IntKind.u64.wrap (n))] : List Int)) b i2 (by simp)
      rw [if_pos c1, e2]
      simp only [Option.bind_some]
      rw [if_pos (show 0 ≤ IntKind.u64.wrap n by rw [u64 (by omega) (by omega)]; omega), e3]
      simp only [Option.bind_some]
      rw [if_pos p2, if_pos (by omega)]
      exact ⟨_, _, _, _, rfl, i3⟩
    · rw [if_neg c1]
      by_cases c2 : v1 = 2
      · rw [if_pos c2, if_pos (by omega)]
        exact ⟨_, _, _, _, rfl, i1⟩
      · rw [if_neg c2]
        exact ⟨_, _, _, _, rfl, i1⟩
theorem spec_l01Spoil.ok {s0 : List Int} (b : Bts s0) {s1 : Int} (s2 : Int) (hs : InS s0 s1) : ∃ n r t1 t2, Ev (fun q => spec_l01Spoil.f q s0 s1 s2) (n, r, t1, t2) ∧ InS s0 t1 := by
  obtain ⟨n, r, a1, a2, hr, g, i1⟩ := spec_l01Draw.ok b s2 hs
  obtain ⟨m, r2, t1, t2, e, i2⟩ := spec_l01Bad.ok b g a2 i1
  refine ⟨m, r2, t1, t2, ?_, i2⟩
  unfold spec_l01Spoil.f
  refine Ev.bind hr ?_
  simp only
  rw [e]
  exact Ev.now _
theorem spec_l02Draw.ok {s0 : List Int} (b : Bts s0) {s1 : Int} (s2 : Int) (hs : InS s0 s1) : ∃ n r t1 t2, Ev (fun q => spec_l02Draw.f q s0 s1 s2) (n, r, t1, t2) ∧ InS s0 t1 := by
  obtain ⟨v1, a1, a2, e1, i1, _, _⟩ := spec_l01Next.ok s2 2 b hs
  by_cases c1 : v1 = 0
  · obtain ⟨n, r, t1, t2, hr, g, hi⟩ := spec_l01DrawRegular.ok b a2 i1
    refine ⟨n, r, t1, t2, ?_, hi⟩
    unfold spec_l02Draw.f
    rw [e1]
    simp only [Option.bind_some, if_pos c1]
    exact Ev.bind hr (Ev.now _)
  · obtain ⟨n, r, t1, t2, hr, hi⟩ := spec_l01Spoil.ok b a2 i1
    refine ⟨n, r, t1, t2, ?_, hi⟩
    unfold spec_l02Draw.f
    rw [e1]
    simp only [Option.bind_some, if_neg c1]
    exact Ev.bind hr (Ev.now _)
theorem spec_l01From.ok_l {l : List Int} (hl : l.length ≤ 4096) (d : Nat) : ∀ (i : Nat) (h : Int), i + d = l.length → ∃ z, Ev (fun q => spec_l01From.l0 q l (i : Int) l 0 h) (l, 0, z) := by
  induction d with
  | zero =>
    intro i h e
    refine ⟨h, Ev.step (fun k => spec_l01From.l0.eq_2 ..) ?_⟩
    simp only [if_neg (show ¬ ((i : Int) < (l.length : Int)) by omega)]
    exact Ev.now _
  | succ d ih =>
    intro i h e
    obtain ⟨z, hz⟩ := ih (i + 1) (IntKind.u64.wrap ((IntKind.u64.wrap ((IntKind.u64.wrap (h * 1099511628211)) + (IntKind.u64.wrap (rd l (i : Int))))) + 157)) (by omega)
    refine ⟨z, Ev.step (fun k => spec_l01From.l0.eq_2 ..) ?_⟩
    simp only [if_pos (show (i : Int) < (l.length : Int) by omega), if_pos (show (i : Int) < 4096 by omega), if_pos (show (0 : Int) ≤ (i : Int) by omega)]
    rw [show wrap64 ((i : Int) + 1) = ((i + 1 : Nat) : Int) by rw [w64 (by omega) (by omega)]; rfl]
    exact hz
theorem spec_l01From.ok {l : List Int} (b : Bts l) : ∃ z, Ev (fun q => spec_l01From.f q l) (l, 0, z) := by
  unfold spec_l01From.f
  exact spec_l01From.ok_l b.1 l.length 0 _ (by omega)

theorem spec_l02At.ok {l : List Int} (b : Bts l) : ∃ n r v, Ev (fun q => spec_l02At.f q l) (n, r, v) := by
  obtain ⟨z, hz⟩ := spec_l01From.ok b
  obtain ⟨n, r, a1, a2, hr, i1⟩ := spec_l02Draw.ok b (s1 := 0) z ⟨Int.le_refl _, by omega⟩
  obtain ⟨v1, b1, b2, e1, i2, _, _⟩ := spec_l01Next.ok a2 24 b i1
  obtain ⟨v2, c1, c2, e2, i3, _, _⟩ := spec_l01Next.ok b2 (wrap64 ((mn (mx n 1) 62) + (wrap64 (Int.tdiv v1 23)))) b i2
  refine ⟨n, r, v2, ?_⟩
  unfold spec_l02At.f
  refine Ev.bind hz (Ev.bind hr ?_)
  simp only
  rw [e1]
  simp only [Option.bind_some]
  rw [e2]
  simp only [Option.bind_some]
  exact Ev.now _
theorem spec_DrawDistancesFrom.ok {l : List Int} (b : Bts l) : ∃ n r v, Ev (fun q => spec_DrawDistancesFrom.f q l) (n, r, v) := by
  obtain ⟨n, r, v, h⟩ := spec_l02At.ok b
  refine ⟨n, r, v, ?_⟩
  unfold spec_DrawDistancesFrom.f
  exact Ev.bind h (Ev.now _)
theorem spec_DrawDiameterOf.ok {l : List Int} (b : Bts l) : ∃ n r, Ev (fun q => spec_DrawDiameterOf.f q l) (n, r) := by
  obtain ⟨z, hz⟩ := spec_l01From.ok b
  obtain ⟨n, r, a1, a2, hr, i1⟩ := spec_l02Draw.ok b (s1 := 0) z ⟨Int.le_refl _, by omega⟩
  refine ⟨n, r, ?_⟩
  unfold spec_DrawDiameterOf.f
  exact Ev.bind hz (Ev.bind hr (Ev.now _))
theorem spec_l02Pair.ok_j {s0 : List Int} (b : Bts s0) {n : Int} {rows : List Int} {a c : Int} {t : Bool} {s1 s2 : Int} (hs : InS s0 s1) (ht : t = true → IsG n rows ∧ 0 ≤ a ∧ a < n) :
    ∃ x y u v, Ev (fun q => spec_l02Pair.j0 q a c t s0 s1 s2 n rows) (x, y, u, v) := by
  cases t with
  | false =>
    refine ⟨n, rows, a, c, Ev.step (fun k => spec_l02Pair.j0.eq_2 ..) ?_⟩
    simp only [Bool.false_eq_true, if_false]
    exact Ev.now _
  | true =>
    obtain ⟨g, a0, a1⟩ := ht rfl
    have hle := g.le
    have hlen := g.len
    have hn := spec_l01Neighbours.ev n rows a a0 (by omega) (by omega) (by omega)
    by_cases k0 : (bitsFrom n.toNat 0 (rd rows a)).length = 0
    · refine ⟨n, rows, a, c, Ev.step (fun k => spec_l02Pair.j0.eq_2 ..) ?_⟩
      simp only [if_true]
      refine Ev.bind hn ?_
      simp only [if_neg (show ¬ (((bitsFrom n.toNat 0 (rd rows a)).length : Int) > 0) by omega)]
      exact Ev.now _
    · obtain ⟨v, t1, t2, e, i1, v0, v1⟩ := spec_l01Next.ok s2 ((bitsFrom n.toNat 0 (rd rows a)).length : Int) b hs
      have v2 := v1 (by omega)
      refine ⟨n, rows, a, rd (bitsFrom n.toNat 0 (rd rows a)) v, Ev.step (fun k => spec_l02Pair.j0.eq_2 ..) ?_⟩
      simp only [if_true]
      refine Ev.bind hn ?_
      simp only [if_pos (show ((bitsFrom n.toNat 0 (rd rows a)).length : Int) > 0 by omega)]
      rw [e]
      simp only [Option.bind_some, if_pos v0, if_pos v2]
      exact Ev.now _
theorem spec_l02Pair.ok {l : List Int} (b : Bts l) : ∃ n r u v, Ev (fun q => spec_l02Pair.f q l) (n, r, u, v) := by
  obtain ⟨z, hz⟩ := spec_l01From.ok b
  obtain ⟨n, r, a1, a2, hr, i1⟩ := spec_l02Draw.ok b (s1 := 0) z ⟨Int.le_refl _, by omega⟩
  obtain ⟨v1, b1, b2, e1, i2, p1, q1⟩ := spec_l01Next.ok a2 (mn (mx n 1) 62) b i1
  obtain ⟨v2, c1, c2, e2, i3, _, _⟩ := spec_l01Next.ok b2 24 b i2
  obtain ⟨v3, d1, d2, e3, i4, _, _⟩ := spec_l01Next.ok c2 (wrap64 ((mn (mx n 1) 62) + (wrap64 (Int.tdiv v2 23)))) b i3
  obtain ⟨v4, f1, f2, e4, i5, _, _⟩ := spec_l01Next.ok d2 2 b i4
  have hv1 : IsG n r → v1 < n := fun g => by
    have h1 := g.1
    have h2 := g.2.1
    have hm : mn (mx n 1) 62 = n := by
      unfold mn mx
      rw [if_neg (show ¬ n < 1 by omega), if_neg (show ¬ (62 : Int) < n by omega)]
    rw [hm] at q1
    exact q1 h1
  have head : ∀ {R : Int × List Int × Int × Int}, Ev (fun q => (if decide (IsG n r) = true then ((spec_l01Next.f l d1 d2 2).bind fun bt621 => (spec_l02Pair.j0 q v1 v3 (bt621.1 == 0) l bt621.2.1 bt621.2.2 n r)) else (spec_l02Pair.j0 q v1 v3 false l d1 d2 n r))) R → Ev (fun q => spec_l02Pair.f q l) R := by
    intro R h
    unfold spec_l02Pair.f
    refine Ev.bind hz (Ev.bind hr ?_)
    simp only
    rw [e1]
    simp only [Option.bind_some]
    rw [e2]
    simp only [Option.bind_some]
    rw [e3]
    simp only [Option.bind_some]
    exact Ev.bind (spec_l01Is.ev n r) h
  by_cases g : IsG n r
  · obtain ⟨x, y, u, v, h⟩ := spec_l02Pair.ok_j b (n := n) (rows := r) (a := v1) (c := v3) (t := (v4 == 0)) (s2 := f2) i5 (fun _ => ⟨g, p1, hv1 g⟩)
    refine ⟨x, y, u, v, head ?_⟩
    simp only [decide_eq_true g, if_true]
    rw [e4]
    simp only [Option.bind_some]
    exact h
  · obtain ⟨x, y, u, v, h⟩ := spec_l02Pair.ok_j b (n := n) (rows := r) (a := v1) (c := v3) (t := false) (s2 := d2) i4 (fun h => by cases h)
    refine ⟨x, y, u, v, head ?_⟩
    simp only [decide_eq_false g, Bool.false_eq_true, if_false]
    exact h
theorem spec_DrawDistanceOf.ok {l : List Int} (b : Bts l) : ∃ n r u v, Ev (fun q => spec_DrawDistanceOf.f q l) (n, r, u, v) := by
  obtain ⟨n, r, u, v, h⟩ := spec_l02Pair.ok b
  refine ⟨n, r, u, v, ?_⟩
  unfold spec_DrawDistanceOf.f
  exact Ev.bind h (Ev.now _)

theorem pigeon (n : Nat) : ∀ (d : Nat) (f : Nat → Nat), (∀ e, e ≤ d → f e < n) → (∀ a b, a ≤ d → b ≤ d → f a = f b → a = b) → d < n := by
  induction n with
  | zero => intro d f h _; exact absurd (h 0 (Nat.zero_le _)) (by omega)
  | succ n ih =>
    intro d f h k
    cases d with
    | zero => omega
    | succ d =>
      have := ih d (fun e => if f e = n then f (d + 1) else f e) (fun e he => by
        have a := h e (by omega)
        have b := h (d + 1) (by omega)
        by_cases c : f e = n
        · simp only [if_pos c]
          by_cases x : f (d + 1) = n
          · have := k e (d + 1) (by omega) (by omega) (by rw [c, x]); omega
          · omega
        · simp only [if_neg c]; omega) (fun a b ha hb he => by
        by_cases c : f a = n
        · by_cases x : f b = n
          · exact k a b (by omega) (by omega) (by rw [c, x])
          · simp only [if_pos c, if_neg x] at he
            have := k (d + 1) b (by omega) (by omega) he; omega
        · by_cases x : f b = n
          · simp only [if_neg c, if_pos x] at he
            have := k a (d + 1) (by omega) (by omega) he; omega
          · simp only [if_neg c, if_neg x] at he
            exact k a b (by omega) (by omega) he)
      omega
theorem AtD.uniq {E : Nat → Nat → Prop} {n v d e w : Nat} (h : AtD E n v d w) (k : AtD E n v e w) : d = e := by
  rcases Nat.lt_trichotomy d e with a | a | a
  · exact absurd h.1 (k.2 d a)
  · exact a
  · exact absurd k.1 (h.2 e a)
theorem AtD.bound {E : Nat → Nat → Prop} {n v d w : Nat} (hv : v < n) (h : AtD E n v d w) : d < n := by
  have ex : ∀ e, e ≤ d → ∃ u, AtD E n v e u := fun e he => AtD.down (d := e) (d - e) (w := w) (by rw [show e + (d - e) = d by omega]; exact h)
  refine pigeon n d (fun e => if c : e ≤ d then Classical.choose (ex e c) else 0) (fun e he => ?_) fun a b ha hb he => ?_
  · simp only [dif_pos he]; exact (Classical.choose_spec (ex e he)).1.lt hv
  · simp only [dif_pos ha, dif_pos hb] at he
    have p := Classical.choose_spec (ex a ha)
    have q := Classical.choose_spec (ex b hb)
    rw [he] at p
    exact p.uniq q
theorem distL_bd (E : Nat → Nat → Prop) {n v w : Nat} (hv : v < n) (hw : w < n) : -1 ≤ rd (distL E n v) (w : Int) ∧ rd (distL E n v) (w : Int) < (n : Int) := by
  rcases distL_at E v hw with ⟨a, _⟩ | ⟨d, a, b⟩
  · rw [a]; omega
  · have := b.bound hv
    rw [a]; omega
theorem distL_self (E : Nat → Nat → Prop) {n v : Nat} (hv : v < n) : rd (distL E n v) (v : Int) = 0 :=
  (distL_at E v hv).uniq (.inr ⟨0, rfl, rfl, fun e he => by omega⟩)

/-! ### the greatest of a list -/
/-- x is the greatest of the list's numbers from i to j. -/
def TopOf (l : List Int) (j : Nat) (x : Int) : Prop := (∀ k : Nat, k < j → rd l (k : Int) ≤ x) ∧ ∃ k : Nat, k < j ∧ rd l (k : Int) = x
theorem TopOf.uniq {l : List Int} {j : Nat} {x y : Int} (h : TopOf l j x) (k : TopOf l j y) : x = y := by
  obtain ⟨a, i, b, c⟩ := h
  obtain ⟨d, m, e, f⟩ := k
  have p := d i b
  have q := a m e
  omega
def mxFrom (l : List Int) : Nat → Nat → Int → Int
  | 0, _, x => x
  | d + 1, i, x => mxFrom l d (i + 1) (mx x (rd l (i : Int)))
theorem mxFrom_top (l : List Int) (d : Nat) : ∀ (i : Nat) (x : Int), TopOf l i x → TopOf l (i + d) (mxFrom l d i x) := by
  induction d with
  | zero => intro i x h; exact h
  | succ d ih =>
    intro i x h
    rw [mxFrom, show i + (d + 1) = i + 1 + d by omega]
    refine ih (i + 1) _ ⟨fun k hk => ?_, ?_⟩
    · unfold mx
      rcases Nat.lt_succ_iff_lt_or_eq.1 hk with y | rfl
      · have := h.1 k y
        split <;> omega
      · split <;> omega
    · obtain ⟨_, m, e, f⟩ := h
      unfold mx
      split
      · exact ⟨i, by omega, rfl⟩
      · exact ⟨m, by omega, f⟩
/-- The greatest of a list's numbers. -/
def topV (l : List Int) : Int := mxFrom l (l.length - 1) 1 (rd l 0)
theorem topV_top {l : List Int} (h : 0 < l.length) : TopOf l l.length (topV l) := by
  have := mxFrom_top l (l.length - 1) 1 (rd l 0) ⟨fun k hk => by
    have : k = 0 := by omega
    subst this; exact Int.le_refl _, 0, by omega, rfl⟩
  rw [show 1 + (l.length - 1) = l.length by omega] at this
  exact this
theorem slices_Max_int64_int64.ev_l (l : List Int) (hl : l.length ≤ 1000) (d : Nat) : ∀ (i : Nat) (x : Int), i + d = l.length → Ev (fun q => slices_Max_int64_int64.l0 q l x (i : Int)) (mxFrom l d i x) := by
  induction d with
  | zero =>
    intro i x e
    refine Ev.step (fun k => slices_Max_int64_int64.l0.eq_2 ..) ?_
    simp only [if_neg (show ¬ ((i : Int) < (l.length : Int)) by omega)]
    exact Ev.now _
  | succ d ih =>
    intro i x e
    refine Ev.step (fun k => slices_Max_int64_int64.l0.eq_2 ..) ?_
    simp only [if_pos (show (i : Int) < (l.length : Int) by omega), if_pos (show (0 : Int) ≤ (i : Int) by omega)]
    rw [w64 (by omega) (by omega)]
    exact ih (i + 1) _ (by omega)
theorem slices_Max_int64_int64.ev {l : List Int} (h : 0 < l.length) (hl : l.length ≤ 1000) : Ev (fun q => slices_Max_int64_int64.f q l) (topV l) := by
  unfold slices_Max_int64_int64.f topV
  simp only [if_neg (show ¬ ((l.length : Int) < 1) by omega), if_pos (show (0 : Int) < (l.length : Int) by omega)]
  exact slices_Max_int64_int64.ev_l l hl (l.length - 1) 1 _ (by omega)

/-- How many of the first j numbers are d. -/
def cntR (D : List Int) (d : Int) : Nat → Nat
  | 0 => 0
  | j + 1 => cntR D d j + (if rd D (j : Int) = d then 1 else 0)
theorem cntR_le (D : List Int) (d : Int) (j : Nat) : cntR D d j ≤ j := by
  induction j with
  | zero => exact Nat.le_refl _
  | succ j ih => rw [cntR]; split <;> omega
theorem cntR_zero {D : List Int} {d : Int} {j : Nat} (h : ∀ k : Nat, k < j → rd D (k : Int) < d) : cntR D d j = 0 := by
  induction j with
  | zero => rfl
  | succ j ih =>
    rw [cntR, ih fun k hk => h k (by omega), if_neg (by have := h j (by omega); omega)]
/-- The numbers of the entries 0, 1, .. up to the greatest. -/
def levL (D : List Int) : List Int := (List.range (topV D + 1).toNat).map fun d : Nat => ((cntR D (d : Int) D.length : Nat) : Int)
theorem levL_length (D : List Int) : (levL D).length = (topV D + 1).toNat := by simp [levL]
theorem levL_eq {D out : List Int} (hl : out.length = (topV D + 1).toNat) (h : ∀ d : Nat, d < out.length → rd out (d : Int) = ((cntR D (d : Int) D.length : Nat) : Int)) : out = levL D := by
  refine list_ext_rd (by rw [hl, levL_length]) fun i hi => ?_
  rw [h i hi, rd_get (levL D) i (by rw [levL_length, ← hl]; exact hi)]
  simp [levL]
theorem topV_bd {D : List Int} {lo hi : Int} (h0 : 0 < D.length) (h : ∀ k : Nat, k < D.length → lo ≤ rd D (k : Int) ∧ rd D (k : Int) ≤ hi) : lo ≤ topV D ∧ topV D ≤ hi := by
  obtain ⟨_, k, hk, e⟩ := topV_top h0
  have := h k hk
  omega

/-- The counts of the first j entries. -/
def LInv (D : List Int) (j : Nat) (out : List Int) : Prop :=
  (∀ k : Nat, k < j → rd D (k : Int) < (out.length : Int)) ∧ (out.length = 0 ∨ ∃ k : Nat, k < j ∧ rd D (k : Int) = (out.length : Int) - 1) ∧ ∀ d : Nat, d < out.length → rd out (d : Int) = ((cntR D (d : Int) j : Nat) : Int)
def LMid (D : List Int) (j : Nat) (out : List Int) : Prop :=
  (∀ k : Nat, k < j → rd D (k : Int) < (out.length : Int)) ∧ (out.length = 0 ∨ (∃ k : Nat, k < j ∧ rd D (k : Int) = (out.length : Int) - 1) ∨ (out.length : Int) ≤ rd D (j : Int) + 1) ∧ ∀ d : Nat, d < out.length → rd out (d : Int) = ((cntR D (d : Int) j : Nat) : Int)
theorem spec_l02Levels.ev_1 {D : List Int} (hD : D.length ≤ 62) {j : Nat} (hj : j < D.length) (hb : -1 ≤ rd D (j : Int) ∧ rd D (j : Int) ≤ 62) {R : List Int} (next : ∀ out, LInv D (j + 1) out → Ev (fun q => spec_l02Levels.l0 q D out (((j + 1 : Nat) : Nat) : Int)) R) (e : Nat) :
    ∀ out, rd D (j : Int) + 1 ≤ (out.length : Int) + e → LMid D j out → Ev (fun q => spec_l02Levels.l1 q D out (j : Int)) R := by
  have fin : ∀ out, ¬ ((out.length : Int) ≤ rd D (j : Int)) → LMid D j out → Ev (fun q => spec_l02Levels.l1 q D out (j : Int)) R := fun out c h => by
    obtain ⟨h1, h2, h3⟩ := h
    refine Ev.step (fun k => spec_l02Levels.l1.eq_2 ..) ?_
    simp only [if_pos (show (0 : Int) ≤ (j : Int) by omega), if_pos (show (j : Int) < (D.length : Int) by omega), if_neg c]
    have hw : wrap64 ((j : Int) + 1) = ((j + 1 : Nat) : Int) := by rw [w64 (by omega) (by omega)]; omega
    have top : out.length = 0 ∨ ∃ k : Nat, k < j + 1 ∧ rd D (k : Int) = (out.length : Int) - 1 := by
      rcases h2 with a | ⟨k, a, b⟩ | a
      · exact .inl a
      · exact .inr ⟨k, by omega, b⟩
      · by_cases z : out.length = 0
        · exact .inl z
        · exact .inr ⟨j, by omega, by omega⟩
    by_cases p : rd D (j : Int) ≥ 0
    · simp only [if_pos p, if_pos (show 0 ≤ rd D (j : Int) by omega), if_pos (show rd D (j : Int) < (out.length : Int) by omega)]
      rw [hw]
      refine next _ ⟨fun k hk => ?_, ?_, fun d hd => ?_⟩
      · rw [List.length_set]
        rcases Nat.lt_succ_iff_lt_or_eq.1 hk with y | rfl
        · exact h1 k y
        · omega
      · rw [List.length_set]; exact top
      · rw [List.length_set] at hd
        obtain ⟨x, hx⟩ := Int.eq_ofNat_of_zero_le p
        rw [hx, Int.toNat_natCast, cntR, hx]
        have hc := cntR_le D ((x : Nat) : Int) j
        by_cases y : x = d
        · subst y
          rw [rd_set_self _ _ hd, h3 x hd, if_pos rfl, w64 (by omega) (by omega)]
          omega
        · rw [rd_set_ne _ _ _ y, h3 d hd, if_neg (by omega), Nat.add_zero]
    · simp only [if_neg p]
      rw [hw]
      refine next _ ⟨fun k hk => ?_, top, fun d hd => ?_⟩
      · rcases Nat.lt_succ_iff_lt_or_eq.1 hk with y | rfl
        · exact h1 k y
        · omega
      · rw [h3 d hd, cntR, if_neg (by omega), Nat.add_zero]
  induction e with
  | zero => intro out he h; exact fin out (by omega) h
  | succ e ih =>
    intro out he h
    by_cases c : (out.length : Int) ≤ rd D (j : Int)
    · obtain ⟨h1, h2, h3⟩ := h
      refine Ev.step (fun k => spec_l02Levels.l1.eq_2 ..) ?_
      simp only [if_pos (show (0 : Int) ≤ (j : Int) by omega), if_pos (show (j : Int) < (D.length : Int) by omega), if_pos c, if_pos (show out.length < 17592186044416 by omega)]
      have hl : (out ++ [(0 : Int)]).length = out.length + 1 := by simp
      refine ih _ (by rw [hl]; omega) ⟨fun k hk => ?_, .inr (.inr (by rw [hl]; omega)), fun d hd => ?_⟩
      · have := h1 k hk; rw [hl]; omega
      · rw [hl] at hd
        rcases Nat.lt_succ_iff_lt_or_eq.1 hd with y | rfl
        · rw [rd_app y, h3 d y]
        · rw [rd_last, cntR_zero h1]; rfl
    · exact fin out c h
theorem spec_l02Levels.ev_0 {D : List Int} (h0 : 0 < D.length) (hD : D.length ≤ 62) (hb : ∀ k : Nat, k < D.length → -1 ≤ rd D (k : Int) ∧ rd D (k : Int) ≤ 62) (d : Nat) : ∀ (j : Nat) (out : List Int), j + d = D.length → LInv D j out → Ev (fun q => spec_l02Levels.l0 q D out (j : Int)) (levL D) := by
  induction d with
  | zero =>
    intro j out e h
    refine Ev.step (fun k => spec_l02Levels.l0.eq_2 ..) ?_
    simp only [if_neg (show ¬ ((j : Int) < (D.length : Int)) by omega)]
    obtain ⟨h1, h2, h3⟩ := h
    have hj : j = D.length := by omega
    subst hj
    refine ev_some (levL_eq ?_ h3)
    have : TopOf D D.length ((out.length : Int) - 1) := ⟨fun k hk => by have := h1 k hk; omega, by
      rcases h2 with a | a
      · exact ⟨0, h0, by have := h1 0 h0; have := hb 0 h0; omega⟩
      · exact a⟩
    have := this.uniq (topV_top h0)
    omega
  | succ d ih =>
    intro j out e h
    refine Ev.step (fun k => spec_l02Levels.l0.eq_2 ..) ?_
    simp only [if_pos (show (j : Int) < (D.length : Int) by omega)]
    refine spec_l02Levels.ev_1 hD (by omega) (hb j (by omega)) (fun out' h' => ih (j + 1) out' (by omega) h') ((rd D (j : Int)) + 1).toNat out (by omega) ⟨h.1, ?_, h.2.2⟩
    rcases h.2.1 with a | a
    · exact .inl a
    · exact .inr (.inl a)
theorem distL_bds (E : Nat → Nat → Prop) {n v : Nat} (hn : n ≤ 62) (hv : v < n) : ∀ k : Nat, k < (distL E n v).length → -1 ≤ rd (distL E n v) (k : Int) ∧ rd (distL E n v) (k : Int) ≤ 62 := fun k hk => by
  rw [distL_length] at hk
  have := distL_bd E hv hk
  omega
theorem spec_l02Levels.ev {n : Int} {rows : List Int} (g : IsG n rows) (v : Nat) (hv : v < n.toNat) : Ev (fun q => spec_l02Levels.f q n rows (v : Int)) (levL (distL (Adj rows) n.toNat v)) := by
  have hn := g.le
  have h1 := g.1
  unfold spec_l02Levels.f
  refine Ev.bind (spec_l02From.ev g (-1) (-1) hv) ?_
  rw [AdjX_none]
  exact spec_l02Levels.ev_0 (by rw [distL_length]; omega) (by rw [distL_length]; omega) (distL_bds _ hn hv) _ 0 [] (by rw [Nat.zero_add]) ⟨fun k hk => by omega, .inl rfl, fun d hd => by simp at hd⟩

/-- The reaches: each vertex's greatest distance. -/
noncomputable def reachL (rows : List Int) (n : Nat) : Nat → Nat → List Int
  | 0, _ => []
  | d + 1, v => topV (distL (Adj rows) n v) :: reachL rows n d (v + 1)
theorem reachL_length (rows : List Int) (n : Nat) (d : Nat) : ∀ v, (reachL rows n d v).length = d := by
  induction d with
  | zero => intro v; rfl
  | succ d ih => intro v; rw [reachL, List.length_cons, ih]
theorem impl_Graph_reaches.ev_0 {n : Int} {rows : List Int} (g : IsG n rows) (d : Nat) : ∀ (v : Nat) (acc : List Int), v + d = n.toNat → acc.length ≤ v → Ev (fun q => impl_Graph_reaches.l0 q acc n (v : Int) n rows) (acc ++ reachL rows n.toNat d v) := by
  have hn := g.le
  have h1 := g.1
  induction d with
  | zero =>
    intro v acc e ha
    refine Ev.step (fun k => impl_Graph_reaches.l0.eq_2 ..) ?_
    simp only [if_neg (show ¬ ((v : Int) < n) by omega), reachL, List.append_nil]
    exact Ev.now _
  | succ d ih =>
    intro v acc e ha
    refine Ev.step (fun k => impl_Graph_reaches.l0.eq_2 ..) ?_
    simp only [if_pos (show (v : Int) < n by omega)]
    refine Ev.bind (impl_Graph_distances.ev g v (by omega)) ?_
    refine Ev.bind (slices_Max_int64_int64.ev (by rw [distL_length]; omega) (by rw [distL_length]; omega)) ?_
    simp only [if_pos (show acc.length < 17592186044416 by omega)]
    rw [w64 (by omega) (by omega)]
    refine ev_cast (ih (v + 1) _ (by omega) (by rw [List.length_append]; simp only [List.length_cons, List.length_nil]; omega)) ?_
    rw [reachL, List.append_assoc, List.singleton_append]
theorem impl_Graph_reaches.ev {n : Int} {rows : List Int} (g : IsG n rows) : Ev (fun q => impl_Graph_reaches.f q n rows) (reachL rows n.toNat n.toNat 0) := by
  unfold impl_Graph_reaches.f
  exact impl_Graph_reaches.ev_0 g n.toNat 0 [] (by omega) (by simp)

theorem spec_l02Reaches.ev_0 {n : Int} {rows : List Int} (g : IsG n rows) (d : Nat) : ∀ (v : Nat) (acc : List Int), v + d = n.toNat → acc.length ≤ v → Ev (fun q => spec_l02Reaches.l0 q acc (v : Int) n rows) (acc ++ reachL rows n.toNat d v) := by
  have hn := g.le
  have h1 := g.1
  induction d with
  | zero =>
    intro v acc e ha
    refine Ev.step (fun k => spec_l02Reaches.l0.eq_2 ..) ?_
    simp only [if_neg (show ¬ ((v : Int) < n) by omega), reachL, List.append_nil]
    exact Ev.now _
  | succ d ih =>
    intro v acc e ha
    refine Ev.step (fun k => spec_l02Reaches.l0.eq_2 ..) ?_
    simp only [if_pos (show (v : Int) < n by omega)]
    refine Ev.bind (spec_l02Levels.ev g v (by omega)) ?_
    simp only [if_pos (show acc.length < 17592186044416 by omega)]
    have hb := topV_bd (D := distL (Adj rows) n.toNat v) (by rw [distL_length]; omega) (distL_bds _ hn (by omega))
    rw [levL_length, w64 (n := (v : Int) + 1) (by omega) (by omega), w64 (n := (((topV (distL (Adj rows) n.toNat v) + 1).toNat : Nat) : Int) - 1) (by omega) (by omega)]
    refine ev_cast (ih (v + 1) _ (by omega) (by rw [List.length_append]; simp only [List.length_cons, List.length_nil]; omega)) ?_
    rw [reachL, List.append_assoc, List.singleton_append]
    congr 2
    omega
theorem spec_l02Reaches.ev {n : Int} {rows : List Int} (g : IsG n rows) : Ev (fun q => spec_l02Reaches.f q n rows) (reachL rows n.toNat n.toNat 0) := by
  unfold spec_l02Reaches.f
  exact spec_l02Reaches.ev_0 g n.toNat 0 [] (by omega) (by simp)

noncomputable def reachR (n : Int) (rows : List Int) : List Int × Int := if IsG n rows then (reachL rows n.toNat n.toNat 0, 0) else ([], 1)
theorem reachR_length (n : Int) (rows : List Int) : (reachR n rows).1.length ≤ 62 := by
  unfold reachR
  split
  · rename_i h
    have := h.le
    simp only [reachL_length]; omega
  · simp
theorem spec_ReachesOf.ev (n : Int) (rows : List Int) : Ev (fun q => spec_ReachesOf.f q n rows) (reachR n rows) := by
  unfold spec_ReachesOf.f reachR
  refine Ev.bind (spec_l01Is.ev n rows) ?_
  by_cases h : IsG n rows
  · simp only [h, decide_true, if_true]
    exact Ev.bind (spec_l02Reaches.ev h) (Ev.now _)
  · simp only [h, decide_false, Bool.false_eq_true, if_false]
    exact Ev.now _

theorem impl_ReachesOf.ev (n : Int) (rows : List Int) : Ev (fun q => impl_ReachesOf.f q n rows) (reachR n rows) := by
  unfold impl_ReachesOf.f reachR
  refine Ev.bind (impl_IsGraph.ev n rows) ?_
  by_cases h : IsG n rows
  · simp only [h, decide_true, if_true]
    exact Ev.bind (impl_Graph_reaches.ev h) (Ev.now _)
  · simp only [h, decide_false, Bool.false_eq_true, if_false]
    exact Ev.now _

section
variable {n : Int} {rows : List Int} (g : IsG n rows)
include g
theorem impl_Graph_part.ev_1 {S F : Nat} (hF : F < 2 ^ n.toNat) (R : Int)
    (next : ∀ N : Nat, N < 2 ^ n.toNat → (∀ j, N.testBit j = true ↔ ∃ u, u < n.toNat ∧ F.testBit u = true ∧ Adj rows u j) →
      Ev (fun q => impl_Graph_part.l0 q (Go.bits .or .i64 (S : Int) (N : Int)) (Go.bits .andNot .i64 (N : Int) (S : Int)) n rows) R) (d : Nat) :
    ∀ (i A : Nat), i + d = (bitsFrom n.toNat 0 (F : Int)).length → A < 2 ^ n.toNat →
      (∀ j, A.testBit j = true ↔ ∃ k : Nat, k < i ∧ ∃ u : Nat, rd (bitsFrom n.toNat 0 (F : Int)) (k : Int) = (u : Int) ∧ Adj rows u j) →
      Ev (fun q => impl_Graph_part.l1 q (S : Int) (A : Int) (bitsFrom n.toNat 0 (F : Int)) ((bitsFrom n.toNat 0 (F : Int)).length : Int) (i : Int) n rows) R := by
  have hn := g.le
  have hp := pow62 hn
  have hlen := bitsFrom_length (F : Int) n.toNat 0
  have hrl := g.len
  have elem : ∀ k : Nat, k < (bitsFrom n.toNat 0 (F : Int)).length → ∃ u : Nat, rd (bitsFrom n.toNat 0 (F : Int)) (k : Int) = (u : Int) ∧ u < n.toNat ∧ F.testBit u = true := fun k hk => by
    obtain ⟨u, a, _, b, c⟩ := mem_bitsFrom.1 (rd_mem (l := bitsFrom n.toNat 0 (F : Int)) (i := (k : Int)) (by omega) (by omega))
    exact ⟨u, a, by omega, by rw [← dig_nat]; exact c⟩
  induction d with
  | zero =>
    intro i A e hA hAb
    refine Ev.step (fun k => impl_Graph_part.l1.eq_2 ..) ?_
    simp only [if_neg (show ¬ ((i : Int) < ((bitsFrom n.toNat 0 (F : Int)).length : Int)) by omega)]
    refine next A hA fun j => (hAb j).trans ⟨?_, ?_⟩
    · rintro ⟨k, hk, u, hu, ha⟩
      obtain ⟨u', a, b, c⟩ := elem k (by omega)
      have : u = u' := by omega
      subst this
      exact ⟨u, b, c, ha⟩
    · rintro ⟨u, hu, hb, ha⟩
      have : (u : Int) ∈ bitsFrom n.toNat 0 (F : Int) := mem_bitsFrom.2 ⟨u, rfl, by omega, by omega, by rw [dig_nat]; exact hb⟩
      obtain ⟨k, hk, hr⟩ := mem_rd.1 this
      exact ⟨k, by omega, u, hr, ha⟩
  | succ d ih =>
    intro i A e hA hAb
    refine Ev.step (fun k => impl_Graph_part.l1.eq_2 ..) ?_
    obtain ⟨u, hu, hun, _⟩ := elem i (by omega)
    obtain ⟨x, hx, hx1⟩ := IsG_row g (v := (u : Int)) (by omega) (by omega)
    rw [hu, hx, w64 (by omega) (by omega), bit_or _ _ (by omega) (by omega)]
    simp only [if_pos (show (i : Int) < ((bitsFrom n.toNat 0 (F : Int)).length : Int) by omega), if_pos (show (0 : Int) ≤ (i : Int) by omega), if_pos (show (0 : Int) ≤ (u : Int) by omega), if_pos (show (u : Int) < (rows.length : Int) by omega)]
    refine ih (i + 1) (A ||| x) (by omega) (Nat.or_lt_two_pow hA hx1) fun j => ?_
    rw [Nat.testBit_or, Bool.or_eq_true, hAb j]
    have hxb : x.testBit j = true ↔ Adj rows u j := by unfold Adj; rw [hx, dig_nat]
    rw [hxb]
    constructor
    · rintro (⟨k, a, b⟩ | a)
      · exact ⟨k, by omega, b⟩
      · exact ⟨i, by omega, u, hu, a⟩
    · rintro ⟨k, a, u', b, c⟩
      rcases Nat.lt_succ_iff_lt_or_eq.1 a with a | rfl
      · exact .inl ⟨k, a, u', b, c⟩
      · have : u' = u := by omega
        subst this
        exact .inr c
/-- What a vertex reaches, as bits. -/
noncomputable def partOf (rows : List Int) (n v : Nat) : Nat := bsum n fun w => decide (Way rows n v w)
theorem impl_Graph_part.ev_0 {v : Nat} (hv : v < n.toNat) (d : Nat) : ∀ (S F : Nat), S < 2 ^ n.toNat → F < 2 ^ n.toNat → (∀ j, F.testBit j = true → S.testBit j = true) → S.testBit v = true → (∀ j, S.testBit j = true → Way rows n.toNat v j) →
    (∀ x y, x < n.toNat → y < n.toNat → S.testBit x = true → F.testBit x = false → Adj rows x y → S.testBit y = true) → (F = 0 ∨ 2 ^ n.toNat - S < d) →
    Ev (fun q => impl_Graph_part.l0 q (S : Int) (F : Int) n rows) ((partOf rows n.toNat v : Nat) : Int) := by
  have hn := g.le
  have hp := pow62 hn
  have done : ∀ (S : Nat), S < 2 ^ n.toNat → S.testBit v = true → (∀ j, S.testBit j = true → Way rows n.toNat v j) →
      (∀ x y, x < n.toNat → y < n.toNat → S.testBit x = true → (0 : Nat).testBit x = false → Adj rows x y → S.testBit y = true) →
      Ev (fun q => impl_Graph_part.l0 q (S : Int) ((0 : Nat) : Int) n rows) ((partOf rows n.toNat v : Nat) : Int) := by
    intro S hS h1 h2 h3
    refine Ev.step (fun k => impl_Graph_part.l0.eq_2 ..) ?_
    simp only [if_pos (show ((0 : Nat) : Int) = 0 from rfl)]
    refine ev_some ?_
    congr 1
    refine Nat.eq_of_testBit_eq fun j => ?_
    unfold partOf
    rw [bsum_bit]
    by_cases c : S.testBit j = true
    · have w := h2 j c
      rw [c, decide_eq_true (w.lt hv), decide_eq_true w]; rfl
    · have c' : S.testBit j = false := by simpa using c
      rw [c']
      by_cases jn : j < n.toNat
      · have nw : ¬ Way rows n.toNat v j := fun w => c (closed_way (P := fun j => S.testBit j = true) h1 (fun x y hx hy a b => h3 x y hx hy a (Nat.zero_testBit _) b) j w)
        rw [decide_eq_false nw, Bool.and_false]
      · rw [decide_eq_false jn, Bool.false_and]
  induction d with
  | zero =>
    intro S F hS hF h0 h1 h2 h3 h4
    have : F = 0 := by rcases h4 with h | h <;> omega
    subst this
    exact done S hS h1 h2 h3
  | succ d ih =>
    intro S F hS hF h0 h1 h2 h3 h4
    by_cases f0 : F = 0
    · subst f0; exact done S hS h1 h2 h3
    · refine Ev.step (fun k => impl_Graph_part.l0.eq_2 ..) ?_
      simp only [if_neg (show ¬ ((F : Int) = 0) by omega)]
      refine Ev.bind (impl_list.ev hn hF) ?_
      refine impl_Graph_part.ev_1 g (S := S) hF _ (fun N hN hNb => ?_) (bitsFrom n.toNat 0 (F : Int)).length 0 0 (by omega) (Nat.two_pow_pos _) (fun j => by
        rw [Nat.zero_testBit]
        exact ⟨fun a => (by cases a), fun ⟨k, a, _⟩ => by omega⟩)
      obtain ⟨G, hG, hGb⟩ := bit_andNot N S (by omega) (by omega)
      have hG1 : G < 2 ^ n.toNat := by
        refine Nat.lt_pow_two_of_testBit _ fun i hi => ?_
        rw [hGb i, Nat.testBit_lt_two_pow (Nat.lt_of_lt_of_le hN (Nat.pow_le_pow_right (by decide) hi))]; rfl
      rw [hG, bit_or _ _ (by omega) (by omega)]
      have wN : ∀ j, N.testBit j = true → Way rows n.toNat v j := fun j hj => by
        obtain ⟨u, a, b, c⟩ := (hNb j).1 hj
        have jn : j < n.toNat := by
          rcases Nat.lt_or_ge j n.toNat with x | x
          · exact x
          · rw [Nat.testBit_lt_two_pow (Nat.lt_of_lt_of_le hN (Nat.pow_le_pow_right (by decide) x))] at hj; cases hj
        exact .step (h2 u (h0 u b)) a jn c
      have hSN : S ||| N < 2 ^ n.toNat := Nat.or_lt_two_pow hS hN
      have hle : S ≤ S ||| N := Nat.left_le_or
      refine ih (S ||| N) G hSN hG1 (fun j hj => ?_) (by rw [Nat.testBit_or, h1]; rfl) (fun j hj => ?_) (fun x y hx hy a b c => ?_) ?_
      · rw [hGb j] at hj
        rw [Nat.testBit_or]
        simp only [Bool.and_eq_true] at hj
        rw [hj.1]; simp
      · rw [Nat.testBit_or, Bool.or_eq_true] at hj
        exact hj.elim (h2 j) (wN j)
      · rw [Nat.testBit_or, Bool.or_eq_true] at a ⊢
        rw [hGb x] at b
        have sx : S.testBit x = true := by
          rcases a with a | a
          · exact a
          · rw [a] at b; simpa using b
        by_cases fx : F.testBit x = true
        · exact .inr ((hNb y).2 ⟨x, hx, fx, c⟩)
        · exact .inl (h3 x y hx hy sx (by simpa using fx) c)
      · by_cases g0 : G = 0
        · exact .inl g0
        · refine .inr ?_
          have ne : S ||| N ≠ S := fun a => by
            refine g0 (Nat.eq_of_testBit_eq fun i => ?_)
            rw [hGb i, Nat.zero_testBit]
            by_cases x : N.testBit i = true
            · have : (S ||| N).testBit i = true := by rw [Nat.testBit_or, x]; simp
              rw [a] at this
              rw [x, this]; rfl
            · have : N.testBit i = false := by simpa using x
              rw [this]; rfl
          have := h4.resolve_left f0
          omega
theorem impl_Graph_part.ev (v : Nat) (hv : v < n.toNat) : Ev (fun q => impl_Graph_part.f q n rows (v : Int)) ((partOf rows n.toNat v : Nat) : Int) := by
  have hn := g.le
  have hp := pow62 hn
  unfold impl_Graph_part.f
  simp only [if_pos (show (0 : Int) ≤ (v : Int) by omega)]
  rw [shl_one (by omega) (by omega), Int.toNat_natCast]
  have hb : 2 ^ v < 2 ^ n.toNat := Nat.pow_lt_pow_right (by decide) hv
  refine impl_Graph_part.ev_0 g hv (2 ^ n.toNat + 1) (2 ^ v) (2 ^ v) hb hb (fun _ a => a) (by rw [Nat.testBit_two_pow]; simp) (fun j hj => ?_) (fun x y _ _ a b _ => ?_) (.inr (Nat.lt_succ_of_le (Nat.sub_le _ _)))
  · rw [Nat.testBit_two_pow, decide_eq_true_eq] at hj
    subst hj; exact .refl
  · rw [a] at b; cases b
end

theorem impl_all.sp {n : Int} (h0 : 0 ≤ n) (h1 : n ≤ 62) : impl_all.f n = some (((2 ^ n.toNat - 1 : Nat)) : Int) := by
  unfold impl_all.f
  have hp : 1 ≤ 2 ^ n.toNat := Nat.one_le_two_pow
  have hq := pow62 (n := n.toNat) (by omega)
  rw [if_pos h0, shl_one h0 h1]
  generalize 2 ^ n.toNat = P at *
  rw [w64 (by omega) (by omega)]
  congr 1
  omega

/-- Every vertex is reached from the first. -/
def Cnn (n : Int) (rows : List Int) : Prop := ∀ w, w < n.toNat → Way rows n.toNat 0 w
theorem impl_Graph_connected.ev {n : Int} {rows : List Int} (g : IsG n rows) : Ev (fun q => impl_Graph_connected.f q n rows) (decide (Cnn n rows)) := by
  have h1 := g.1
  have hn := g.le
  have hp := pow62 hn
  have hq := Nat.one_le_two_pow (n := n.toNat)
  unfold impl_Graph_connected.f
  refine Ev.bind (impl_Graph_part.ev g 0 (by omega)) ?_
  simp only [impl_all.sp (n := n) (by omega) g.2.1, Option.bind_some]
  refine ev_some ?_
  have key : partOf rows n.toNat 0 = 2 ^ n.toNat - 1 ↔ Cnn n rows := by
    constructor
    · intro a w hw
      have := congrArg (fun x => x.testBit w) a
      simp only [partOf, bsum_bit, Nat.testBit_two_pow_sub_one, decide_eq_true hw, Bool.true_and] at this
      simpa using this
    · intro a
      refine Nat.eq_of_testBit_eq fun w => ?_
      unfold partOf
      rw [bsum_bit, Nat.testBit_two_pow_sub_one]
      by_cases c : w < n.toNat
      · rw [decide_eq_true (a w c), Bool.and_true]
      · rw [decide_eq_false c, Bool.false_and]
  by_cases c : Cnn n rows
  · rw [decide_eq_true c, key.2 c]; simp
  · rw [decide_eq_false c]
    rw [beq_eq_false_iff_ne]
    intro a
    exact c (key.1 (by exact_mod_cast a))

theorem impl_connectedCode.ev (n : Int) (rows : List Int) : Ev (fun q => impl_connectedCode.f q n rows) (if IsG n rows then (if Cnn n rows then 0 else 5) else 1) := by
  unfold impl_connectedCode.f
  refine Ev.bind (impl_IsGraph.ev n rows) ?_
  by_cases h : IsG n rows
  · simp only [h, decide_true, if_true]
    refine Ev.bind (impl_Graph_connected.ev h) ?_
    by_cases c : Cnn n rows
    · simp only [decide_eq_true c, if_pos c, if_true]; exact Ev.now _
    · simp only [decide_eq_false c, if_neg c, Bool.false_eq_true, if_false]; exact Ev.now _
  · simp only [h, decide_false, Bool.false_eq_true, if_false]
    exact Ev.now _

theorem way_wk {rows : List Int} {n u w : Nat} (hu : u < n) : Way rows n u w ↔ ∃ d, Wk (Adj rows) n u d w := by
  constructor
  · intro h
    exact closed_way (P := fun x => ∃ d, Wk (Adj rows) n u d x) ⟨0, rfl⟩ (fun x y hx hy ⟨d, hd⟩ ha => ⟨d + 1, hy, x, hx, hd, ha⟩) w h
  · rintro ⟨d, h⟩
    induction d generalizing w with
    | zero => rw [Wk] at h; rw [h]; exact .refl
    | succ d ih =>
      obtain ⟨a, x, b, c, e⟩ := h
      exact .step (ih c) b a e

theorem spec_l02Connected.ev_0 {D : List Int} (hD : D.length ≤ 62) (d : Nat) : ∀ j : Nat, j + d = D.length → Ev (fun q => spec_l02Connected.l0 q D (j : Int)) (decide (∀ k : Nat, j ≤ k → k < D.length → 0 ≤ rd D (k : Int))) := by
  induction d with
  | zero =>
    intro j e
    refine Ev.step (fun k => spec_l02Connected.l0.eq_2 ..) ?_
    simp only [if_neg (show ¬ ((j : Int) < (D.length : Int)) by omega)]
    exact ev_some (decide_eq_true (scan_end (by omega))).symm
  | succ d ih =>
    intro j e
    refine Ev.step (fun k => spec_l02Connected.l0.eq_2 ..) ?_
    simp only [if_pos (show (j : Int) < (D.length : Int) by omega), if_pos (show (0 : Int) ≤ (j : Int) by omega)]
    by_cases c : rd D (j : Int) < 0
    · simp only [if_pos c]
      exact ev_some (decide_eq_false (scan_fail (P := fun k : Nat => 0 ≤ rd D (k : Int)) (by show ¬ 0 ≤ rd D (j : Int); omega) (by omega))).symm
    · simp only [if_neg c]
      rw [w64 (by omega) (by omega)]
      refine ev_cast (ih (j + 1) (by omega)) ?_
      exact dec_congr (scan_step (P := fun k : Nat => 0 ≤ rd D (k : Int)) (by show 0 ≤ rd D (j : Int); omega)).symm
theorem cnn_dist {n : Int} {rows : List Int} (g : IsG n rows) : (∀ k : Nat, 0 ≤ k → k < (distL (Adj rows) n.toNat 0).length → 0 ≤ rd (distL (Adj rows) n.toNat 0) (k : Int)) ↔ Cnn n rows := by
  have h1 := g.1
  rw [distL_length]
  constructor
  · intro h w hw
    rw [way_wk (by omega)]
    have := h w (by omega) hw
    rcases distL_at (Adj rows) 0 hw with ⟨a, _⟩ | ⟨d, _, b⟩
    · omega
    · exact ⟨d, b.1⟩
  · intro h k _ hk
    obtain ⟨d, hd⟩ := (way_wk (by omega)).1 (h k hk)
    rcases distL_at (Adj rows) 0 hk with ⟨_, b⟩ | ⟨d, a, _⟩
    · exact absurd hd (b d)
    · omega
theorem spec_l02Connected.ev {n : Int} {rows : List Int} (g : IsG n rows) : Ev (fun q => spec_l02Connected.f q n rows) (decide (Cnn n rows)) := by
  have hn := g.le
  have h1 := g.1
  unfold spec_l02Connected.f
  refine Ev.bind (spec_l02From.ev g (-1) (-1) (v := 0) (by omega)) ?_
  rw [AdjX_none]
  refine ev_cast (spec_l02Connected.ev_0 (by rw [distL_length]; omega) _ 0 (by rw [Nat.zero_add])) ?_
  exact dec_congr (cnn_dist g)

/-! ### the least of a list -/
/-- x is the least of the list's numbers from i to j. -/
def LowOf (l : List Int) (j : Nat) (x : Int) : Prop := (∀ k : Nat, k < j → rd l (k : Int) ≥ x) ∧ ∃ k : Nat, k < j ∧ rd l (k : Int) = x
theorem LowOf.uniq {l : List Int} {j : Nat} {x y : Int} (h : LowOf l j x) (k : LowOf l j y) : x = y := by
  obtain ⟨a, i, b, c⟩ := h
  obtain ⟨d, m, e, f⟩ := k
  have p := d i b
  have q := a m e
  omega
def mnFrom (l : List Int) : Nat → Nat → Int → Int
  | 0, _, x => x
  | d + 1, i, x => mnFrom l d (i + 1) (mn x (rd l (i : Int)))
theorem mnFrom_top (l : List Int) (d : Nat) : ∀ (i : Nat) (x : Int), LowOf l i x → LowOf l (i + d) (mnFrom l d i x) := by
  induction d with
  | zero => intro i x h; exact h
  | succ d ih =>
    intro i x h
    rw [mnFrom, show i + (d + 1) = i + 1 + d by omega]
    refine ih (i + 1) _ ⟨fun k hk => ?_, ?_⟩
    · unfold mn
      rcases Nat.lt_succ_iff_lt_or_eq.1 hk with y | rfl
      · have := h.1 k y
        split <;> omega
      · split <;> omega
    · obtain ⟨_, m, e, f⟩ := h
      unfold mn
      split
      · exact ⟨i, by omega, rfl⟩
      · exact ⟨m, by omega, f⟩
/-- The least of a list's numbers. -/
def lowV (l : List Int) : Int := mnFrom l (l.length - 1) 1 (rd l 0)
theorem lowV_top {l : List Int} (h : 0 < l.length) : LowOf l l.length (lowV l) := by
  have := mnFrom_top l (l.length - 1) 1 (rd l 0) ⟨fun k hk => by
    have : k = 0 := by omega
    subst this; exact Int.le_refl _, 0, by omega, rfl⟩
  rw [show 1 + (l.length - 1) = l.length by omega] at this
  exact this
theorem slices_Min_int64_int64.ev_l (l : List Int) (hl : l.length ≤ 1000) (d : Nat) : ∀ (i : Nat) (x : Int), i + d = l.length → Ev (fun q => slices_Min_int64_int64.l0 q l x (i : Int)) (mnFrom l d i x) := by
  induction d with
  | zero =>
    intro i x e
    refine Ev.step (fun k => slices_Min_int64_int64.l0.eq_2 ..) ?_
    simp only [if_neg (show ¬ ((i : Int) < (l.length : Int)) by omega)]
    exact Ev.now _
  | succ d ih =>
    intro i x e
    refine Ev.step (fun k => slices_Min_int64_int64.l0.eq_2 ..) ?_
    simp only [if_pos (show (i : Int) < (l.length : Int) by omega), if_pos (show (0 : Int) ≤ (i : Int) by omega)]
    rw [w64 (by omega) (by omega)]
    exact ih (i + 1) _ (by omega)
theorem slices_Min_int64_int64.ev {l : List Int} (h : 0 < l.length) (hl : l.length ≤ 1000) : Ev (fun q => slices_Min_int64_int64.f q l) (lowV l) := by
  unfold slices_Min_int64_int64.f lowV
  simp only [if_neg (show ¬ ((l.length : Int) < 1) by omega), if_pos (show (0 : Int) < (l.length : Int) by omega)]
  exact slices_Min_int64_int64.ev_l l hl (l.length - 1) 1 _ (by omega)

theorem spec_l02Diameter.ev_0 {D : List Int} (hD : D.length ≤ 62) (d : Nat) : ∀ (j : Nat) (x y : Int), j + d = D.length → Ev (fun q => spec_l02Diameter.l0 q D x y (j : Int)) (mxFrom D d j x, mnFrom D d j y) := by
  induction d with
  | zero =>
    intro j x y e
    refine Ev.step (fun k => spec_l02Diameter.l0.eq_2 ..) ?_
    simp only [if_neg (show ¬ ((j : Int) < (D.length : Int)) by omega)]
    exact Ev.now _
  | succ d ih =>
    intro j x y e
    refine Ev.step (fun k => spec_l02Diameter.l0.eq_2 ..) ?_
    simp only [if_pos (show (j : Int) < (D.length : Int) by omega), if_pos (show (0 : Int) ≤ (j : Int) by omega)]
    rw [w64 (by omega) (by omega)]
    exact ih (j + 1) _ _ (by omega)
theorem spec_l02Diameter.ev {n : Int} {rows : List Int} (g : IsG n rows) : Ev (fun q => spec_l02Diameter.f q n rows) (topV (reachL rows n.toNat n.toNat 0), lowV (reachL rows n.toNat n.toNat 0)) := by
  have hn := g.le
  have h1 := g.1
  have hl := reachL_length rows n.toNat n.toNat 0
  unfold spec_l02Diameter.f
  refine Ev.bind (spec_l02Reaches.ev g) ?_
  simp only [if_pos (show (0 : Int) < ((reachL rows n.toNat n.toNat 0).length : Int) by omega)]
  exact spec_l02Diameter.ev_0 (by omega) ((reachL rows n.toNat n.toNat 0).length - 1) 1 _ _ (by omega)

noncomputable def diamR (n : Int) (rows : List Int) : Int × Int × Int := if IsG n rows then (if Cnn n rows then (topV (reachL rows n.toNat n.toNat 0), lowV (reachL rows n.toNat n.toNat 0), 0) else (0, 0, 5)) else (0, 0, 1)
theorem spec_DiameterOf.ev (n : Int) (rows : List Int) : Ev (fun q => spec_DiameterOf.f q n rows) (diamR n rows) := by
  unfold spec_DiameterOf.f diamR
  refine Ev.bind (spec_l01Is.ev n rows) ?_
  by_cases h : IsG n rows
  · simp only [h, decide_true, if_true]
    refine Ev.bind (spec_l02Connected.ev h) ?_
    by_cases c : Cnn n rows
    · simp only [decide_eq_true c, if_pos c, if_true]
      exact Ev.bind (spec_l02Diameter.ev h) (Ev.now _)
    · simp only [decide_eq_false c, if_neg c, Bool.false_eq_true, if_false]; exact Ev.now _
  · simp only [h, decide_false, Bool.false_eq_true, if_false]
    exact Ev.now _

theorem impl_DiameterOf.ev (n : Int) (rows : List Int) : Ev (fun q => impl_DiameterOf.f q n rows) (diamR n rows) := by
  unfold impl_DiameterOf.f diamR
  refine Ev.bind (impl_connectedCode.ev n rows) ?_
  by_cases h : IsG n rows
  · by_cases c : Cnn n rows
    · simp only [if_pos h, if_pos c, if_true]
      have hn := h.le
      have h1 := h.1
      have hl := reachL_length rows n.toNat n.toNat 0
      refine Ev.bind (impl_Graph_reaches.ev h) ?_
      refine Ev.bind (slices_Max_int64_int64.ev (by omega) (by omega)) ?_
      exact Ev.bind (slices_Min_int64_int64.ev (by omega) (by omega)) (Ev.now _)
    · simp only [if_pos h, if_neg c]
      exact Ev.now _
  · simp only [if_neg h]
    exact Ev.now _

noncomputable def levR (n : Int) (rows : List Int) (v : Int) : List Int × Int := if IsG n rows then (if 0 ≤ v ∧ v < n then (levL (distL (Adj rows) n.toNat v.toNat), 0) else ([], 2)) else ([], 1)
theorem levR_length (n : Int) (rows : List Int) (v : Int) : (levR n rows v).1.length ≤ 63 := by
  unfold levR
  split
  · rename_i h
    split
    · rename_i c
      have := h.le
      have h1 := h.1
      have hb := topV_bd (D := distL (Adj rows) n.toNat v.toNat) (by rw [distL_length]; omega) (distL_bds _ this (by omega))
      simp only [levL_length]; omega
    · simp
  · simp
theorem spec_LevelsFrom.ev (n : Int) (rows : List Int) (v : Int) : Ev (fun q => spec_LevelsFrom.f q n rows v) (levR n rows v) := by
  unfold spec_LevelsFrom.f levR
  refine Ev.bind (spec_l02Code.ev1 n rows v) ?_
  by_cases h : IsG n rows
  · by_cases c : 0 ≤ v ∧ v < n
    · simp only [if_pos h, if_pos c, if_true]
      obtain ⟨x, rfl⟩ := Int.eq_ofNat_of_zero_le c.1
      refine Ev.bind (spec_l02Levels.ev h x (by omega)) ?_
      rw [Int.toNat_natCast]
      exact Ev.now _
    · simp only [if_pos h, if_neg c]
      exact Ev.now _
  · simp only [if_neg h]
    exact Ev.now _

theorem impl_LevelsFrom.ev_0 {D : List Int} (h0 : 0 < D.length) (hD : D.length ≤ 62) (hb : ∀ k : Nat, k < D.length → -1 ≤ rd D (k : Int) ∧ rd D (k : Int) ≤ 62) (d : Nat) : ∀ (j : Nat) (out : List Int), j + d = D.length → out.length = (topV D + 1).toNat → (∀ e : Nat, e < out.length → rd out (e : Int) = ((cntR D (e : Int) j : Nat) : Int)) → Ev (fun q => impl_LevelsFrom.l0 q out D (D.length : Int) (j : Int)) (levL D, 0) := by
  have hT := topV_top h0
  have hB := topV_bd h0 hb
  induction d with
  | zero =>
    intro j out e hl h
    refine Ev.step (fun k => impl_LevelsFrom.l0.eq_2 ..) ?_
    simp only [if_neg (show ¬ ((j : Int) < (D.length : Int)) by omega)]
    have hj : j = D.length := by omega
    subst hj
    exact ev_some (by rw [levL_eq hl h])
  | succ d ih =>
    intro j out e hl h
    refine Ev.step (fun k => impl_LevelsFrom.l0.eq_2 ..) ?_
    have hw : wrap64 ((j : Int) + 1) = ((j + 1 : Nat) : Int) := by rw [w64 (by omega) (by omega)]; omega
    have t := hT.1 j (by omega)
    simp only [if_pos (show (j : Int) < (D.length : Int) by omega), if_pos (show (0 : Int) ≤ (j : Int) by omega), hw]
    by_cases p : rd D (j : Int) ≥ 0
    · simp only [if_pos p, if_pos (show 0 ≤ rd D (j : Int) by omega), if_pos (show rd D (j : Int) < (out.length : Int) by omega)]
      refine ih (j + 1) _ (by omega) (by rw [List.length_set]; exact hl) fun e he => ?_
      rw [List.length_set] at he
      obtain ⟨x, hx⟩ := Int.eq_ofNat_of_zero_le p
      rw [hx, Int.toNat_natCast, cntR, hx]
      have hc := cntR_le D ((x : Nat) : Int) j
      by_cases y : x = e
      · subst y
        rw [rd_set_self _ _ he, h x he, if_pos rfl, w64 (by omega) (by omega)]
        omega
      · rw [rd_set_ne _ _ _ y, h e he, if_neg (by omega), Nat.add_zero]
    · simp only [if_neg p]
      refine ih (j + 1) _ (by omega) hl fun e he => ?_
      rw [h e he, cntR, if_neg (by omega), Nat.add_zero]
theorem impl_LevelsFrom.ev (n : Int) (rows : List Int) (v : Int) : Ev (fun q => impl_LevelsFrom.f q n rows v) (levR n rows v) := by
  unfold impl_LevelsFrom.f levR
  refine Ev.bind (impl_graphCode.ev1 n rows v) ?_
  by_cases h : IsG n rows
  · by_cases c : 0 ≤ v ∧ v < n
    · simp only [if_pos h, if_pos c, if_true]
      obtain ⟨x, rfl⟩ := Int.eq_ofNat_of_zero_le c.1
      have hn := h.le
      have h1 := h.1
      have h0 : 0 < (distL (Adj rows) n.toNat x).length := by rw [distL_length]; omega
      have h62 : (distL (Adj rows) n.toNat x).length ≤ 62 := by rw [distL_length]; omega
      have hb := distL_bds (Adj rows) hn (show x < n.toNat by omega)
      refine Ev.bind (impl_Graph_distances.ev h x (by omega)) ?_
      refine Ev.bind (slices_Max_int64_int64.ev h0 (by omega)) ?_
      have hB := topV_bd h0 hb
      rw [w64 (by omega) (by omega)]
      simp only [if_pos (show 0 ≤ topV (distL (Adj rows) n.toNat x) + 1 by omega), if_pos (show (topV (distL (Adj rows) n.toNat x) + 1).toNat ≤ 35184372088832 by omega), Int.toNat_natCast]
      refine impl_LevelsFrom.ev_0 h0 h62 hb _ 0 _ (by rw [Nat.zero_add]) (by rw [List.length_replicate]) fun e he => ?_
      rw [List.length_replicate] at he
      rw [rd_nat]
      simp [List.getD_eq_getElem?_getD, he, cntR]
    · simp only [if_pos h, if_neg c]
      exact Ev.now _
  · simp only [if_neg h]
    exact Ev.now _

noncomputable def distR (n : Int) (rows : List Int) (v w : Int) : Int × Int :=
  if IsG n rows then (if (0 ≤ v ∧ v < n) ∧ 0 ≤ w ∧ w < n then (if rd (distL (Adj rows) n.toNat v.toNat) w < 0 then (0, 4) else (rd (distL (Adj rows) n.toNat v.toNat) w, 0)) else (0, 2)) else (0, 1)
theorem spec_DistanceOf.ev (n : Int) (rows : List Int) (v w : Int) : Ev (fun q => spec_DistanceOf.f q n rows v w) (distR n rows v w) := by
  unfold spec_DistanceOf.f distR
  refine Ev.bind (spec_l02Code.ev2 n rows v w) ?_
  by_cases h : IsG n rows
  · by_cases c : (0 ≤ v ∧ v < n) ∧ 0 ≤ w ∧ w < n
    · simp only [if_pos h, if_pos c, if_true]
      obtain ⟨x, rfl⟩ := Int.eq_ofNat_of_zero_le c.1.1
      refine Ev.bind (spec_l02From.ev h (-1) (-1) (v := x) (by omega)) ?_
      rw [AdjX_none, Int.toNat_natCast]
      simp only [if_pos c.2.1, distL_length, if_pos (show w < (n.toNat : Int) by omega)]
      by_cases z : rd (distL (Adj rows) n.toNat x) w < 0
      · simp only [if_pos z]; exact Ev.now _
      · simp only [if_neg z]; exact Ev.now _
    · simp only [if_pos h, if_neg c]
      exact Ev.now _
  · simp only [if_neg h]
    exact Ev.now _

theorem impl_DistanceOf.ev (n : Int) (rows : List Int) (v w : Int) : Ev (fun q => impl_DistanceOf.f q n rows v w) (distR n rows v w) := by
  unfold impl_DistanceOf.f distR
  refine Ev.bind (impl_graphCode.ev2 n rows v w) ?_
  by_cases h : IsG n rows
  · by_cases c : (0 ≤ v ∧ v < n) ∧ 0 ≤ w ∧ w < n
    · simp only [if_pos h, if_pos c, if_true]
      obtain ⟨x, rfl⟩ := Int.eq_ofNat_of_zero_le c.1.1
      refine Ev.bind (impl_Graph_distances.ev h x (by omega)) ?_
      rw [Int.toNat_natCast]
      simp only [if_pos c.2.1, distL_length, if_pos (show w < (n.toNat : Int) by omega)]
      by_cases z : rd (distL (Adj rows) n.toNat x) w < 0
      · simp only [if_pos z]; exact Ev.now _
      · simp only [if_neg z]; exact Ev.now _
    · simp only [if_pos h, if_neg c]
      exact Ev.now _
  · simp only [if_neg h]
    exact Ev.now _

theorem laws_hasInt.ev_l {l : List Int} {x : Int} (hl : l.length ≤ 1000000) {j : Nat} (hj : j < l.length) (e : rd l (j : Int) = x) (d : Nat) : ∀ i : Nat, i + d = j → Ev (fun q => laws_hasInt.l0 q l x (i : Int)) true := by
  induction d with
  | zero =>
    intro i h
    obtain rfl : i = j := by omega
    refine Ev.step (fun k => laws_hasInt.l0.eq_2 ..) ?_
    simp only [if_pos (show (i : Int) < (l.length : Int) by omega), if_pos (show (0 : Int) ≤ (i : Int) by omega), if_pos e]
    exact Ev.now _
  | succ d ih =>
    intro i h
    refine Ev.step (fun k => laws_hasInt.l0.eq_2 ..) ?_
    simp only [if_pos (show (i : Int) < (l.length : Int) by omega), if_pos (show (0 : Int) ≤ (i : Int) by omega)]
    by_cases c : rd l (i : Int) = x
    · simp only [if_pos c]; exact Ev.now _
    · simp only [if_neg c]
      rw [w64 (by omega) (by omega)]
      exact ih (i + 1) (by omega)
theorem laws_hasInt.ev {l : List Int} {x : Int} (hl : l.length ≤ 1000000) (h : ∃ j : Nat, j < l.length ∧ rd l (j : Int) = x) : Ev (fun q => laws_hasInt.f q l x) true := by
  obtain ⟨j, hj, e⟩ := h
  unfold laws_hasInt.f
  exact laws_hasInt.ev_l hl hj e j 0 (by omega)

def sumN (f : Nat → Nat) : Nat → Nat
  | 0 => 0
  | m + 1 => sumN f m + f m
theorem sumN_le (f : Nat → Nat) {i m : Nat} (h : i ≤ m) : sumN f i ≤ sumN f m := by
  induction m with
  | zero => rw [Nat.le_zero.1 h]; exact Nat.le_refl _
  | succ m ih =>
    rcases Nat.lt_or_ge i (m + 1) with c | c
    · exact Nat.le_trans (ih (by omega)) (Nat.le_add_right _ _)
    · rw [show i = m + 1 by omega]; exact Nat.le_refl _
theorem sumN_add (f g : Nat → Nat) (m : Nat) : sumN (fun d => f d + g d) m = sumN f m + sumN g m := by
  induction m with
  | zero => rfl
  | succ m ih => rw [sumN, sumN, sumN, ih]; omega
theorem sumN_zero (m : Nat) : sumN (fun _ => 0) m = 0 := by
  induction m with
  | zero => rfl
  | succ m ih => rw [sumN, ih]
theorem sumN_one (x : Int) (m : Nat) : sumN (fun d => if x = (d : Int) then 1 else 0) m = if 0 ≤ x ∧ x < (m : Int) then 1 else 0 := by
  induction m with
  | zero => rw [sumN, if_neg (by omega)]
  | succ m ih =>
    rw [sumN, ih]
    by_cases c : x = (m : Int)
    · rw [if_pos c, if_neg (by omega), if_pos (by omega)]
    · rw [if_neg c]
      by_cases d : 0 ≤ x ∧ x < (m : Int)
      · rw [if_pos d, if_pos (by omega)]
      · rw [if_neg d, if_neg (by omega)]
theorem laws_sum.ev_l {L : List Int} {f : Nat → Nat} (hl : L.length ≤ 1000) (hf : ∀ k : Nat, k < L.length → rd L (k : Int) = ((f k : Nat) : Int)) (hb : sumN f L.length ≤ 1000000) (d : Nat) : ∀ i : Nat, i + d = L.length →
    Ev (fun q => laws_sum.l0 q L ((sumN f i : Nat) : Int) (i : Int)) ((sumN f L.length : Nat) : Int) := by
  induction d with
  | zero =>
    intro i h
    obtain rfl : i = L.length := by omega
    refine Ev.step (fun k => laws_sum.l0.eq_2 ..) ?_
    simp only [if_neg (show ¬ ((L.length : Int) < (L.length : Int)) by omega)]
    exact Ev.now _
  | succ d ih =>
    intro i h
    have h1 : sumN f (i + 1) ≤ sumN f L.length := sumN_le f (by omega)
    have h2 : sumN f (i + 1) = sumN f i + f i := rfl
    refine Ev.step (fun k => laws_sum.l0.eq_2 ..) ?_
    simp only [if_pos (show (i : Int) < (L.length : Int) by omega), if_pos (show (0 : Int) ≤ (i : Int) by omega)]
    rw [hf i (by omega), w64 (n := (i : Int) + 1) (by omega) (by omega), w64 (n := ((sumN f i : Nat) : Int) + ((f i : Nat) : Int)) (by omega) (by omega)]
    have := ih (i + 1) (by omega)
    rw [h2] at this
    exact this
theorem laws_sum.ev {L : List Int} {f : Nat → Nat} (hl : L.length ≤ 1000) (hf : ∀ k : Nat, k < L.length → rd L (k : Int) = ((f k : Nat) : Int)) (hb : sumN f L.length ≤ 1000000) : Ev (fun q => laws_sum.f q L) ((sumN f L.length : Nat) : Int) := by
  unfold laws_sum.f
  exact laws_sum.ev_l hl hf hb L.length 0 (by omega)

/-! ### distances go both ways, levels add up, reaches are at most twice the least -/
theorem Wk.add {E : Nat → Nat → Prop} {n v u a : Nat} (h : Wk E n v a u) (b : Nat) : ∀ w : Nat, Wk E n u b w → Wk E n v (a + b) w := by
  induction b with
  | zero => intro w k; rw [Wk] at k; rw [k]; exact h
  | succ b ih => intro w k; obtain ⟨hw, x, hx, k, e⟩ := k; exact ⟨hw, x, hx, ih x k, e⟩
theorem Wk.rev {E : Nat → Nat → Prop} {n : Nat} (hs : ∀ x y, x < n → y < n → E x y → E y x) {v : Nat} (hv : v < n) (d : Nat) : ∀ w : Nat, Wk E n v d w → Wk E n w d v := by
  induction d with
  | zero => intro w k; rw [Wk] at k; rw [k]; rfl
  | succ d ih =>
    intro w k
    obtain ⟨hw, u, hu, k, e⟩ := k
    have h1 : Wk E n w 1 u := ⟨hu, w, hw, rfl, hs u w hu hw e⟩
    have := Wk.add h1 d v (ih u k)
    rw [Nat.add_comm] at this
    exact this
theorem DistIs.symm {E : Nat → Nat → Prop} {n v w : Nat} {x : Int} (hs : ∀ x y, x < n → y < n → E x y → E y x) (hv : v < n) (hw : w < n) (h : DistIs E n v w x) : DistIs E n w v x := by
  rcases h with ⟨a, b⟩ | ⟨d, a, b, c⟩
  · exact .inl ⟨a, fun d k => b d (Wk.rev hs hw d v k)⟩
  · exact .inr ⟨d, a, Wk.rev hs hv d w b, fun e he k => c e he (Wk.rev hs hw e v k)⟩
theorem dist_symm {n : Int} {rows : List Int} (g : IsG n rows) {v w : Nat} (hv : v < n.toNat) (hw : w < n.toNat) : rd (distL (Adj rows) n.toNat v) (w : Int) = rd (distL (Adj rows) n.toNat w) (v : Int) :=
  (distL_at _ v hw).uniq (DistIs.symm (fun x y hx hy => (g.symm hx hy).1) hw hv (distL_at _ w hv))
theorem dist_zero {E : Nat → Nat → Prop} {n v w : Nat} (hw : w < n) : rd (distL E n v) (w : Int) = 0 ↔ w = v := by
  have h := distL_at E v hw
  constructor
  · intro e
    rw [e] at h
    rcases h with ⟨a, _⟩ | ⟨d, a, b, _⟩
    · omega
    · obtain rfl : d = 0 := by omega
      exact b
  · rintro rfl
    exact h.uniq (.inr ⟨0, rfl, rfl, fun e he => absurd he (Nat.not_lt_zero _)⟩)
theorem distR_facts (n : Int) (rows : List Int) (a b : Int) (h : (distR n rows a b).2 = 0) : distR n rows b a = distR n rows a b ∧ ((distR n rows a b).1 = 0 ↔ a = b) := by
  unfold distR at h ⊢
  by_cases g : IsG n rows
  · simp only [if_pos g] at h ⊢
    by_cases c : (0 ≤ a ∧ a < n) ∧ 0 ≤ b ∧ b < n
    · obtain ⟨⟨a0, a1⟩, b0, b1⟩ := c
      simp only [if_pos (show (0 ≤ a ∧ a < n) ∧ 0 ≤ b ∧ b < n from ⟨⟨a0, a1⟩, b0, b1⟩), if_pos (show (0 ≤ b ∧ b < n) ∧ 0 ≤ a ∧ a < n from ⟨⟨b0, b1⟩, a0, a1⟩)] at h ⊢
      obtain ⟨u, rfl⟩ := Int.eq_ofNat_of_zero_le a0
      obtain ⟨w, rfl⟩ := Int.eq_ofNat_of_zero_le b0
      simp only [Int.toNat_natCast] at h ⊢
      rw [dist_symm g (v := w) (w := u) (by omega) (by omega)]
      refine ⟨rfl, ?_⟩
      by_cases k : rd (distL (Adj rows) n.toNat u) (w : Int) < 0
      · simp only [if_pos k] at h; omega
      · simp only [if_neg k]
        rw [dist_zero (by omega)]
        omega
    · simp only [if_neg c] at h
      omega
  · simp only [if_neg g] at h
    omega
theorem reachL_at (rows : List Int) (n d : Nat) : ∀ v k : Nat, k < d → rd (reachL rows n d v) (k : Int) = topV (distL (Adj rows) n (v + k)) := by
  induction d with
  | zero => intro v k h; omega
  | succ d ih =>
    intro v k h
    rw [reachL]
    cases k with
    | zero => rfl
    | succ k =>
      have := ih (v + 1) k (by omega)
      rw [rd_nat] at this ⊢
      rw [List.getD_cons_succ, this]
      congr 2
      omega
theorem dist_way {n : Int} {rows : List Int} (g : IsG n rows) (c : Cnn n rows) {u w : Nat} (hu : u < n.toNat) (hw : w < n.toNat) : ∃ d : Nat, rd (distL (Adj rows) n.toNat u) (w : Int) = (d : Int) ∧ Wk (Adj rows) n.toNat u d w := by
  have hway : Way rows n.toNat u w := Way.trans (Way.symm g (c u hu)) (c w hw)
  obtain ⟨d0, k0⟩ := (way_wk hu).1 hway
  rcases distL_at (Adj rows) u hw with ⟨_, h⟩ | ⟨d, e, h, _⟩
  · exact absurd k0 (h d0)
  · exact ⟨d, e, h⟩
theorem diam_facts (n : Int) (rows : List Int) (h : (diamR n rows).2.2 = 0) : (reachR n rows).2 = 0 ∧ (diamR n rows).2.1 ≤ (diamR n rows).1 ∧ (diamR n rows).1 ≤ 2 * (diamR n rows).2.1 ∧ 0 ≤ (diamR n rows).2.1 ∧ (diamR n rows).1 ≤ 62 ∧
    (∃ j : Nat, j < (reachR n rows).1.length ∧ rd (reachR n rows).1 (j : Int) = (diamR n rows).1) ∧ (∃ j : Nat, j < (reachR n rows).1.length ∧ rd (reachR n rows).1 (j : Int) = (diamR n rows).2.1) ∧ (reachR n rows).1.length ≤ 62 := by
  unfold diamR reachR at *
  by_cases g : IsG n rows
  · simp only [if_pos g] at h ⊢
    by_cases c : Cnn n rows
    · simp only [if_pos c] at h ⊢
      have h1 := g.1
      have hle := g.le
      have hlen := reachL_length rows n.toNat n.toNat 0
      have top := topV_top (l := reachL rows n.toNat n.toNat 0) (by omega)
      have low := lowV_top (l := reachL rows n.toNat n.toNat 0) (by omega)
      rw [hlen] at top low ⊢
      generalize topV (reachL rows n.toNat n.toNat 0) = most at top ⊢
      generalize lowV (reachL rows n.toNat n.toNat 0) = least at low ⊢
      obtain ⟨t1, k1, hk1, e1⟩ := top
      obtain ⟨l1, k2, hk2, e2⟩ := low
      have f1 := reachL_at rows n.toNat n.toNat 0 k1 hk1
      have f2 := reachL_at rows n.toNat n.toNat 0 k2 hk2
      rw [Nat.zero_add] at f1 f2
      have p1 := topV_top (l := distL (Adj rows) n.toNat k1) (by rw [distL_length]; omega)
      have p2 := topV_top (l := distL (Adj rows) n.toNat k2) (by rw [distL_length]; omega)
      rw [← f1, e1, distL_length] at p1
      rw [← f2, e2, distL_length] at p2
      obtain ⟨_, y, hy, ey⟩ := p1
      obtain ⟨q2, _⟩ := p2
      obtain ⟨a, ea, wa⟩ := dist_way g c hk2 hk1
      obtain ⟨b, eb, wb⟩ := dist_way g c hk2 hy
      have ha := q2 k1 hk1
      have hb := q2 y hy
      rw [ea] at ha
      rw [eb] at hb
      have hs : ∀ x y, x < n.toNat → y < n.toNat → Adj rows x y → Adj rows y x := fun x y hx hy => (g.symm hx hy).1
      have ww := Wk.add (Wk.rev hs hk2 a k1 wa) b y wb
      have hd : most ≤ ((a + b : Nat) : Int) := by
        have := distL_at (Adj rows) k1 hy
        rw [ey] at this
        rcases this with ⟨e, _⟩ | ⟨d, e, _, m⟩
        · omega
        · rcases Nat.lt_or_ge (a + b) d with z | z
          · exact absurd ww (m _ z)
          · omega
      have hm := distL_bds (Adj rows) (n := n.toNat) (v := k1) hle hk1 y (by rw [distL_length]; exact hy)
      rw [ey] at hm
      have hlm := l1 k1 hk1
      rw [e1] at hlm
      exact ⟨trivial, by omega, by omega, by omega, by omega, ⟨k1, hk1, e1⟩, ⟨k2, hk2, e2⟩, hle⟩
    · simp only [if_neg c] at h; omega
  · simp only [if_neg g] at h; omega
/-- How many of the first j entries are not below 0. -/
def posR (D : List Int) : Nat → Nat
  | 0 => 0
  | j + 1 => posR D j + (if 0 ≤ rd D (j : Int) then 1 else 0)
theorem posR_le (D : List Int) (j : Nat) : posR D j ≤ j := by
  induction j with
  | zero => exact Nat.le_refl _
  | succ j ih => rw [posR]; split <;> omega
theorem sum_cnt (D : List Int) (T : Nat) (j : Nat) (h : ∀ k : Nat, k < j → rd D (k : Int) < (T : Int)) : sumN (fun d => cntR D (d : Int) j) T = posR D j := by
  induction j with
  | zero => exact sumN_zero T
  | succ j ih =>
    have e : (fun d : Nat => cntR D (d : Int) (j + 1)) = fun d : Nat => cntR D (d : Int) j + (if rd D (j : Int) = (d : Int) then 1 else 0) := by funext d; rw [cntR]
    rw [e, sumN_add, ih fun k hk => h k (by omega), sumN_one, posR]
    have := h j (by omega)
    by_cases c : 0 ≤ rd D (j : Int)
    · rw [if_pos ⟨c, this⟩, if_pos c]
    · rw [if_neg (fun k => c k.1), if_neg c]
theorem cnt_zero {E : Nat → Nat → Prop} {n v : Nat} (j : Nat) (hj : j ≤ n) : cntR (distL E n v) 0 j = if v < j then 1 else 0 := by
  induction j with
  | zero => rfl
  | succ j ih =>
    rw [cntR, ih (by omega)]
    have h := dist_zero (E := E) (n := n) (v := v) (w := j) (by omega)
    by_cases c : j = v
    · rw [if_pos (h.2 c), if_neg (by omega), if_pos (by omega)]
    · rw [if_neg (fun k => c (h.1 k))]
      by_cases d : v < j
      · rw [if_pos d, if_pos (by omega)]
      · rw [if_neg d, if_neg (by omega)]
/-- The distances and the levels: both wrong, or the levels add up to the vertices reached, one of them at 0. -/
theorem lev_facts (n : Int) (rows : List Int) (v : Int) : ((distsR n rows v).2 ≠ 0 ∧ (distsR n rows v).1 = [] ∧ (levR n rows v).2 = (distsR n rows v).2) ∨
    ((distsR n rows v).2 = 0 ∧ (levR n rows v).2 = 0 ∧ Ev (fun q => laws_sum.f q (levR n rows v).1) ((posR (distsR n rows v).1 (distsR n rows v).1.length : Nat) : Int) ∧ 0 < (levR n rows v).1.length ∧ rd (levR n rows v).1 0 = 1) := by
  unfold distsR levR
  by_cases g : IsG n rows
  · simp only [if_pos g]
    by_cases c : 0 ≤ v ∧ v < n
    · refine .inr ?_
      simp only [if_pos c]
      obtain ⟨u, rfl⟩ := Int.eq_ofNat_of_zero_le c.1
      have hu : u < n.toNat := by omega
      have hle := g.le
      simp only [Int.toNat_natCast]
      have hl := distL_length (Adj rows) n.toNat u
      have hz := (dist_zero (E := Adj rows) (n := n.toNat) (v := u) hu).2 rfl
      have hc := cnt_zero (E := Adj rows) (n := n.toNat) (v := u) n.toNat (Nat.le_refl _)
      have hb := distL_bds (Adj rows) (n := n.toNat) (v := u) hle hu
      generalize distL (Adj rows) n.toNat u = D at hl hz hc hb ⊢
      have top := topV_top (l := D) (by omega)
      have tb := topV_bd (D := D) (lo := -1) (hi := 62) (by omega) hb
      have t0 := top.1 u (by omega)
      rw [hz] at t0
      have hL := levL_length D
      have key : ∀ k : Nat, k < (levL D).length → rd (levL D) (k : Int) = ((cntR D (k : Int) D.length : Nat) : Int) := fun k hk => by
        rw [rd_get _ k hk]
        simp [levL]
      have hs := sum_cnt D (levL D).length D.length (fun k hk => by have := top.1 k hk; omega)
      have hp := posR_le D D.length
      refine ⟨trivial, trivial, ?_, by omega, ?_⟩
      · rw [← hs]
        exact laws_sum.ev (f := fun d => cntR D (d : Int) D.length) (by omega) key (by rw [hs]; omega)
      · have := key 0 (by omega)
        rw [show ((0 : Nat) : Int) = 0 from rfl] at this
        rw [this, hl, hc, if_pos hu]
        rfl
    · refine .inl ?_
      simp only [if_neg c]
      exact ⟨by omega, trivial, trivial⟩
  · refine .inl ?_
    simp only [if_neg g]
    exact ⟨by omega, trivial, trivial⟩


end Go.Proofs.YtockngphfpedkaaDoor.XFnDistances
