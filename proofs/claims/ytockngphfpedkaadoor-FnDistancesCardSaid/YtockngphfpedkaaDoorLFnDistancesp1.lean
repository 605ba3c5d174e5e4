/- What the functions that FnDistances reaches compute. -/
import Derived.Test.YtockngphfpedkaaDoorLFnDistancesp0
import Derived.Test.YtockngphfpedkaaDoorGr
namespace Go.Proofs.YtockngphfpedkaaDoor.XFnDistances
open Go.RowKit Go.Proofs.YtockngphfpedkaaDoorW.PrintWords Go.Proofs.YtockngphfpedkaaDoorW.PrintLast Go.Proofs.YtockngphfpedkaaDoor.B
open Classical
set_option linter.unusedVariables false
set_option linter.unusedSimpArgs false
set_option linter.unusedSectionVars false

/-! ### draws: each draw ends, and what it draws is well made -/
/-- The bytes that a draw reads. -/
def Bts (s0 : List Int) : Prop := s0.length ≤ 4096 ∧ ∀ x ∈ s0, 0 ≤ x ∧ x ≤ 255
def InS (s0 : List Int) (s1 : Int) : Prop := 0 ≤ s1 ∧ s1 ≤ (s0.length : Int)
/-- A size and as many rows. -/
def Gd (n : Int) (rows : List Int) : Prop := 1 ≤ n ∧ n ≤ 62 ∧ (rows.length : Int) = n
theorem dOf {p : Prop} {a : Decidable p} (h : @decide p a = true) : p := of_decide_eq_true h
theorem Bts.at {s0 : List Int} (b : Bts s0) {i : Int} (h0 : 0 ≤ i) (h1 : i < s0.length) : 0 ≤ rd s0 i ∧ rd s0 i ≤ 255 := by
  obtain ⟨j, rfl⟩ := Int.eq_ofNat_of_zero_le h0
  have hj : j < s0.length := by omega
  have e : rd s0 (j : Int) = s0[j] := rd_get s0 j hj
  rw [e]
  exact b.2 _ (List.getElem_mem hj)
theorem and24 (x : Int) : 0 ≤ Go.bits .and .u64 x 16777215 ∧ Go.bits .and .u64 x 16777215 ≤ 16777215 := by
  have h : Go.bits .and .u64 x 16777215 = IntKind.u64.wrap (((BitVec.ofInt 64 x &&& BitVec.ofInt 64 16777215).toNat : Nat) : Int) := rfl
  have hm : (BitVec.ofInt 64 x &&& BitVec.ofInt 64 16777215).toNat ≤ 16777215 := by
    rw [BitVec.toNat_and]
    exact Nat.le_trans Nat.and_le_right (by decide)
  rw [h]
  generalize (BitVec.ofInt 64 x &&& BitVec.ofInt 64 16777215).toNat = m at hm
  rw [u64 (by omega) (by omega)]
  omega
theorem spec_l01Next.ok {s0 : List Int} {s1 : Int} (s2 n : Int) (b : Bts s0) (h : InS s0 s1) : ∃ v t1 t2, spec_l01Next.f s0 s1 s2 n = some (v, t1, t2) ∧ InS s0 t1 ∧ 0 ≤ v ∧ (1 ≤ n → v < n) := by
  obtain ⟨h0, h1⟩ := h
  have hl := b.1
  unfold spec_l01Next.f
  by_cases c : n < 1
  · rw [if_pos c]
    exact ⟨_, _, _, rfl, ⟨h0, h1⟩, Int.le_refl _, fun h => absurd h (by omega)⟩
  · rw [if_neg c]
    generalize (IntKind.u64.wrap ((IntKind.u64.wrap (s2 * 6364136223846793005)) + 1442695040888963407)) = z
    obtain ⟨a0, a1⟩ := and24 (z / 8589934592)
    by_cases d : s1 < (s0.length : Int)
    · obtain ⟨r0, r1⟩ := b.at h0 d
      rw [if_pos d, if_pos h0, if_neg (show ¬ n = 0 by omega)]
      rw [w64 (n := Go.bits .and .u64 (z / 8589934592) 16777215) (by omega) (by omega), w64 (n := rd s0 s1) (by omega) (by omega), w64 (n := s1 + 1) (by omega) (by omega), w64 (by omega) (by omega)]
      exact ⟨_, _, _, rfl, ⟨by omega, by omega⟩, Int.tmod_nonneg _ (by omega), fun _ => Int.tmod_lt_of_pos _ (by omega)⟩
    · rw [if_neg d, if_neg (show ¬ n = 0 by omega)]
      rw [w64 (n := Go.bits .and .u64 (z / 8589934592) 16777215) (by omega) (by omega)]
      exact ⟨_, _, _, rfl, ⟨h0, h1⟩, Int.tmod_nonneg _ (by omega), fun _ => Int.tmod_lt_of_pos _ (by omega)⟩
theorem spec_l01Pick.ok {s0 : List Int} {s1 : Int} (s2 : Int) {l : List Int} (b : Bts s0) (h : InS s0 s1) (hl : l ≠ []) : ∃ v t1 t2, spec_l01Pick.f s0 s1 s2 l = some (v, t1, t2) ∧ InS s0 t1 ∧ v ∈ l := by
  have hp : 0 < l.length := List.length_pos_iff.2 hl
  obtain ⟨v, t1, t2, e, i, h0, h1⟩ := spec_l01Next.ok s2 (l.length : Int) b h
  have h2 := h1 (by omega)
  unfold spec_l01Pick.f
  rw [e]
  simp only [Option.bind_some]
  rw [if_pos h0, if_pos h2]
  obtain ⟨j, rfl⟩ := Int.eq_ofNat_of_zero_le h0
  have hj : j < l.length := by omega
  refine ⟨_, _, _, rfl, i, ?_⟩
  have e2 : rd l (j : Int) = l[j] := rd_get l j hj
  show rd l (j : Int) ∈ l
  rw [e2]
  exact List.getElem_mem hj
theorem spec_l01Own.sp {l : List Int} (h : l.length ≤ 100000) : spec_l01Own.f l = some l := by
  unfold spec_l01Own.f
  simp only [Option.bind_some, List.length_nil, List.nil_append]
  rw [if_pos (by omega)]
theorem Gd.put {n : Int} {rows : List Int} (g : Gd n rows) (a b : Int) (ha : 0 ≤ a) (ha1 : a < n) (hb : 0 ≤ b) (hb1 : b < n) : spec_l01Put.f n rows a b = some (putE rows a b) ∧ Gd n (putE rows a b) := by
  obtain ⟨g1, g2, g3⟩ := g
  exact ⟨spec_l01Put.sp n rows a b ha (by omega) hb (by omega) (by omega), g1, g2, by rw [putE_length]; exact g3⟩
theorem Gd.empty {n : Int} (h1 : 1 ≤ n) (h2 : n ≤ 62) : Gd n (List.replicate n.toNat 0) := ⟨h1, h2, by rw [List.length_replicate]; omega⟩
theorem tm_in {a n : Int} (h : 0 ≤ a) (hn : 1 ≤ n) : 0 ≤ Int.tmod a n ∧ Int.tmod a n < n := ⟨Int.tmod_nonneg _ h, Int.tmod_lt_of_pos _ (by omega)⟩
theorem spec_l01Jumps.ok_l {n : Int} {l : List Int} (hl : ∀ x ∈ l, 0 ≤ x ∧ x ≤ 100) (hc : l.length ≤ 100) (d : Nat) : ∀ (i : Nat) (rows : List Int), (i : Int) + d = n → Gd n rows → ∃ r, Ev (fun q => spec_l01Jumps.l0 q n l (i : Int) n rows) (n, r) ∧ Gd n r := by
  induction d with
  | zero =>
    intro i rows h g
    refine ⟨rows, Ev.step (fun k => spec_l01Jumps.l0.eq_2 ..) ?_, g⟩
    simp only [if_neg (show ¬ ((i : Int) < n) by omega)]
    exact Ev.now _
  | succ d ih =>
    intro i rows h g
    have h1 := g.1
    have h2 := g.2.1
    have hi : (i : Int) < n := by omega
    obtain ⟨a0, a1⟩ := tm_in (a := (i : Int) + 1) (n := n) (by omega) h1
    obtain ⟨e, g'⟩ := g.put (i : Int) (Int.tmod ((i : Int) + 1) n) (by omega) hi a0 a1
    have w1 : wrap64 ((i : Int) + 1) = ((i + 1 : Nat) : Int) := by rw [w64 (by omega) (by omega)]; rfl
    by_cases c : l = []
    · subst c
      obtain ⟨r, hr, gr⟩ := ih (i + 1) _ (by omega) g'
      refine ⟨r, Ev.step (fun k => spec_l01Jumps.l0.eq_2 ..) ?_, gr⟩
      rw [w1]
      simp only [if_pos hi, if_neg (show ¬ n = 0 by omega)]
      rw [show (((i + 1 : Nat) : Int)) = (i : Int) + 1 from rfl, e]
      simp only [Option.bind_some, List.length_nil, if_neg (show ¬ (((0 : Nat) : Int) > 0) by omega)]
      exact hr
    · have hp : 0 < l.length := List.length_pos_iff.2 c
      obtain ⟨b0, b1⟩ := tm_in (a := (i : Int)) (n := (l.length : Int)) (by omega) (by omega)
      obtain ⟨x0, x1⟩ := hl _ (rd_mem b0 b1)
      obtain ⟨c0, c1⟩ := tm_in (a := (i : Int) + rd l (Int.tmod (i : Int) (l.length : Int))) (n := n) (by omega) h1
      obtain ⟨e2, g2⟩ := g'.put (i : Int) (Int.tmod ((i : Int) + rd l (Int.tmod (i : Int) (l.length : Int))) n) (by omega) hi c0 c1
      obtain ⟨r, hr, gr⟩ := ih (i + 1) _ (by omega) g2
      refine ⟨r, Ev.step (fun k => spec_l01Jumps.l0.eq_2 ..) ?_, gr⟩
      rw [w1, w64 (n := (i : Int) + rd l (Int.tmod (i : Int) (l.length : Int))) (by omega) (by omega)]
      simp only [if_pos hi, if_neg (show ¬ n = 0 by omega)]
      rw [show (((i + 1 : Nat) : Int)) = (i : Int) + 1 from rfl, e]
      simp only [Option.bind_some, if_pos (show (l.length : Int) > 0 by omega), if_neg (show ¬ ((l.length : Int) = 0) by omega), if_pos b0, if_pos b1]
      rw [e2]
      simp only [Option.bind_some]
      exact hr
theorem spec_l01Jumps.ok {n : Int} (h1 : 1 ≤ n) (h2 : n ≤ 62) {l : List Int} (hl : ∀ x ∈ l, 0 ≤ x ∧ x ≤ 100) (hc : l.length ≤ 100) : ∃ r, Ev (fun q => spec_l01Jumps.f q n l) (n, r) ∧ Gd n r := by
  obtain ⟨r, hr, g⟩ := spec_l01Jumps.ok_l hl hc n.toNat 0 _ (by omega) (Gd.empty h1 h2)
  refine ⟨r, ?_, g⟩
  unfold spec_l01Jumps.f
  rw [spec_l01Empty.sp n (by omega) (by omega)]
  simp only [Option.bind_some]
  exact hr
/-- Each name's graph, reckoned. -/
def namedOk (i : Nat) : Bool := match spec_l01Names.f with
  | none => false
  | some L => match spec_l01Named.f 2000 (rdOf ByteArray.empty L (i : Int)) with
    | none => false
    | some (n, r, _) => decide (1 ≤ n ∧ n ≤ 62 ∧ (r.length : Int) = n)
set_option maxRecDepth 100000 in
theorem named_all : ∀ i, i < 15 → namedOk i = true := by decide +kernel
theorem spec_l01Names.sp : ∃ L, spec_l01Names.f = some L ∧ L.length = 15 ∧ ∀ i : Nat, i < 15 → ∃ n r b, Ev (fun q => spec_l01Named.f q (rdOf ByteArray.empty L (i : Int))) (n, r, b) ∧ Gd n r := by
  refine ⟨_, rfl, rfl, fun i hi => ?_⟩
  have h := named_all i hi
  unfold namedOk at h
  rw [show spec_l01Names.f = some _ from rfl] at h
  simp only at h
  split at h
  · cases h
  · rename_i n r b e
    exact ⟨n, r, b, Ev.of (fun k => spec_l01Named.mono _ k) e, dOf h⟩
theorem spec_l01DrawOrder.ok_l {s0 : List Int} (b : Bts s0) {n : Int} (hn : n ≤ 62) (d : Nat) : ∀ (i : Nat) (out : List Int) (s1 s2 : Int), (i : Int) + d = n → out.length = i → (∀ x ∈ out, 0 ≤ x ∧ x < (i : Int)) → InS s0 s1 →
    ∃ l t1 t2, Ev (fun q => spec_l01DrawOrder.l0 q n out (i : Int) s0 s1 s2) (l, t1, t2) ∧ (l.length : Int) = n ∧ (∀ x ∈ l, 0 ≤ x ∧ x < n) ∧ InS s0 t1 := by
  induction d with
  | zero =>
    intro i out s1 s2 h hl hx hs
    refine ⟨out, s1, s2, Ev.step (fun k => spec_l01DrawOrder.l0.eq_2 ..) ?_, by omega, fun x m => by have := hx x m; omega, hs⟩
    simp only [if_neg (show ¬ ((i : Int) < n) by omega)]
    exact Ev.now _
  | succ d ih =>
    intro i out s1 s2 h hl hx hs
    obtain ⟨v, t1, t2, e, i1, v0, v1⟩ := spec_l01Next.ok s2 ((i : Int) + 1) b hs
    have v2 := v1 (by omega)
    have w1 : wrap64 ((i : Int) + 1) = (i : Int) + 1 := w64 (by omega) (by omega)
    have ht : (out.take v.toNat).length ≤ i := by rw [List.length_take]; omega
    have hd : (out.drop v.toNat).length ≤ i := by rw [List.length_drop]; omega
    obtain ⟨l, u1, u2, hr, p1, p2, p3⟩ := ih (i + 1) ((out.take v.toNat ++ [(i : Int)]) ++ out.drop v.toNat) t1 t2 (by omega)
      (by rw [List.length_append, List.length_append, List.length_take, List.length_drop]; simp only [List.length_cons, List.length_nil]; omega)
      (fun x m => by
        rw [List.mem_append, List.mem_append, List.mem_singleton] at m
        rcases m with (m | m) | m
        · have := hx x (List.mem_of_mem_take m); omega
        · omega
        · have := hx x (List.mem_of_mem_drop m); omega) i1
    refine ⟨l, u1, u2, Ev.step (fun k => spec_l01DrawOrder.l0.eq_2 ..) ?_, p1, p2, p3⟩
    rw [w1, e]
    simp only [Option.bind_some, if_pos (show (i : Int) < n by omega), if_pos v0, if_pos (show v ≤ (out.length : Int) by omega)]
    rw [spec_l01Own.sp (by omega)]
    simp only [Option.bind_some, List.length_append, List.length_cons, List.length_nil]
    simp only [if_pos (show (out.take v.toNat).length + (0 + 1) < 17592186044416 by omega), if_pos (show (out.take v.toNat).length + (0 + 1) + (out.drop v.toNat).length < 17592186044416 by omega)]
    exact hr
theorem spec_l01DrawOrder.ok {s0 : List Int} (b : Bts s0) {n : Int} (h1 : 1 ≤ n) (hn : n ≤ 62) {s1 : Int} (s2 : Int) (hs : InS s0 s1) :
    ∃ l t1 t2, Ev (fun q => spec_l01DrawOrder.f q s0 s1 s2 n) (l, t1, t2) ∧ (l.length : Int) = n ∧ (∀ x ∈ l, 0 ≤ x ∧ x < n) ∧ InS s0 t1 := by
  unfold spec_l01DrawOrder.f
  exact spec_l01DrawOrder.ok_l b hn n.toNat 0 [] s1 s2 (by omega) rfl (fun x m => by cases m) hs
theorem spec_l01Renamed.ok_1 {n : Int} {rows ord : List Int} (g0 : Gd n rows) (ho : (ord.length : Int) = n) (hx : ∀ x ∈ ord, 0 ≤ x ∧ x < n) {v : Nat} (hv : (v : Int) < n)
    (next : ∀ out, Gd n out → ∃ r, Ev (fun q => spec_l01Renamed.l0 q ord ((v + 1 : Nat) : Int) n rows n out) (n, r) ∧ Gd n r) (d : Nat) : ∀ (u : Nat) (out : List Int), u + d = v → Gd n out →
    ∃ r, Ev (fun q => spec_l01Renamed.l1 q ord (v : Int) (u : Int) n rows n out) (n, r) ∧ Gd n r := by
  have h1 := g0.1
  have h2 := g0.2.1
  have h3 := g0.2.2
  induction d with
  | zero =>
    intro u out h g
    obtain ⟨r, hr, gr⟩ := next out g
    refine ⟨r, Ev.step (fun k => spec_l01Renamed.l1.eq_2 ..) ?_, gr⟩
    simp only [if_neg (show ¬ ((u : Int) < (v : Int)) by omega)]
    rw [show wrap64 ((v : Int) + 1) = ((v + 1 : Nat) : Int) by rw [w64 (by omega) (by omega)]; rfl]
    exact hr
  | succ d ih =>
    intro u out h g
    have hu : wrap64 ((u : Int) + 1) = ((u + 1 : Nat) : Int) := by rw [w64 (by omega) (by omega)]; rfl
    obtain ⟨a0, a1⟩ := hx _ (rd_mem (l := ord) (i := (v : Int)) (by omega) (by omega))
    obtain ⟨b0, b1⟩ := hx _ (rd_mem (l := ord) (i := (u : Int)) (by omega) (by omega))
    obtain ⟨e, g'⟩ := g.put (rd ord (v : Int)) (rd ord (u : Int)) a0 a1 b0 b1
    have key : ∀ t : Bool, ∃ r, Ev (fun q => if t = true then (if (0 : Int) ≤ (v : Int) then (if (v : Int) < (ord.length : Int) then (if (0 : Int) ≤ (u : Int) then (if (u : Int) < (ord.length : Int) then ((spec_l01Put.f n out (rd ord (v : Int)) (rd ord (u : Int))).bind fun t289 => (spec_l01Renamed.l1 q ord (v : Int) (wrap64 ((u : Int) + 1)) n rows n t289)) else none) else none) else none) else none) else spec_l01Renamed.l1 q ord (v : Int) (wrap64 ((u : Int) + 1)) n rows n out) (n, r) ∧ Gd n r := by
      intro t
      cases t with
      | true =>
        obtain ⟨r, hr, gr⟩ := ih (u + 1) _ (by omega) g'
        refine ⟨r, ?_, gr⟩
        rw [hu, e]
        simp only [if_true, if_pos (show (0 : Int) ≤ (v : Int) by omega), if_pos (show (v : Int) < (ord.length : Int) by omega), if_pos (show (0 : Int) ≤ (u : Int) by omega), if_pos (show (u : Int) < (ord.length : Int) by omega), Option.bind_some]
        exact hr
      | false =>
        obtain ⟨r, hr, gr⟩ := ih (u + 1) _ (by omega) g
        refine ⟨r, ?_, gr⟩
        rw [hu]
        simp only [Bool.false_eq_true, if_false]
        exact hr
    have hh : spec_l01Has.f n rows (v : Int) (u : Int) = some (dig (rd rows (v : Int)) u) := by
      rw [spec_l01Has.sp n rows (v : Int) (u : Int) (by omega) (by omega) (by omega) (by omega), Int.toNat_natCast]
    obtain ⟨r, hr, gr⟩ := key (dig (rd rows (v : Int)) u)
    refine ⟨r, Ev.step (fun k => spec_l01Renamed.l1.eq_2 ..) ?_, gr⟩
    rw [hh]
    simp only [if_pos (show (u : Int) < (v : Int) by omega), Option.bind_some]
    exact hr
theorem spec_l01Renamed.ok_0 {n : Int} {rows ord : List Int} (g0 : Gd n rows) (ho : (ord.length : Int) = n) (hx : ∀ x ∈ ord, 0 ≤ x ∧ x < n) (d : Nat) : ∀ (v : Nat) (out : List Int), (v : Int) + d = n → Gd n out →
    ∃ r, Ev (fun q => spec_l01Renamed.l0 q ord (v : Int) n rows n out) (n, r) ∧ Gd n r := by
  induction d with
  | zero =>
    intro v out h g
    refine ⟨out, Ev.step (fun k => spec_l01Renamed.l0.eq_2 ..) ?_, g⟩
    simp only [if_neg (show ¬ ((v : Int) < n) by omega)]
    exact Ev.now _
  | succ d ih =>
    intro v out h g
    obtain ⟨r, hr, gr⟩ := spec_l01Renamed.ok_1 g0 ho hx (v := v) (by omega) (fun o go => ih (v + 1) o (by omega) go) v 0 out (by omega) g
    refine ⟨r, Ev.step (fun k => spec_l01Renamed.l0.eq_2 ..) ?_, gr⟩
    simp only [if_pos (show (v : Int) < n by omega)]
    exact hr
theorem spec_l01Renamed.ok {n : Int} {rows ord : List Int} (g : Gd n rows) (ho : (ord.length : Int) = n) (hx : ∀ x ∈ ord, 0 ≤ x ∧ x < n) : ∃ r, Ev (fun q => spec_l01Renamed.f q n rows ord) (n, r) ∧ Gd n r := by
  obtain ⟨r, hr, gr⟩ := spec_l01Renamed.ok_0 g ho hx n.toNat 0 _ (by have := g.1; omega) (Gd.empty g.1 g.2.1)
  refine ⟨r, ?_, gr⟩
  unfold spec_l01Renamed.f
  rw [spec_l01Empty.sp n (by have := g.1; omega) (by have := g.2.1; omega)]
  simp only [Option.bind_some]
  exact hr


end Go.Proofs.YtockngphfpedkaaDoor.XFnDistances
