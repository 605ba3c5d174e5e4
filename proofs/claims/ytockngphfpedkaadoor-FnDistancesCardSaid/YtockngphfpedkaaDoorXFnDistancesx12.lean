-- Written by this project's own program (mprint.py) by means of the kit's printer: with contracts of its own for the functions that the printer leaves out.
import Derived.Test.YtockngphfpedkaaDoorXFnDistancesx0
import Derived.Test.YtockngphfpedkaaDoorXFnDistancesx11
namespace Go.Proofs.YtockngphfpedkaaDoor.XFnDistances
open Go.RowKit Go.Proofs.YtockngphfpedkaaDoorW.PrintWords Go.Proofs.YtockngphfpedkaaDoorW.PrintLast Go.Proofs.YtockngphfpedkaaDoorW.PrintMore
attribute [local go_sem] max2_int min2_int max_two min_two max_three min_three max_four min_four   -- for this text's walks alone
set_option linter.unusedVariables false
set_option linter.unusedSimpArgs false

/-! ### bits_Mul64: function 128 -/
def bits_Mul64.f (a0 : Int) (a1 : Int) : Option (Int × Int) := some (IntKind.u64.wrap ((IntKind.u64.wrap ((IntKind.u64.wrap ((a0 / 4294967296) * (a1 / 4294967296))) + ((IntKind.u64.wrap ((IntKind.u64.wrap ((a0 / 4294967296) * (Go.bits .and .u64 a1 4294967295))) + ((IntKind.u64.wrap ((Go.bits .and .u64 a0 4294967295) * (Go.bits .and .u64 a1 4294967295))) / 4294967296))) / 4294967296))) + ((IntKind.u64.wrap ((Go.bits .and .u64 (IntKind.u64.wrap ((IntKind.u64.wrap ((a0 / 4294967296) * (Go.bits .and .u64 a1 4294967295))) + ((IntKind.u64.wrap ((Go.bits .and .u64 a0 4294967295) * (Go.bits .and .u64 a1 4294967295))) / 4294967296))) 4294967295) + (IntKind.u64.wrap ((Go.bits .and .u64 a0 4294967295) * (a1 / 4294967296))))) / 4294967296)), IntKind.u64.wrap (a0 * a1))
set_option maxHeartbeats 8000000 in
set_option maxRecDepth 100000 in
theorem bits_Mul64.calls (a0 : Int) (a1 : Int) (r1 : Int) (r2 : Int) (w : World) (h : bits_Mul64.f a0 a1 = some (r1, r2)) :
    Calls Tryd.prog 128 #[.int .u64 a0, .int .u64 a1] w fun e w' => e = .returned (.tuple #[.int .u64 r1, .int .u64 r2]) ∧ Drawn0 w w' := by
  unfold bits_Mul64.f at h; have H := h
  clear h
  simp only [Option.some.injEq, Prod.mk.injEq] at H
  obtain ⟨rfl, rfl⟩ := H
  go_enter Tryd.func128, Tryd.ntmps128
  go_wp2
  go_ret2
  exact ⟨rfl, by repeat (first | exact Drawn0.refl _ | apply Drawn0.step)⟩

/-! ### bits_Mul: function 99 -/
def bits_Mul.f (a0 : Int) (a1 : Int) : Option (Int × Int) := (bits_Mul64.f a0 a1).bind fun bt513 => (some (bt513.1, bt513.2))
set_option maxHeartbeats 8000000 in
set_option maxRecDepth 100000 in
theorem bits_Mul.calls (a0 : Int) (a1 : Int) (r1 : Int) (r2 : Int) (w : World) (h : bits_Mul.f a0 a1 = some (r1, r2)) :
    Calls Tryd.prog 99 #[.int .u64 a0, .int .u64 a1] w fun e w' => e = .returned (.tuple #[.int .u64 r1, .int .u64 r2]) ∧ Drawn0 w w' := by
  have H : ((bits_Mul64.f a0 a1).bind fun bt513 => (some (bt513.1, bt513.2))) = some (r1, r2) := h
  clear h
  replace H := Option.bind_eq_some_iff.mp H
  obtain ⟨⟨t513, t514⟩, A30, H⟩ := H
  dsimp only at H
  have A3 := Fa.mk A30
  clear A30
  simp only [Option.some.injEq, Prod.mk.injEq] at H
  obtain ⟨rfl, rfl⟩ := H
  go_enter Tryd.func99, Tryd.ntmps99
  go_wp2_with (first | ((with_reducible refine gc 128 rfl ?_); refine gL 25 Tryd.func128 #[.int .u64 a0, .int .u64 a1] rfl (by first | rfl | (simp only [mA, mC, mN]; rfl)) ?_; (with_reducible refine (bits_Mul64.calls a0 a1 t513 t514 _ A3.out).mono ?_); rintro e w' ⟨rfl, ⟨nd, rfl⟩⟩; refine ⟨_, rfl, ?_⟩))
  go_ret2
  exact ⟨rfl, by repeat (first | exact Drawn0.refl _ | apply Drawn0.step)⟩

/-! ### slices.Repeat of one number: by hand (it panics with a string, and copies within what it made) -/
def slices_Repeat_int64_int64.f (l0 : List Int) (a1 : Int) : Option (List Int) := if l0.length = 1 then (if 1 ≤ a1 then (if a1 ≤ 62 then some (List.replicate a1.toNat (rd l0 0)) else none) else none) else none
theorem mul_one_ : ∀ n : Fin 63, bits_Mul.f 1 (n.val : Int) = some (0, (n.val : Int)) := by decide +kernel
/-- A row made, its block named. -/
theorem make_named {P : Program} {w0 W : World} {ops : Array Oper} {rest : List Oper} {o : Oper} {a : Act} {Q : Exit → Act → World → Prop} {B e : Nat} (hgd : o.guard = none) {N : Tmp} (hd : o.dst = some N) (t : TypeId) (x y : Operand) (ho : o.op = .makeSlice t x y) (n : Nat) (hn : n ≤ 1000) (hx : a.eval x = .int .i64 n) (hy : a.eval y = .int .i64 n)
    (ht : P.underlying t = some (.slice e)) (hinfo : (P.info? e).map (fun i => (i.zero, i.size, i.bytes)) = some (some (.int .i64 0), 1, 8)) (hb : Below B w0 W) (hB : B ≤ W.heap.size)
    (h : ∀ g w1, B ≤ g → Fa (w1.heap[g]? = some (.cells (List.replicate n (Value.int .i64 0)).toArray e (0, 0))) → Below B w0 w1 → wpList P ops Q rest (a.put o.dst (.slice (some ⟨g, 0, none⟩) n n)) w1) : wpList P ops Q (o :: rest) a W := by
  obtain ⟨i0, hi, hzz⟩ := Option.map_eq_some_iff.1 hinfo
  simp only [Prod.mk.injEq] at hzz
  obtain ⟨hz0, hz1, hz2⟩ := hzz
  have hr := run_make (P := P) W t e i0 (.int .i64 0) ht hi hz0 .i64 .i64 (n : Int) (n : Int) (by omega) (by omega) (by rw [hz2]; omega) (by omega)
  simp only [Int.toNat_natCast, hz1, Nat.mul_one] at hr
  refine wpList_plain hgd fun K hK => ?_
  unfold Oper.wp
  simp [execOp, ho, hx, hy, hr, Result.andThen]
  refine hK _ _ (h W.heap.size _ hB ⟨?_⟩ (hb.alloc hB _))
  rw [heap_alloc_new]
  congr 2
  refine Array.ext (by simp [madeCells, Value.cells]) fun i h1 h2 => ?_
  simp [madeCells, Value.cells, Nat.mod_one]
set_option maxHeartbeats 4000000 in
set_option maxRecDepth 100000 in
theorem slices_Repeat_int64_int64.calls (A0 : Option Addr) (c0 : Nat) (l0 : List Int) (a1 : Int) (r : List Int) (w : World) (hr0 : Kd.C (Kd.int .i64) w A0 l0.length l0) (hc0 : l0.length ≤ c0) (h : slices_Repeat_int64_int64.f l0 a1 = some r) :
    Calls Tryd.prog 78 #[.slice A0 l0.length c0, .int .i64 a1] w fun e w' => ∃ v0_ : Value, e = .returned v0_ ∧ Kd.R (Kd.int .i64) 2 w' w.heap.size (fun _ => True) v0_ r ∧ Below w.heap.size w w' := by
  unfold slices_Repeat_int64_int64.f at h
  split at h
  case isFalse => cases h
  rename_i h1
  split at h
  case isFalse => cases h
  rename_i h2
  split at h
  case isFalse => cases h
  rename_i h3
  injection h with h
  subst h
  obtain ⟨N, rfl⟩ := Int.eq_ofNat_of_zero_le (show 0 ≤ a1 by omega)
  obtain ⟨ad, rfl, hx⟩ := Kd.at_int hr0 0 (by omega) (by omega)
  have hx' : Fa (w.cell? ad = some (.int .i64 (rd l0 0))) := ⟨by rw [show (0 : Int).toNat = 0 from rfl, Addr.add_zero'] at hx; exact hx⟩
  clear hx hr0
  generalize rd l0 0 = x at hx' ⊢
  rw [h1]
  rw [h1] at hc0
  have hm := Fa.mk (mul_one_ ⟨N, by omega⟩)
  have e1 : decide ((N : Int) < 0) = false := decide_eq_false (by omega)
  have e2 : IntKind.u64.wrap (N : Int) = N := by rw [IntKind.wrap_u64]; omega
  have e3 : decide ((9223372036854775807 : Int) < (N : Int)) = false := decide_eq_false (by omega)
  have e4 : IntKind.i64.wrap (N : Int) = N := by rw [IntKind.wrap_i64]; omega
  obtain ⟨C1, hC1⟩ : ∃ C1, C1 = [Value.int .i64 x] := ⟨_, rfl⟩
  have HC1 := Fa.mk hC1
  clear hC1
  have src : Fa (∀ w1, Below w.heap.size w w1 → ∀ j v, C1[j]? = some v → w1.cell? (ad.add j) = some v) := ⟨fun w1 hb j v hj => by
    rw [HC1.out] at hj
    cases j with
    | zero =>
      simp only [List.getElem?_cons_zero, Option.some.injEq] at hj
      subst hj
      rw [Addr.add_zero']
      exact pw_cell_below hb hx'.out
    | succ j => simp at hj⟩
  have n1 := Fa.mk (show C1.length = 1 by rw [HC1.out]; rfl)
  have o1 := Fa.mk (show ∀ v ∈ C1, v.oneCell' = true by rw [HC1.out]; intro v hv; simp only [List.mem_singleton] at hv; subst hv; rfl)
  have row1 := Fa.mk (show splice (List.replicate N (Value.int .i64 0)) 0 C1 = List.replicate 1 (Value.int .i64 x) ++ List.replicate (N - 1) (Value.int .i64 0) by
    rw [HC1.out]; unfold splice; simp)
  go_enter Tryd.func78, Tryd.ntmps78
  go_wp2_with (first
    | (go_at_call 99; refine (bits_Mul.calls 1 (N : Int) 0 (N : Int) _ hm.out).mono ?_; rintro e w' ⟨rfl, ⟨nd, rfl⟩⟩)
    | ((with_reducible refine gd 30 rfl ?_); refine make_named (w0 := w) (B := w.heap.size) rfl (N := 30) rfl 24 _ _ rfl N (by omega) rfl rfl Tryd.underlying24 info2 (by repeat (first | exact Below.refl _ _ | apply below_alloc | apply pw_below_drewN | apply below_drew1)) (Nat.le_refl _) ?_; intro g w1 hg HG HB)
    | ((with_reducible refine gd 33 rfl ?_); refine wpList_copy_splice rfl (.tmp 31) (.tmp 32) 24 24 rfl 2 Tryd.underlying24 (by kernel_rfl) _ _ _ _ _ _ rfl rfl g 0 (List.replicate N (Value.int .i64 0)) 2 HG.out C1 (by rw [n1.out]; exact (Nat.min_eq_left (by omega)).symm) (fun _ => ⟨rfl, ad, rfl, src.out _ HB⟩) (by rw [n1.out, List.length_replicate]; omega) o1.out w.heap.size w HB hg ?_; intro w2 HG2 HB2; rw [n1.out]))
  have HG3 := Fa.mk (show w2.heap[g]? = some (.cells (List.replicate 1 (Value.int .i64 x) ++ List.replicate (N - 1) (Value.int .i64 0)).toArray 2 (0, 0)) by rw [← row1.out]; exact HG2.out)
  clear HG2 row1 HG
  have HB3 := Fa.mk HB2
  clear HB2 HB
  go_loopg [8] N (fun gk v8 w' => ∃ k : Nat, v8 = .int .i64 k ∧ Fa (1 ≤ k ∧ k ≤ N ∧ N ≤ gk + k) ∧ Fa (w'.heap[g]? = some (.cells (List.replicate k (Value.int .i64 x) ++ List.replicate (N - k) (Value.int .i64 0)).toArray 2 (0, 0))) ∧ Fa (Below w.heap.size w w'))
  case atStart => exact ⟨1, rfl, ⟨by omega, by omega, by omega⟩, HG3, HB3⟩
  case round =>
    clear HG3 HB3
    obtain ⟨k, rfl, hk, HG, HB⟩ := hrel
    by_cases c : k < N
    · have cb : decide ((k : Int) < (N : Int)) = true := decide_eq_true (by omega)
      have k0 : decide (0 ≤ (k : Int)) = true := decide_eq_true (by omega)
      have k1 := hk.out
      obtain ⟨g1, rfl⟩ : ∃ g1, gk = g1 + 1 := ⟨gk - 1, by omega⟩
      obtain ⟨m, hm2⟩ : ∃ m, m = min k (N - k) := ⟨_, rfl⟩
      obtain ⟨C2, hC2⟩ : ∃ C2, C2 = List.replicate m (Value.int .i64 x) := ⟨_, rfl⟩
      have HC2 := Fa.mk hC2
      have HM2 := Fa.mk hm2
      have lm : m ≤ k ∧ m ≤ N - k ∧ 1 ≤ m := by omega
      have fin := Fa.mk (show 1 ≤ k + m ∧ k + m ≤ N ∧ N ≤ g1 + (k + m) by omega)
      have ew := Fa.mk (show wrap64 ((k : Int) + (m : Int)) = ((k + m : Nat) : Int) by unfold wrap64; omega)
      clear hC2 hm2
      have n2 := Fa.mk (show C2.length = m by rw [HC2.out]; simp)
      have o2 := Fa.mk (show ∀ v ∈ C2, v.oneCell' = true by rw [HC2.out]; intro v hv; rw [(List.mem_replicate.1 hv).2]; rfl)
      have row2 := Fa.mk (show splice (List.replicate k (Value.int .i64 x) ++ List.replicate (N - k) (Value.int .i64 0)) k C2 = List.replicate (k + m) (Value.int .i64 x) ++ List.replicate (N - (k + m)) (Value.int .i64 0) by
        rw [HC2.out]; unfold splice
        rw [List.take_left' (by simp), List.length_replicate, List.drop_append, List.drop_eq_nil_of_le (by simp), List.nil_append, List.length_replicate, List.drop_replicate, ← List.append_assoc, List.replicate_append_replicate]
        congr 2
        omega)
      have src2 : Fa (∀ W : World, W.heap[g]? = some (.cells (List.replicate k (Value.int .i64 x) ++ List.replicate (N - k) (Value.int .i64 0)).toArray 2 (0, 0)) → ∀ j v, C2[j]? = some v → W.cell? ((⟨g, 0, none⟩ : Addr).add j) = some v) := ⟨fun W hW j v hj => by
        rw [HC2.out] at hj
        obtain ⟨hjm, hv⟩ := List.getElem?_eq_some_iff.1 hj
        simp only [List.length_replicate] at hjm
        rw [List.getElem_replicate] at hv
        subst hv
        have hjk : j < k := by omega
        rw [Addr.add_lit, Nat.zero_add]
        refine (blk_cell hW j).trans ?_
        simp [List.getElem?_append_left, hjk]⟩
      obtain ⟨i0, hi0, hzz⟩ := Option.map_eq_some_iff.1 info2
      simp only [Prod.mk.injEq] at hzz
      obtain ⟨hz0, hz1, hz2⟩ := hzz
      have hcf : ∀ W : World, (Instr.slice 24 (.slice (some ⟨g, 0, none⟩) N N) (some (.int .i64 (k : Int))) none none).run Tryd.prog W = .ok (.slice (some ⟨g, k, none⟩) (N - k) (N - k)) W := fun W => by
        have := cut_from (P := Tryd.prog) 24 2 .i64 Tryd.underlying24 hi0 1 hz1 (some ⟨g, 0, none⟩) N N (k : Int) (by omega) (by omega) W
        rw [this]
        simp only [Int.toNat_natCast, if_neg (show ¬ N = k by omega), Option.map_some, Addr.add_lit, Nat.mul_one, Nat.zero_add]
      have hct : ∀ W : World, (Instr.slice 24 (.slice (some ⟨g, 0, none⟩) N N) none (some (.int .i64 (k : Int))) none).run Tryd.prog W = .ok (.slice (some ⟨g, 0, none⟩) k N) W := fun W => by
        have := cut_to (P := Tryd.prog) 24 2 .i64 Tryd.underlying24 hi0 (some ⟨g, 0, none⟩) N N (k : Int) (by omega) (by omega) (Nat.le_refl _) W
        rw [this]
        simp only [Int.toNat_natCast]
      go_wp2
      refine start_ (n := 10) (S := fun w' => Below w.heap.size w w') (ds := []) #[ff, ff, ff, ff, ff, ff, ff, ff, ff, ff] (by kernel_rfl) rfl rfl (below_drew1 HB.out) (fun hHeld => ?_)
      have HGd : wr.drew.heap[g]? = some (.cells (List.replicate k (Value.int .i64 x) ++ List.replicate (N - k) (Value.int .i64 0)).toArray 2 (0, 0)) := HG.out
      clear HG HB
      generalize wr.drew = w13 at hHeld HGd ⊢
      refine pu 0 38 ?_ #[tt, ff, ff, ff, ff, ff, ff, ff, ff, ff] rfl rfl (by kernel_rfl) (Or.inl ⟨by rfl, ?_⟩) ?_ ?_ ?_; rotate_left; intro w'; go_simp; with_reducible rfl; rotate_left; simp only [Act.put, sA, sZ, sC, i64_w, i32_w]; rfl
      refine pu 1 39 ?_ #[tt, tt, ff, ff, ff, ff, ff, ff, ff, ff] rfl rfl (by kernel_rfl) (Or.inl ⟨by rfl, ?_⟩) ?_ ?_ ?_; rotate_left; intro w'; go_simp; with_reducible rfl; rotate_left; simp only [Act.put, sA, sZ, sC, i64_w, i32_w]; rfl
      refine pu 2 40 ?_ #[tt, tt, tt, ff, ff, ff, ff, ff, ff, ff] rfl rfl (by kernel_rfl) (Or.inl ⟨by rfl, ?_⟩) ?_ ?_ ?_; rotate_left; intro w'; go_simp; with_reducible rfl; rotate_left; simp only [Act.put, sA, sZ, sC, i64_w, i32_w]; rfl
      refine pu 3 41 ?_ #[tt, tt, tt, tt, ff, ff, ff, ff, ff, ff] rfl rfl (by kernel_rfl) (Or.inl ⟨by rfl, ?_⟩) ?_ ?_ ?_; rotate_left; intro w'; go_simp; with_reducible rfl; rotate_left; simp only [Act.put, sA, sZ, sC, i64_w, i32_w]; rfl
      refine pu 4 42 ?_ #[tt, tt, tt, tt, tt, ff, ff, ff, ff, ff] rfl rfl (by kernel_rfl) (Or.inl ⟨by rfl, ?_⟩) ?_ ?_ ?_; rotate_left; intro w'; go_simp; with_reducible rfl; rotate_left; simp only [Act.put, sA, sZ, sC, i64_w, i32_w]; rfl
      refine pu 5 43 ?_ #[tt, tt, tt, tt, tt, tt, ff, ff, ff, ff] rfl rfl (by kernel_rfl) (Or.inl ⟨by rfl, ?_⟩) ?_ ?_ ?_; rotate_left; intro w'; go_simp; with_reducible rfl; rotate_left; simp only [Act.put, sA, sZ, sC, i64_w, i32_w]; rfl
      refine pu 6 44 ?_ #[tt, tt, tt, tt, tt, tt, tt, ff, ff, ff] rfl rfl (by kernel_rfl) (Or.inl ⟨by rfl, ?_⟩) ?_ ?_ ?_; rotate_left; intro w'; go_simp; with_reducible rfl; rotate_left; simp only [Act.put, sA, sZ, sC, i64_w, i32_w]; rfl
      refine one_ (i := 7) (N := some 45) #[tt, tt, tt, tt, tt, tt, tt, tt, ff, ff] rfl rfl (by kernel_rfl) (by decide) (fun K hK => ?_)
      refine step_copy_splice rfl (.tmp 41) (.tmp 44) 24 24 rfl 2 Tryd.underlying24 (by kernel_rfl) _ _ _ _ _ _ rfl rfl g k (List.replicate k (Value.int .i64 x) ++ List.replicate (N - k) (Value.int .i64 0)) 2 HGd C2 (by rw [n2.out]; exact HM2.out) (fun _ => ⟨rfl, ⟨g, 0, none⟩, rfl, src2.out _ HGd⟩) (by rw [n2.out]; simp; omega) o2.out w.heap.size w hHeld hg ?_
      intro w3 HG2 HB2
      rw [row2.out] at HG2
      rw [n2.out]
      refine hK.out _ _ HB2 (fun hHeld => ?_)
      clear hK K
      refine norm_ (a' := ?_) ?_ ?_
      rotate_left
      · show Act.put _ (some 45) _ = _
        simp only [Act.put, sA, sZ, sC, i64_w, i32_w]
        rfl
      refine pu 8 46 ?_ #[tt, tt, tt, tt, tt, tt, tt, tt, tt, ff] rfl rfl (by kernel_rfl) (Or.inl ⟨by rfl, ?_⟩) ?_ ?_ ?_; rotate_left; intro w'; go_simp; with_reducible rfl; rotate_left; simp only [Act.put, sA, sZ, sC, i64_w, i32_w]; rfl
      refine pu 9 8 ?_ #[tt, tt, tt, tt, tt, tt, tt, tt, tt, tt] rfl rfl (by kernel_rfl) (Or.inl ⟨by rfl, ?_⟩) ?_ ?_ ?_; rotate_left; intro w'; go_simp; with_reducible rfl; rotate_left; simp only [Act.put, sA, sZ, sC, i64_w, i32_w]; rfl
      refine done_ (by kernel_rfl) ?_
      try go_wp2
      go_roundg g1
      case measure => exact Nat.lt_succ_self _
      case rel => exact ⟨k + m, by rw [ew.out], fin, ⟨HG2.out⟩, ⟨HB2⟩⟩
    · have cb : decide ((k : Int) < (N : Int)) = false := decide_eq_false (by omega)
      have k1 := hk.out
      have kN : k = N := by omega
      subst kN
      go_wp2
      go_ret
      refine ⟨_, rfl, ?_, HB.out⟩
      rw [Int.toNat_natCast]
      refine Kd.R_of_own ⟨by simp [encs], .inr ⟨g, k, _, by rw [List.length_replicate]; rfl, hg, HG.out, by rw [List.length_replicate]; exact Nat.le_refl _, by unfold maxLen; omega, by simp, by simp [encs]⟩⟩ (fun _ _ => trivial)

/-! ### impl_Graph_distances: function 37 -/
mutual
def impl_Graph_distances.l0 : Nat → List Int → Int → Int → Int → Int → List Int → Option (List Int)
  | 0, _, _, _, _, _, _ => none
  | k + 1, x5, x6, x7, x8, x516000, x516001 => if x7 = 0 then (some x5) else ((impl_list.f k x7).bind fun t522 => (impl_Graph_distances.l1 k x5 x6 x8 0 t522 (t522.length : Int) 0 x516000 x516001))
def impl_Graph_distances.l1 : Nat → List Int → Int → Int → Int → List Int → Int → Int → Int → List Int → Option (List Int)
  | 0, _, _, _, _, _, _, _, _, _ => none
  | k + 1, x5, x6, x8, x9, x25, x26, x27, x516000, x516001 => if x27 < x26 then (if 0 ≤ x27 then (if x27 < (x25.length : Int) then (if 0 ≤ (rd x25 x27) then (if (rd x25 x27) < (x5.length : Int) then (if (rd x25 x27) < (x516001.length : Int) then (impl_Graph_distances.l1 k (x5.set ((rd x25 x27) : Int).toNat x8) x6 x8 (Go.bits .or .i64 x9 (rd x516001 (rd x25 x27))) x25 x26 (wrap64 (x27 + 1)) x516000 x516001) else (none)) else (none)) else (none)) else (none)) else (none)) else (impl_Graph_distances.l0 k x5 (Go.bits .or .i64 x6 x9) (Go.bits .andNot .i64 x9 x6) (wrap64 (x8 + 1)) x516000 x516001)
end
def impl_Graph_distances.f (k : Nat) (a0_0 : Int) (l0_1 : List Int) (a1 : Int) : Option (List Int) := (slices_Repeat_int64_int64.f (([(-1)] : List Int)) a0_0).bind fun t519 => (if 0 ≤ a1 then (impl_Graph_distances.l0 k t519 (shl .i64 1 a1) (shl .i64 1 a1) 0 a0_0 l0_1) else (none))
set_option maxHeartbeats 8000000 in
set_option maxRecDepth 100000 in
theorem impl_Graph_distances.calls (k : Nat) (a0_0 : Int) (A0_1 : Option Addr) (c0_1 : Nat) (l0_1 : List Int) (a1 : Int) (r : List Int) (w : World) (hr0_1 : Kd.C (Kd.int .i64) w A0_1 l0_1.length l0_1) (hc0_1 : l0_1.length ≤ c0_1) (ht : Tab w) (h : impl_Graph_distances.f k a0_0 l0_1 a1 = some r) :
    Calls Tryd.prog 37 #[.agg #[.int .i64 a0_0, .slice A0_1 l0_1.length c0_1], .int .i64 a1] w fun e w' => ∃ v0_ : Value, e = .returned (v0_) ∧ Kd.R (Kd.int .i64) 2 w' w.heap.size (fun _ => True) v0_ r ∧ Below w.heap.size w w' := by
  have hu26 := Tryd.underlying26
  have HR0_1 := Fa.mk hr0_1
  have HC0_1 := Fa.mk hc0_1
  clear hr0_1 hc0_1
  have HB := Fa.mk (Below.refl w.heap.size w)
  have HT := Fa.mk ht
  clear ht
  unfold impl_Graph_distances.f at h; have H := h
  clear h
  obtain ⟨y516, hy516⟩ : ∃ y_ : List Int, y_ = (([(-1)] : List Int)) := ⟨_, rfl⟩
  first | replace H := bs_ hy516 H | rw [← hy516] at H
  have Ny516 := Fa.mk hy516
  clear hy516
  replace H := Option.bind_eq_some_iff.mp H
  obtain ⟨t519, A30, H⟩ := H
  replace H : (if 0 ≤ a1 then (impl_Graph_distances.l0 k t519 (shl .i64 1 a1) (shl .i64 1 a1) 0 a0_0 l0_1) else (none)) = some r := H
  have A3 := Fa.mk A30
  clear A30
  by_cases c4 : 0 ≤ a1
  · rw [if_pos c4] at H
    have c4b0 := eq_true c4
    have c4b1 := decide_eq_true c4
    clear c4
    obtain ⟨ji5, hji5⟩ : ∃ j_ : Int, (shl .i64 1 a1) = j_ := ⟨_, rfl⟩
    rw [hji5] at H
    (try rw [hji5] at A3)
    have hji5_ : (IntKind.i64.wrap (1 * 2 ^ min a1.toNat 64)) = ji5 := hji5
    have hji5z : a1 ≤ 64 → (IntKind.i64.wrap (1 * 2 ^ a1.toNat)) = ji5 := shl_small hji5
    have hji5u : (IntKind.i64.wrap (2 ^ min a1.toNat 64)) = ji5 := by have h_ := hji5_; rw [Int.one_mul] at h_; exact h_
    have hji5v : a1 ≤ 64 → (IntKind.i64.wrap (2 ^ a1.toNat)) = ji5 := fun hle_ => by have h_ := hji5z hle_; rw [Int.one_mul] at h_; exact h_
    have hji5y : (wrap64 (1 * 2 ^ min a1.toNat 64)) = ji5 := (i64_w _).symm.trans hji5_
    have hji5x : a1 ≤ 64 → (wrap64 (1 * 2 ^ a1.toNat)) = ji5 := fun h_ => (i64_w _).symm.trans (hji5z h_)
    have c6b0 := eq_true (of_decide_eq_true (by assumption) : 0 ≤ a1)
    have H' := Fa.mk H
    clear H
    go_enter Tryd.func37, Tryd.ntmps37
    go_wp2_with (first | ((with_reducible refine gd 2 rfl ?_); refine box_event ?hg (N := 2) ?hd (cs := #[.int .i64 a0_0, .slice A0_1 l0_1.length c0_1]) (t := 26) ?hr ?_; (case hd => rfl); (case hg => rfl); (case hr => first | (go_simp; done) | (go_simp; rfl)); intro gb515 hg w8 hbox hb; have BK515 := Fa.mk hbox; have GW515 := Fa.mk (bsz hg (BU HB) : w.heap.size ≤ gb515); have GE515 := GW515; replace HB := Fa.mk (below_step (BU HB) hb); clear hb hbox hg) | ((with_reducible refine gd 12 rfl ?_); refine Kd.R_lit (Kd.int .i64) _ 2 ?hg (N := 12) ?hd (xs := ([(-1)] : List Int)) (inner := [.int .i64 (-1)]) (ok := fun _ => True) (okp := fun _ => True) ?hr ?hp (fun _ hk => hk) trivial (Below.refl _ _) (Nat.le_refl _) (by simp) ?_; (case hd => rfl); (case hg => rfl); (case hr => first | (go_simp; done) | (go_simp; rfl)); (case hp => exact (Reps.one (show Kd.M (Kd.int .i64) _ _ _ (-1) [.int .i64 (-1)] from rfl) (Reps.none _ _))); intro v517 w9 ho10 hb hg_ hnew_; clear hg_ hnew_; (first | rw [← Ny516.out] at ho10 | (simp only [Int.reduceToNat] at ho10; rw [← Ny516.out] at ho10)); have HO518 := Fa.mk (Kd.R_lower ho10 (below_size (BU HB))); replace BK515 := Fa.mk (blk_below (bU BK515) hb); replace HB := Fa.mk (below_step (BU HB) hb); clear hb ho10; obtain ⟨hcz11_0, hcz11_1, hfz11_0, hfz11_1⟩ := cz2 BK515.out; obtain ⟨Ao12, co12, eo12⟩ := Kd.R_slice HO518.out; subst eo12) | (go_at_call 78; (with_reducible refine (slices_Repeat_int64_int64.calls _ _ y516 a0_0 t519 _ (rC HO518) ((Kd.R_reads' HO518.out).2.1) A3.out).mono ?_); rintro e w13 ⟨v520, rfl, ho0, hb⟩; have HO521 := Fa.mk (Kd.R_lower (Kd.R_new' ho0 (Kd.R_lt (rU HO518))) (below_size (BU HB))); replace HO518 := Fa.mk (Kd.R_elder' (rU HO518) (Kd.R_base ho0) hb); replace BK515 := Fa.mk (blk_below (bU BK515) hb); replace HB := Fa.mk (below_step (BU HB) hb)))
    repeat (go_quiet (first | ((with_reducible refine gd 2 rfl ?_); refine box_event ?hg (N := 2) ?hd (cs := #[.int .i64 a0_0, .slice A0_1 l0_1.length c0_1]) (t := 26) ?hr ?_; (case hd => rfl); (case hg => rfl); (case hr => first | (go_simp; done) | (go_simp; rfl)); intro gb515 hg w8 hbox hb; have BK515 := Fa.mk hbox; have GW515 := Fa.mk (bsz hg (BU HB) : w.heap.size ≤ gb515); have GE515 := GW515; replace HB := Fa.mk (below_step (BU HB) hb); clear hb hbox hg) | ((with_reducible refine gd 12 rfl ?_); refine Kd.R_lit (Kd.int .i64) _ 2 ?hg (N := 12) ?hd (xs := ([(-1)] : List Int)) (inner := [.int .i64 (-1)]) (ok := fun _ => True) (okp := fun _ => True) ?hr ?hp (fun _ hk => hk) trivial (Below.refl _ _) (Nat.le_refl _) (by simp) ?_; (case hd => rfl); (case hg => rfl); (case hr => first | (go_simp; done) | (go_simp; rfl)); (case hp => exact (Reps.one (show Kd.M (Kd.int .i64) _ _ _ (-1) [.int .i64 (-1)] from rfl) (Reps.none _ _))); intro v517 w9 ho10 hb hg_ hnew_; clear hg_ hnew_; (first | rw [← Ny516.out] at ho10 | (simp only [Int.reduceToNat] at ho10; rw [← Ny516.out] at ho10)); have HO518 := Fa.mk (Kd.R_lower ho10 (below_size (BU HB))); replace BK515 := Fa.mk (blk_below (bU BK515) hb); replace HB := Fa.mk (below_step (BU HB) hb); clear hb ho10; obtain ⟨hcz11_0, hcz11_1, hfz11_0, hfz11_1⟩ := cz2 BK515.out; obtain ⟨Ao12, co12, eo12⟩ := Kd.R_slice HO518.out; subst eo12) | (go_at_call 78; (with_reducible refine (slices_Repeat_int64_int64.calls _ _ y516 a0_0 t519 _ (rC HO518) ((Kd.R_reads' HO518.out).2.1) A3.out).mono ?_); rintro e w13 ⟨v520, rfl, ho0, hb⟩; have HO521 := Fa.mk (Kd.R_lower (Kd.R_new' ho0 (Kd.R_lt (rU HO518))) (below_size (BU HB))); replace HO518 := Fa.mk (Kd.R_elder' (rU HO518) (Kd.R_base ho0) hb); replace BK515 := Fa.mk (blk_below (bU BK515) hb); replace HB := Fa.mk (below_step (BU HB) hb))); try go_wp2_with (first | ((with_reducible refine gd 2 rfl ?_); refine box_event ?hg (N := 2) ?hd (cs := #[.int .i64 a0_0, .slice A0_1 l0_1.length c0_1]) (t := 26) ?hr ?_; (case hd => rfl); (case hg => rfl); (case hr => first | (go_simp; done) | (go_simp; rfl)); intro gb515 hg w8 hbox hb; have BK515 := Fa.mk hbox; have GW515 := Fa.mk (bsz hg (BU HB) : w.heap.size ≤ gb515); have GE515 := GW515; replace HB := Fa.mk (below_step (BU HB) hb); clear hb hbox hg) | ((with_reducible refine gd 12 rfl ?_); refine Kd.R_lit (Kd.int .i64) _ 2 ?hg (N := 12) ?hd (xs := ([(-1)] : List Int)) (inner := [.int .i64 (-1)]) (ok := fun _ => True) (okp := fun _ => True) ?hr ?hp (fun _ hk => hk) trivial (Below.refl _ _) (Nat.le_refl _) (by simp) ?_; (case hd => rfl); (case hg => rfl); (case hr => first | (go_simp; done) | (go_simp; rfl)); (case hp => exact (Reps.one (show Kd.M (Kd.int .i64) _ _ _ (-1) [.int .i64 (-1)] from rfl) (Reps.none _ _))); intro v517 w9 ho10 hb hg_ hnew_; clear hg_ hnew_; (first | rw [← Ny516.out] at ho10 | (simp only [Int.reduceToNat] at ho10; rw [← Ny516.out] at ho10)); have HO518 := Fa.mk (Kd.R_lower ho10 (below_size (BU HB))); replace BK515 := Fa.mk (blk_below (bU BK515) hb); replace HB := Fa.mk (below_step (BU HB) hb); clear hb ho10; obtain ⟨hcz11_0, hcz11_1, hfz11_0, hfz11_1⟩ := cz2 BK515.out; obtain ⟨Ao12, co12, eo12⟩ := Kd.R_slice HO518.out; subst eo12) | (go_at_call 78; (with_reducible refine (slices_Repeat_int64_int64.calls _ _ y516 a0_0 t519 _ (rC HO518) ((Kd.R_reads' HO518.out).2.1) A3.out).mono ?_); rintro e w13 ⟨v520, rfl, ho0, hb⟩; have HO521 := Fa.mk (Kd.R_lower (Kd.R_new' ho0 (Kd.R_lt (rU HO518))) (below_size (BU HB))); replace HO518 := Fa.mk (Kd.R_elder' (rU HO518) (Kd.R_base ho0) hb); replace BK515 := Fa.mk (blk_below (bU BK515) hb); replace HB := Fa.mk (below_step (BU HB) hb))))
    go_loopg [6, 7, 8] k (fun kq v6 v7 v8 w' => ∃ (x5_1 : List Int) (x6_1 : Int) (x7_1 : Int) (x8_1 : Int), v6 = .int .i64 x6_1 ∧ v7 = .int .i64 x7_1 ∧ v8 = .int .i64 x8_1 ∧ Fa (impl_Graph_distances.l0 kq x5_1 x6_1 x7_1 x8_1 a0_0 l0_1 = some r) ∧ Fa (kq ≤ k) ∧ Fa (Kd.R (Kd.int .i64) 2 w' w.heap.size (fun _ => True) v520 x5_1) ∧ Fa (w'.heap[gb515]? = some (.cells #[.int .i64 a0_0, (.slice A0_1 l0_1.length c0_1)] 26 (0, 0))) ∧ Fa (Below w.heap.size w w'))
    case atStart => exact ⟨(t519), (ji5), (ji5), (0), (by first | rfl | (simp; done) | (simp only [← hji5] <;> (first | rfl | simp)) | (simp [*]; done)), (by first | rfl | (simp; done) | (simp only [← hji5] <;> (first | rfl | simp)) | (simp [*]; done)), rfl, H', ⟨Nat.le_refl _⟩, ⟨by (with_reducible repeat (first | apply Kd.R_alloc | apply Kd.R_drewN | apply Kd.R_drew)); exact Kd.R_mono HO521.out (fun _ hk => trivial)⟩, ⟨bU BK515⟩, ⟨BU HB⟩⟩
    case round =>
      clear H'
      obtain ⟨x5_1, x6_1, x7_1, x8_1, rfl, rfl, rfl, HA, HK1, HO_5, BK515, HB⟩ := hrel
      cases gk with
      | zero => exact absurd HA.out (by simp [impl_Graph_distances.l0])
      | succ k1 =>
        have H := HA.out
        clear HA
        simp only [impl_Graph_distances.l0] at H
        by_cases c14 : x7_1 = 0
        · rw [if_pos c14] at H
          have c14b0 := beq_iff_eq.mpr c14
          have c14b1 := bne_eq_false_iff_eq.mpr c14
          clear c14
          obtain rfl := Option.some.inj H
          go_wp2
          repeat (go_quiet (fail); try go_wp2)
          go_ret
          exact ⟨_, rfl, HO_5.out, BU HB⟩
        · rw [if_neg c14] at H
          have c14b0 := beq_eq_false_iff_ne.mpr c14
          have c14b1 := bne_iff_ne.mpr c14
          replace H := Option.bind_eq_some_iff.mp H
          obtain ⟨t522, A150, H⟩ := H
          replace H : (impl_Graph_distances.l1 k1 x5_1 x6_1 x8_1 0 t522 (t522.length : Int) 0 a0_0 l0_1) = some r := H
          have A15 := Fa.mk A150
          clear A150
          have H' := Fa.mk H
          clear H
          go_wp2_with (first | (go_at_call 74; (with_reducible refine (impl_list.calls k1 x7_1 t522 _ (Tab.below HT.out (BU HB)) A15.out).mono ?_); rintro e w16 ⟨v523, rfl, ho0, hb⟩; have HO524 := Fa.mk (Kd.R_lower (Kd.R_new' ho0 (Kd.R_lt (rU HO_5))) (below_size (BU HB))); replace HO_5 := Fa.mk (Kd.R_elder' (rU HO_5) (Kd.R_base ho0) hb); replace BK515 := Fa.mk (blk_below (bU BK515) hb); replace HB := Fa.mk (below_step (BU HB) hb); obtain ⟨Ao17, co17, eo17⟩ := Kd.R_slice HO524.out; subst eo17))
          repeat (go_quiet (first | (go_at_call 74; (with_reducible refine (impl_list.calls k1 x7_1 t522 _ (Tab.below HT.out (BU HB)) A15.out).mono ?_); rintro e w16 ⟨v523, rfl, ho0, hb⟩; have HO524 := Fa.mk (Kd.R_lower (Kd.R_new' ho0 (Kd.R_lt (rU HO_5))) (below_size (BU HB))); replace HO_5 := Fa.mk (Kd.R_elder' (rU HO_5) (Kd.R_base ho0) hb); replace BK515 := Fa.mk (blk_below (bU BK515) hb); replace HB := Fa.mk (below_step (BU HB) hb); obtain ⟨Ao17, co17, eo17⟩ := Kd.R_slice HO524.out; subst eo17)); try go_wp2_with (first | (go_at_call 74; (with_reducible refine (impl_list.calls k1 x7_1 t522 _ (Tab.below HT.out (BU HB)) A15.out).mono ?_); rintro e w16 ⟨v523, rfl, ho0, hb⟩; have HO524 := Fa.mk (Kd.R_lower (Kd.R_new' ho0 (Kd.R_lt (rU HO_5))) (below_size (BU HB))); replace HO_5 := Fa.mk (Kd.R_elder' (rU HO_5) (Kd.R_base ho0) hb); replace BK515 := Fa.mk (blk_below (bU BK515) hb); replace HB := Fa.mk (below_step (BU HB) hb); obtain ⟨Ao17, co17, eo17⟩ := Kd.R_slice HO524.out; subst eo17)))
          go_loopg [9, 27] k1 (fun kq v9 v27 w' => ∃ (x5_2 : List Int) (x9_2 : Int) (x27_2 : Int), v9 = .int .i64 x9_2 ∧ v27 = .int .i64 x27_2 ∧ Fa (impl_Graph_distances.l1 kq x5_2 x6_1 x8_1 x9_2 t522 (t522.length : Int) x27_2 a0_0 l0_1 = some r) ∧ Fa (kq ≤ k1) ∧ Fa (Kd.R (Kd.int .i64) 2 w' w.heap.size (fun k_ => some k_ ≠ ((.slice Ao17 t522.length co17) : Value).ownBlock) v520 x5_2) ∧ Fa (Kd.R (Kd.int .i64) 2 w' w.heap.size (fun k_ => some k_ ≠ (v520 : Value).ownBlock) (.slice Ao17 t522.length co17) t522) ∧ Fa (w'.heap[gb515]? = some (.cells #[.int .i64 a0_0, (.slice A0_1 l0_1.length c0_1)] 26 (0, 0))) ∧ Fa (Below w.heap.size w w'))
          case atStart => exact ⟨(x5_1), (0), (0), rfl, rfl, H', ⟨Nat.le_refl _⟩, ⟨by (with_reducible repeat (first | apply Kd.R_alloc | apply Kd.R_drewN | apply Kd.R_drew)); exact Kd.R_mono HO_5.out (fun _ hk => hk.2)⟩, ⟨by (with_reducible repeat (first | apply Kd.R_alloc | apply Kd.R_drewN | apply Kd.R_drew)); exact Kd.R_mono HO524.out (fun _ hk => hk.2)⟩, ⟨bU BK515⟩, ⟨BU HB⟩⟩
          case round =>
            clear H'
            obtain ⟨x5_2, x9_2, x27_2, rfl, rfl, HA, HK2, HO_5, HO_25, BK515, HB⟩ := hrel
            cases gk with
            | zero => exact absurd HA.out (by simp [impl_Graph_distances.l1])
            | succ k2 =>
              have H := HA.out
              clear HA
              simp only [impl_Graph_distances.l1] at H
              by_cases c18 : x27_2 < (t522.length : Int)
              · rw [if_pos c18] at H
                have c18b0 := decide_eq_true c18
                clear c18
                by_cases c19 : 0 ≤ x27_2
                · rw [if_pos c19] at H
                  have c19b0 := decide_eq_true c19
                  clear c19
                  by_cases c20 : x27_2 < (t522.length : Int)
                  · rw [if_pos c20] at H
                    have c20b0 := decide_eq_true c20
                    clear c20
                    by_cases c21 : 0 ≤ (rd t522 x27_2)
                    · rw [if_pos c21] at H
                      have c21b0 := decide_eq_true c21
                      clear c21
                      by_cases c22 : (rd t522 x27_2) < (x5_2.length : Int)
                      · rw [if_pos c22] at H
                        have c22b0 := decide_eq_true c22
                        clear c22
                        obtain ⟨y526, hy526⟩ : ∃ y_ : List Int, y_ = (x5_2.set ((rd t522 x27_2) : Int).toNat x8_1) := ⟨_, rfl⟩
                        first | replace H := bs_ hy526 H | rw [← hy526] at H
                        have Ny526 := Fa.mk hy526
                        clear hy526
                        by_cases c24 : (rd t522 x27_2) < (l0_1.length : Int)
                        · rw [if_pos c24] at H
                          have c24b0 := decide_eq_true c24
                          clear c24
                          have H' := Fa.mk H
                          clear H
                          have p525 : 0 ≤ (x27_2 : Int) := of_decide_eq_true (by assumption)
                          have q525 : x27_2 < (t522.length : Int) := of_decide_eq_true (by assumption)
                          obtain ⟨ad525, e525, hx525_0⟩ := Kd.at_int (Kd.R_reads' HO_25.out).2.2 x27_2 p525 q525
                          cases e525
                          replace p525 := eq_true p525
                          replace q525 := eq_true q525
                          have p23 : 0 ≤ ((rd t522 x27_2) : Int) := of_decide_eq_true (by assumption)
                          have q23 : ((rd t522 x27_2) : Int) < ((x5_2.length : Int) : Int) := of_decide_eq_true (by assumption)
                          obtain ⟨go23, co23, eo23, gb23, gl23, cl23, HG23⟩ := Kd.R_form HO_5.out (by omega)
                          (first | cases eo23 | (injection eo23 with ea_ en_ ec_; (first | subst ea_ | (injection ea_ with ea_; subst ea_)); subst ec_; clear en_))
                          have GB23 := Fa.mk gb23
                          have GG23 := Fa.mk HG23
                          clear gb23 gl23 HG23
                          obtain ⟨hx23_0, hf23_0⟩ := Kd.R_celln 0 HO_5.out ((rd t522 x27_2) : Int) p23 q23
                          replace p23 := eq_true p23
                          replace q23 := eq_true q23
                          have HP25 := Kd.R_putg HO_5.out ((rd t522 x27_2) : Int) x8_1
                          go_wp2_with (first | ((with_reducible refine gate_store (t := 2) (p := 34) rfl ?_); (try (rw [drewN_self wr]; generalize hq_ : World.drewN wr _ = wr; have HO_5 := Fa.mk (Kd.R_at hq_ HO_5.out); have HO_25 := Fa.mk (Kd.R_at hq_ HO_25.out); have BK515 := Fa.mk (blk_at hq_ BK515.out); have HB := Fa.mk (below_at hq_ HB.out); (try (have HP25 := Kd.R_putg HO_5.out ((rd t522 x27_2) : Int) x8_1)))); refine store_event (t := 2) (p := 34) (v := ?vo_w26) (w1 := (wr.setCell ⟨go23, ((rd t522 x27_2) : Int).toNat, none⟩ (.int .i64 x8_1))) ?hg ?ho ?hn ?hr ?_; (case ho => rfl); (case hg => rfl); (case hn => rfl); (case hr => first | (go_simp; done) | (go_simp; rfl)); intro w26 hw; have hg : wr.grownBy w26 (some go23) := (by rw [hw]; exact HP25.2); have hp_ : Kd.R (Kd.int .i64) 2 w26 w.heap.size (fun k_ => some k_ ≠ (.slice (some ad525) t522.length co17 : Value).ownBlock) (.slice (some ⟨go23, 0, none⟩) x5_2.length co23) y526 := (by rw [hw, Ny526.out]; exact HP25.1); clear HP25; replace HO_25 := Fa.mk (Kd.R_after (v := (.slice (some ⟨go23, 0, none⟩) x5_2.length co23)) (v1 := (.slice (some ⟨go23, 0, none⟩) x5_2.length co23)) (ok := (fun _ => True)) (by (with_reducible repeat (first | apply Kd.R_alloc | apply Kd.R_drewN | apply Kd.R_drew)); exact Kd.R_mono HO_25.out (fun _ hk => ⟨trivial, hk⟩)) hg (.inl rfl)); replace BK515 := Fa.mk (blk_grown (bU BK515) hg (Kd.R_ne HO_5.out BK515.out (by decide))); replace HO_5 := Fa.mk hp_; replace HB := Fa.mk ((by rw [hw]; exact below_set (HB.out) GB23.out : Below w.heap.size w w26)); clear hg hw hp_; obtain ⟨hcz27_0, hcz27_1, hfz27_0, hfz27_1⟩ := cz2 BK515.out; have p527 : 0 ≤ ((rd t522 x27_2) : Int) := of_decide_eq_true (by assumption); have q527 : (rd t522 x27_2) < (l0_1.length : Int) := of_decide_eq_true (by assumption); obtain ⟨ad527, e527, hx527_0⟩ := Kd.at_int HR0_1.out (rd t522 x27_2) p527 q527; cases e527; replace hx527_0 := (HB.out.cell (World.block_lt_of_cell? w _ hx527_0)).trans hx527_0; replace p527 := eq_true p527; replace q527 := eq_true q527))
                          repeat (go_quiet (first | ((with_reducible refine gate_store (t := 2) (p := 34) rfl ?_); (try (rw [drewN_self wr]; generalize hq_ : World.drewN wr _ = wr; have HO_5 := Fa.mk (Kd.R_at hq_ HO_5.out); have HO_25 := Fa.mk (Kd.R_at hq_ HO_25.out); have BK515 := Fa.mk (blk_at hq_ BK515.out); have HB := Fa.mk (below_at hq_ HB.out); (try (have HP25 := Kd.R_putg HO_5.out ((rd t522 x27_2) : Int) x8_1)))); refine store_event (t := 2) (p := 34) (v := ?vo_w26) (w1 := (wr.setCell ⟨go23, ((rd t522 x27_2) : Int).toNat, none⟩ (.int .i64 x8_1))) ?hg ?ho ?hn ?hr ?_; (case ho => rfl); (case hg => rfl); (case hn => rfl); (case hr => first | (go_simp; done) | (go_simp; rfl)); intro w26 hw; have hg : wr.grownBy w26 (some go23) := (by rw [hw]; exact HP25.2); have hp_ : Kd.R (Kd.int .i64) 2 w26 w.heap.size (fun k_ => some k_ ≠ (.slice (some ad525) t522.length co17 : Value).ownBlock) (.slice (some ⟨go23, 0, none⟩) x5_2.length co23) y526 := (by rw [hw, Ny526.out]; exact HP25.1); clear HP25; replace HO_25 := Fa.mk (Kd.R_after (v := (.slice (some ⟨go23, 0, none⟩) x5_2.length co23)) (v1 := (.slice (some ⟨go23, 0, none⟩) x5_2.length co23)) (ok := (fun _ => True)) (by (with_reducible repeat (first | apply Kd.R_alloc | apply Kd.R_drewN | apply Kd.R_drew)); exact Kd.R_mono HO_25.out (fun _ hk => ⟨trivial, hk⟩)) hg (.inl rfl)); replace BK515 := Fa.mk (blk_grown (bU BK515) hg (Kd.R_ne HO_5.out BK515.out (by decide))); replace HO_5 := Fa.mk hp_; replace HB := Fa.mk ((by rw [hw]; exact below_set (HB.out) GB23.out : Below w.heap.size w w26)); clear hg hw hp_; obtain ⟨hcz27_0, hcz27_1, hfz27_0, hfz27_1⟩ := cz2 BK515.out; have p527 : 0 ≤ ((rd t522 x27_2) : Int) := of_decide_eq_true (by assumption); have q527 : (rd t522 x27_2) < (l0_1.length : Int) := of_decide_eq_true (by assumption); obtain ⟨ad527, e527, hx527_0⟩ := Kd.at_int HR0_1.out (rd t522 x27_2) p527 q527; cases e527; replace hx527_0 := (HB.out.cell (World.block_lt_of_cell? w _ hx527_0)).trans hx527_0; replace p527 := eq_true p527; replace q527 := eq_true q527)); try go_wp2_with (first | ((with_reducible refine gate_store (t := 2) (p := 34) rfl ?_); (try (rw [drewN_self wr]; generalize hq_ : World.drewN wr _ = wr; have HO_5 := Fa.mk (Kd.R_at hq_ HO_5.out); have HO_25 := Fa.mk (Kd.R_at hq_ HO_25.out); have BK515 := Fa.mk (blk_at hq_ BK515.out); have HB := Fa.mk (below_at hq_ HB.out); (try (have HP25 := Kd.R_putg HO_5.out ((rd t522 x27_2) : Int) x8_1)))); refine store_event (t := 2) (p := 34) (v := ?vo_w26) (w1 := (wr.setCell ⟨go23, ((rd t522 x27_2) : Int).toNat, none⟩ (.int .i64 x8_1))) ?hg ?ho ?hn ?hr ?_; (case ho => rfl); (case hg => rfl); (case hn => rfl); (case hr => first | (go_simp; done) | (go_simp; rfl)); intro w26 hw; have hg : wr.grownBy w26 (some go23) := (by rw [hw]; exact HP25.2); have hp_ : Kd.R (Kd.int .i64) 2 w26 w.heap.size (fun k_ => some k_ ≠ (.slice (some ad525) t522.length co17 : Value).ownBlock) (.slice (some ⟨go23, 0, none⟩) x5_2.length co23) y526 := (by rw [hw, Ny526.out]; exact HP25.1); clear HP25; replace HO_25 := Fa.mk (Kd.R_after (v := (.slice (some ⟨go23, 0, none⟩) x5_2.length co23)) (v1 := (.slice (some ⟨go23, 0, none⟩) x5_2.length co23)) (ok := (fun _ => True)) (by (with_reducible repeat (first | apply Kd.R_alloc | apply Kd.R_drewN | apply Kd.R_drew)); exact Kd.R_mono HO_25.out (fun _ hk => ⟨trivial, hk⟩)) hg (.inl rfl)); replace BK515 := Fa.mk (blk_grown (bU BK515) hg (Kd.R_ne HO_5.out BK515.out (by decide))); replace HO_5 := Fa.mk hp_; replace HB := Fa.mk ((by rw [hw]; exact below_set (HB.out) GB23.out : Below w.heap.size w w26)); clear hg hw hp_; obtain ⟨hcz27_0, hcz27_1, hfz27_0, hfz27_1⟩ := cz2 BK515.out; have p527 : 0 ≤ ((rd t522 x27_2) : Int) := of_decide_eq_true (by assumption); have q527 : (rd t522 x27_2) < (l0_1.length : Int) := of_decide_eq_true (by assumption); obtain ⟨ad527, e527, hx527_0⟩ := Kd.at_int HR0_1.out (rd t522 x27_2) p527 q527; cases e527; replace hx527_0 := (HB.out.cell (World.block_lt_of_cell? w _ hx527_0)).trans hx527_0; replace p527 := eq_true p527; replace q527 := eq_true q527)))
                          go_roundg k2
                          case measure => have := HK1.out; have := HK2.out; omega
                          case rel => exact ⟨(y526), (Go.bits .or .i64 x9_2 (rd l0_1 (rd t522 x27_2))), (wrap64 (x27_2 + 1)), rfl, rfl, H', ⟨by have := HK1.out; have := HK2.out; omega⟩, ⟨rU HO_5⟩, ⟨by (with_reducible repeat (first | apply Kd.R_alloc | apply Kd.R_drewN | apply Kd.R_drew)); exact Kd.R_mono HO_25.out (fun _ hk => hk.2)⟩, ⟨bU BK515⟩, ⟨BU HB⟩⟩
                        · rw [if_neg c24] at H
                          exact absurd H (by simp)
                      · rw [if_neg c22] at H
                        exact absurd H (by simp)
                    · rw [if_neg c21] at H
                      exact absurd H (by simp)
                  · rw [if_neg c20] at H
                    exact absurd H (by simp)
                · rw [if_neg c19] at H
                  exact absurd H (by simp)
              · rw [if_neg c18] at H
                have c18b0 := decide_eq_false c18
                clear c18
                have H' := Fa.mk H
                clear H
                go_wp2
                repeat (go_quiet (fail); try go_wp2)
                go_roundg k2
                case measure => have := HK1.out; have := HK2.out; omega
                case rel => exact ⟨(x5_2), (Go.bits .or .i64 x6_1 x9_2), (Go.bits .andNot .i64 x9_2 x6_1), (wrap64 (x8_1 + 1)), rfl, rfl, rfl, H', ⟨by have := HK1.out; have := HK2.out; omega⟩, ⟨by (with_reducible repeat (first | apply Kd.R_alloc | apply Kd.R_drewN | apply Kd.R_drew)); exact Kd.R_mono HO_5.out (fun _ hk => trivial)⟩, ⟨bU BK515⟩, ⟨BU HB⟩⟩
  · rw [if_neg c4] at H
    exact absurd H (by simp)

/-! ### impl_DistancesFrom: function 9 -/
def impl_DistancesFrom.f (k : Nat) (a0_0 : Int) (l0_1 : List Int) (a1 : Int) : Option (List Int × Int) := (impl_graphCode.f k a0_0 l0_1 (([a1] : List Int))).bind fun t532 => (if t532 = 0 then ((impl_Graph_distances.f k a0_0 l0_1 a1).bind fun t533 => (some (t533, 0))) else (some (([] : List Int), t532)))
set_option maxHeartbeats 8000000 in
set_option maxRecDepth 100000 in
theorem impl_DistancesFrom.calls (k : Nat) (a0_0 : Int) (A0_1 : Option Addr) (c0_1 : Nat) (l0_1 : List Int) (a1 : Int) (r1 : List Int) (r2 : Int) (w : World) (hr0_1 : Kd.C (Kd.int .i64) w A0_1 l0_1.length l0_1) (hc0_1 : l0_1.length ≤ c0_1) (ht : Tab w) (h : impl_DistancesFrom.f k a0_0 l0_1 a1 = some (r1, r2)) :
    Calls Tryd.prog 9 #[.agg #[.int .i64 a0_0, .slice A0_1 l0_1.length c0_1], .int .i64 a1] w fun e w' => ∃ v0_ : Value, e = .returned (.tuple #[v0_, .int .i64 r2]) ∧ Kd.R (Kd.int .i64) 2 w' w.heap.size (fun _ => True) v0_ r1 ∧ Below w.heap.size w w' := by
  have hu26 := Tryd.underlying26
  have HR0_1 := Fa.mk hr0_1
  have HC0_1 := Fa.mk hc0_1
  clear hr0_1 hc0_1
  have HB := Fa.mk (Below.refl w.heap.size w)
  have HT := Fa.mk ht
  clear ht
  unfold impl_DistancesFrom.f at h; have H := h
  clear h
  obtain ⟨y529, hy529⟩ : ∃ y_ : List Int, y_ = (([a1] : List Int)) := ⟨_, rfl⟩
  first | replace H := bs_ hy529 H | rw [← hy529] at H
  have Ny529 := Fa.mk hy529
  clear hy529
  replace H := Option.bind_eq_some_iff.mp H
  obtain ⟨t532, A30, H⟩ := H
  replace H : (if t532 = 0 then ((impl_Graph_distances.f k a0_0 l0_1 a1).bind fun t533 => (some (t533, 0))) else (some (([] : List Int), t532))) = some (r1, r2) := H
  have A3 := Fa.mk A30
  clear A30
  by_cases c4 : t532 = 0
  · rw [if_pos c4] at H
    have c4b0 := beq_iff_eq.mpr c4
    have c4b1 := bne_eq_false_iff_eq.mpr c4
    clear c4
    replace H := Option.bind_eq_some_iff.mp H
    obtain ⟨t533, A50, H⟩ := H
    replace H : (some (t533, 0)) = some (r1, r2) := H
    have A5 := Fa.mk A50
    clear A50
    simp only [Option.some.injEq, Prod.mk.injEq] at H
    obtain ⟨rfl, rfl⟩ := H
    go_enter Tryd.func9, Tryd.ntmps9
    go_wp2_with (first | ((with_reducible refine gd 2 rfl ?_); refine box_event ?hg (N := 2) ?hd (cs := #[.int .i64 a0_0, .slice A0_1 l0_1.length c0_1]) (t := 26) ?hr ?_; (case hd => rfl); (case hg => rfl); (case hr => first | (go_simp; done) | (go_simp; rfl)); intro gb528 hg w6 hbox hb; have BK528 := Fa.mk hbox; have GW528 := Fa.mk (bsz hg (BU HB) : w.heap.size ≤ gb528); have GE528 := GW528; replace HB := Fa.mk (below_step (BU HB) hb); clear hb hbox hg; obtain ⟨hcz7_0, hcz7_1, hfz7_0, hfz7_1⟩ := cz2 BK528.out) | ((with_reducible refine gd 9 rfl ?_); refine Kd.R_lit (Kd.int .i64) _ 2 ?hg (N := 9) ?hd (xs := ([a1] : List Int)) (inner := [.int .i64 a1]) (ok := fun _ => True) (okp := fun _ => True) ?hr ?hp (fun _ hk => hk) trivial (Below.refl _ _) (Nat.le_refl _) (by simp) ?_; (case hd => rfl); (case hg => rfl); (case hr => first | (go_simp; done) | (go_simp; rfl)); (case hp => exact (Reps.one (show Kd.M (Kd.int .i64) _ _ _ a1 [.int .i64 a1] from rfl) (Reps.none _ _))); intro v530 w8 ho9 hb hg_ hnew_; clear hg_ hnew_; (first | rw [← Ny529.out] at ho9 | (simp only [Int.reduceToNat] at ho9; rw [← Ny529.out] at ho9)); have HO531 := Fa.mk (Kd.R_lower ho9 (below_size (BU HB))); replace BK528 := Fa.mk (blk_below (bU BK528) hb); replace HB := Fa.mk (below_step (BU HB) hb); clear hb ho9; obtain ⟨Ao10, co10, eo10⟩ := Kd.R_slice HO531.out; subst eo10) | ((with_reducible refine gc 36 rfl ?_); refine gL 10 Tryd.func36 #[.agg #[.int .i64 a0_0, .slice A0_1 l0_1.length c0_1], .slice Ao10 y529.length co10] rfl (by first | rfl | (simp only [mA, mC, mN]; rfl)) ?_; (with_reducible refine (impl_graphCode.calls k a0_0 _ _ l0_1 _ _ y529 t532 _ (Kd.C_below HR0_1.out (BU HB)) HC0_1.out (rC HO531) ((Kd.R_reads' HO531.out).2.1) A3.out).mono ?_); rintro e w11 ⟨rfl, hb⟩; refine ⟨_, rfl, ?_⟩; replace HO531 := Fa.mk (Kd.R_below (rU HO531) hb); replace BK528 := Fa.mk (blk_below (bU BK528) hb); replace HB := Fa.mk (below_step (BU HB) hb); obtain ⟨hcz12_0, hcz12_1, hfz12_0, hfz12_1⟩ := cz2 BK528.out) | ((with_reducible refine gc 37 rfl ?_); refine gL 16 Tryd.func37 #[.agg #[.int .i64 a0_0, .slice A0_1 l0_1.length c0_1], .int .i64 a1] rfl (by first | rfl | (simp only [mA, mC, mN]; rfl)) ?_; (with_reducible refine (impl_Graph_distances.calls k a0_0 _ _ l0_1 a1 t533 _ (Kd.C_below HR0_1.out (BU HB)) HC0_1.out (Tab.below HT.out (BU HB)) A5.out).mono ?_); rintro e w13 ⟨v534, rfl, ho0, hb⟩; refine ⟨_, rfl, ?_⟩; have HO535 := Fa.mk (Kd.R_lower (Kd.R_new' ho0 (Kd.R_lt (rU HO531))) (below_size (BU HB))); replace HO531 := Fa.mk (Kd.R_elder' (rU HO531) (Kd.R_base ho0) hb); replace BK528 := Fa.mk (blk_below (bU BK528) hb); replace HB := Fa.mk (below_step (BU HB) hb)))
    go_ret2
    exact ⟨_, rfl, by (with_reducible repeat (first | apply Kd.R_alloc | apply Kd.R_drewN | apply Kd.R_drew)); exact Kd.R_mono HO535.out (fun _ hk => trivial), BU HB⟩
  · rw [if_neg c4] at H
    have c4b0 := beq_eq_false_iff_ne.mpr c4
    have c4b1 := bne_iff_ne.mpr c4
    simp only [Option.some.injEq, Prod.mk.injEq] at H
    obtain ⟨rfl, rfl⟩ := H
    go_enter Tryd.func9, Tryd.ntmps9
    go_wp2_with (first | ((with_reducible refine gd 2 rfl ?_); refine box_event ?hg (N := 2) ?hd (cs := #[.int .i64 a0_0, .slice A0_1 l0_1.length c0_1]) (t := 26) ?hr ?_; (case hd => rfl); (case hg => rfl); (case hr => first | (go_simp; done) | (go_simp; rfl)); intro gb528 hg w14 hbox hb; have BK528 := Fa.mk hbox; have GW528 := Fa.mk (bsz hg (BU HB) : w.heap.size ≤ gb528); have GE528 := GW528; replace HB := Fa.mk (below_step (BU HB) hb); clear hb hbox hg; obtain ⟨hcz15_0, hcz15_1, hfz15_0, hfz15_1⟩ := cz2 BK528.out) | ((with_reducible refine gd 9 rfl ?_); refine Kd.R_lit (Kd.int .i64) _ 2 ?hg (N := 9) ?hd (xs := ([a1] : List Int)) (inner := [.int .i64 a1]) (ok := fun _ => True) (okp := fun _ => True) ?hr ?hp (fun _ hk => hk) trivial (Below.refl _ _) (Nat.le_refl _) (by simp) ?_; (case hd => rfl); (case hg => rfl); (case hr => first | (go_simp; done) | (go_simp; rfl)); (case hp => exact (Reps.one (show Kd.M (Kd.int .i64) _ _ _ a1 [.int .i64 a1] from rfl) (Reps.none _ _))); intro v530 w16 ho17 hb hg_ hnew_; clear hg_ hnew_; (first | rw [← Ny529.out] at ho17 | (simp only [Int.reduceToNat] at ho17; rw [← Ny529.out] at ho17)); have HO531 := Fa.mk (Kd.R_lower ho17 (below_size (BU HB))); replace BK528 := Fa.mk (blk_below (bU BK528) hb); replace HB := Fa.mk (below_step (BU HB) hb); clear hb ho17; obtain ⟨Ao18, co18, eo18⟩ := Kd.R_slice HO531.out; subst eo18) | ((with_reducible refine gc 36 rfl ?_); refine gL 10 Tryd.func36 #[.agg #[.int .i64 a0_0, .slice A0_1 l0_1.length c0_1], .slice Ao18 y529.length co18] rfl (by first | rfl | (simp only [mA, mC, mN]; rfl)) ?_; (with_reducible refine (impl_graphCode.calls k a0_0 _ _ l0_1 _ _ y529 t532 _ (Kd.C_below HR0_1.out (BU HB)) HC0_1.out (rC HO531) ((Kd.R_reads' HO531.out).2.1) A3.out).mono ?_); rintro e w19 ⟨rfl, hb⟩; refine ⟨_, rfl, ?_⟩; replace HO531 := Fa.mk (Kd.R_below (rU HO531) hb); replace BK528 := Fa.mk (blk_below (bU BK528) hb); replace HB := Fa.mk (below_step (BU HB) hb)))
    go_ret2
    exact ⟨_, rfl, by first | exact Kd.R_nil _ _ _ _ _ | exact Kd.N_nil _ _ _ _ _ | exact Kd.V_nil _ _ _ _ _ | exact Kd.Q_nil _ _ _ _ _ | exact Kd.S_nil _ _ _ _ _, BU HB⟩

/-! ### spec_l01In: function 66 -/
def spec_l01In.f (a0 : Int) (a1 : Int) (a2 : Int) : Option (Bool) := if a0 ≥ a1 then (some (decide (a0 ≤ a2))) else (some false)
set_option maxHeartbeats 8000000 in
set_option maxRecDepth 100000 in
theorem spec_l01In.calls (a0 : Int) (a1 : Int) (a2 : Int) (r : Bool) (w : World) (h : spec_l01In.f a0 a1 a2 = some r) :
    Calls Tryd.prog 66 #[.int .i64 a0, .int .i64 a1, .int .i64 a2] w fun e w' => e = .returned (.bool r) ∧ Drawn0 w w' := by
  have H : (if a0 ≥ a1 then (some (decide (a0 ≤ a2))) else (some false)) = some r := h
  clear h
  by_cases c4 : a0 ≥ a1
  · rw [if_pos c4] at H
    have c4b0 := decide_eq_true c4
    clear c4
    obtain rfl := Option.some.inj H
    go_enter Tryd.func66, Tryd.ntmps66
    go_wp2
    go_ret
    exact ⟨rfl, by repeat (first | exact Drawn0.refl _ | apply Drawn0.step)⟩
  · rw [if_neg c4] at H
    have c4b0 := decide_eq_false c4
    clear c4
    obtain rfl := Option.some.inj H
    go_enter Tryd.func66, Tryd.ntmps66
    go_wp2
    go_ret
    exact ⟨rfl, by repeat (first | exact Drawn0.refl _ | apply Drawn0.step)⟩

end Go.Proofs.YtockngphfpedkaaDoor.XFnDistances
