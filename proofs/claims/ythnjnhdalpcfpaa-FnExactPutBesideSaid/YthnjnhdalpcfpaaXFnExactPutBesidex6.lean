-- Written by this project's own program (mprint.py) by means of the kit's printer: with contracts of its own for the functions that the printer leaves out.
import Derived.Test.YthnjnhdalpcfpaaXFnExactPutBesidex0
import Derived.Test.YthnjnhdalpcfpaaXFnExactPutBesidex4
import Derived.Test.YthnjnhdalpcfpaaXFnExactPutBesidex5
namespace Go.Proofs.Ythnjnhdalpcfpaa.XFnExactPutBeside
open Go.RowKit Go.Proofs.YthnjnhdalpcfpaaW.PrintWords Go.Proofs.YthnjnhdalpcfpaaW.PrintLast Go.Proofs.YthnjnhdalpcfpaaW.PrintMore
attribute [local go_sem] max2_int min2_int max_two min_two max_three min_three max_four min_four   -- for this text's walks alone
set_option linter.unusedVariables false
set_option linter.unusedSimpArgs false

/-! ### impl.PutBeside: by hand (it copies a row into one that it made) -/
theorem mkF_ (W : World) (ok : Nat → Prop) (x : S34) {A1 : Option Addr} {c1 : Nat} (l1 : x.f1.length ≤ c1) (g1 : Kd.F (Kd.int .i64) W ok A1 x.f1.length x.f1) : Kd.FK k34 W ok x [.int .i64 x.f0, .slice A1 x.f1.length c1] := fun W2 hW => k34_mk W2 x l1 (g1 W2 hW)
def cpy_ (d s : List Int) : List Int := s ++ d.drop s.length
theorem setRow_kept (w : World) (g : Nat) (cs : Array Value) (hg : ∃ o, w.heap[g]? = some o) : Kept w (w.setRow g cs) (fun k => g = k) := ⟨by simp [World.setRow], fun k hk hn => setRow_other w g k cs (fun e => hn e.symm)⟩
/-- copy of a row that is read into one's own, no shorter one. -/
theorem copy_row_ {P : Program} {ops : Array Oper} {rest : List Oper} {o : Oper} {a : Act} {Q : Exit → Act → World → Prop} {w0 W : World} {base : Nat} (hgd : o.guard = none) (d s : Operand) (T : TypeId)
    (ho : o.op = .call { callee := .builtin .copy, args := #[d, s], argTypes := #[T, T] }) (hu : P.underlying T = some (.slice 2)) (hsz : (P.info? 2).map (·.size) = some 1) (g dLen dCap : Nat) (sp : Option Addr) (sLen sCap : Nat)
    (hd : a.eval d = .slice (some ⟨g, 0, none⟩) dLen dCap) (hs : a.eval s = .slice sp sLen sCap) (xs ys : List Int) (HX : Kd.R (Kd.int .i64) 2 W base (fun _ => True) (.slice (some ⟨g, 0, none⟩) dLen dCap) xs) (HY : Kd.C (Kd.int .i64) W sp sLen ys)
    (hl : ys.length ≤ xs.length) (h0 : 0 < ys.length) (HB : Below base w0 W) (hg : base ≤ g)
    (h : ∀ w1, Kd.R (Kd.int .i64) 2 w1 base (fun _ => True) (.slice (some ⟨g, 0, none⟩) dLen dCap) (cpy_ xs ys) → Below base w0 w1 → Kept W w1 (fun k => g = k) → wpList P ops Q rest (a.put o.dst (goInt ys.length)) w1) : wpList P ops Q (o :: rest) a W := by
  obtain ⟨_, inner, ⟨hil, how⟩, hr⟩ := HX
  obtain ⟨ad, rfl, hcell⟩ := HY.2.2 (by rw [← HY.1]; exact h0)
  have hsl : ys.length = sLen := HY.1
  rcases how with ⟨e, _⟩ | ⟨g', cap, cur, e, hb, hh, hc1, hc2, hc3, hc4⟩
  · cases e
  · injection e with e1 e2 e3
    injection e1 with e1
    injection e1 with e1 _ _
    subst e1 e2 e3
    have hsz1 : (Kd.int .i64).sz = 1 := rfl
    rw [hsz1] at hil hc3 hc4
    have hy : ∀ j v, (ys.map (Value.int .i64))[j]? = some v → W.cell? (ad.add j) = some v := fun j v hj => by
      rw [List.getElem?_map] at hj
      obtain ⟨y, hy, rfl⟩ := Option.map_eq_some_iff.1 hj
      obtain ⟨c, hcl, hR, hcc⟩ := hcell j y hy
      obtain rfl : c = [.int .i64 y] := hR
      have := hcc 0 _ rfl
      rwa [hsz1, Nat.mul_one, Nat.add_zero] at this
    refine wpList_copy_own hgd d s T T ho 2 hu hsz g 0 xs.length dCap ad sLen sCap hd hs cur 2 hh (ys.map (Value.int .i64)) ?_ hy ?_ (fun v hv => by obtain ⟨y, _, rfl⟩ := List.mem_map.1 hv; rfl) ?_
    · rw [List.length_map]; show ys.length = min sLen xs.length; omega
    · rw [List.length_map]; omega
    · rw [List.length_map]
      have e0 : cur.toList.take 0 ++ (ys.map (Value.int .i64) ++ cur.toList.drop (0 + ys.length)) = ys.map (Value.int .i64) ++ cur.toList.drop ys.length := by simp
      rw [e0]
      refine h _ ?_ (below_setRow HB hg _) (setRow_kept W g _ ⟨_, hh⟩)
      have hcs : (ys.map (Value.int .i64) ++ cur.toList.drop ys.length).length = cur.size := by
        have e9 : cur.toList.length = cur.size := by simp
        rw [List.length_append, List.length_map, List.length_drop]; omega
      have hcl : (cpy_ xs ys).length = xs.length := by unfold cpy_; rw [List.length_append, List.length_drop]; omega
      have hin : inner = xs.map (Value.int .i64) := by
        refine List.ext_getElem? fun j => ?_
        rcases Nat.lt_or_ge j xs.length with hj | hj
        · have := hr.2 j xs[j] (List.getElem?_eq_getElem hj)
          have e9 : (inner.drop (j * 1)).take 1 = [.int .i64 xs[j]] := this
          rw [Nat.mul_one] at e9
          have e8 : (inner.drop j)[0]? = some (.int .i64 xs[j]) := by
            have := congrArg (·[0]?) e9
            simpa [List.getElem?_take] using this
          rw [List.getElem?_drop, Nat.add_zero] at e8
          rw [e8, List.getElem?_map, List.getElem?_eq_getElem hj]; rfl
        · rw [List.getElem?_eq_none (by omega), List.getElem?_eq_none (by rw [List.length_map]; exact hj)]
      refine Kd.R_of_own (enc := Value.int .i64) (h1 := fun _ => rfl) ⟨?_, .inr ⟨g, dCap, (ys.map (Value.int .i64) ++ cur.toList.drop ys.length).toArray, ?_, hb, ?_, ?_, hc2, ?_, ?_⟩⟩ (fun _ _ => trivial)
      · simp [encs]
      · rw [hcl]
      · exact setRow_heap W g _ _ _ _ hh
      · rw [hcl]; omega
      · rw [List.size_toArray, hcs]; omega
      · rw [hcl, Nat.mul_one]
        show (ys.map (Value.int .i64) ++ cur.toList.drop ys.length).take xs.length = encs (Value.int .i64) (cpy_ xs ys)
        rw [List.take_append, List.length_map, List.take_of_length_le (by rw [List.length_map]; omega)]
        have e7 : encs (Value.int .i64) (cpy_ xs ys) = ys.map (Value.int .i64) ++ (xs.map (Value.int .i64)).drop ys.length := by unfold encs cpy_; rw [List.map_append, List.map_drop]
        rw [e7, ← hin, ← hc4]
        congr 1
        rw [Nat.mul_one, List.drop_take]
def impl_PutBeside.l0 : Nat → List Int → Int → Int → Int → List Int → Option (Int × List Int × Int)
  | 0, _, _, _, _, _ => none
  | k + 1, l2, i, n1, nn, rows => if i < (l2.length : Int) then (if 0 ≤ i then (if 0 ≤ n1 then (if 0 ≤ wrap64 (n1 + i) then (if wrap64 (n1 + i) < (rows.length : Int) then impl_PutBeside.l0 k l2 (wrap64 (i + 1)) n1 nn (rows.set (wrap64 (n1 + i)).toNat (shl .i64 (rd l2 i) n1)) else none) else none) else none) else none) else some (nn, rows, 0)
def impl_PutBeside.f (k : Nat) (n1 : Int) (l1 : List Int) (n2 : Int) (l2 : List Int) : Option (Int × List Int × Int) :=
  (impl_areGraphs.f k [(⟨n1, l1⟩ : S34), (⟨n2, l2⟩ : S34)]).bind fun t => if t = true then (if wrap64 (n1 + n2) > 62 then some (0, [], 3) else (impl_empty.f (wrap64 (n1 + n2))).bind fun e => if 0 < l1.length then (if l1.length ≤ e.2.length then impl_PutBeside.l0 k l2 0 n1 e.1 (cpy_ e.2 l1) else none) else none) else some (0, [], 1)
theorem impl_PutBeside.mono_l : ∀ k l2 y0 y1 y2 y3, LeO (impl_PutBeside.l0 k l2 y0 y1 y2 y3) (impl_PutBeside.l0 (k + 1) l2 y0 y1 y2 y3)
  | 0 => fun _ _ _ _ _ r h => by simp [impl_PutBeside.l0] at h
  | k + 1 => by
    have ih0 := impl_PutBeside.mono_l k
    intro l2 y0 y1 y2 y3
    rw [impl_PutBeside.l0.eq_2, impl_PutBeside.l0.eq_2]
    repeat' first
      | (with_reducible exact ih0 _ _ _ _ _)
      | (with_reducible exact LeO.refl _)
      | (with_reducible exact LeO.none _)
      | (with_reducible refine LeO.ite ?_ ?_)
      | (with_reducible refine LeO.bind ?_ (fun _ => ?_))
theorem impl_PutBeside.mono : ∀ a0 a1 a2 a3 k, LeO (impl_PutBeside.f k a0 a1 a2 a3) (impl_PutBeside.f (k + 1) a0 a1 a2 a3) := by
  intro a0 a1 a2 a3 k
  unfold impl_PutBeside.f
  repeat' first
    | (with_reducible exact impl_PutBeside.mono_l _ _ _ _ _ _)
    | (with_reducible exact impl_areGraphs.mono _ _)
    | (with_reducible exact LeO.refl _)
    | (with_reducible exact LeO.none _)
    | (with_reducible refine LeO.ite ?_ ?_)
    | (with_reducible refine LeO.bind ?_ (fun _ => ?_))
theorem putBeside_tab : rtab .any (opsOf Try.f31 10) = (true, [([], []), ([0], [0]), ([], []), ([2], [2]), ([], []), ([3, 4], [3, 4]), ([], []), ([], []), ([7], [7]), ([6, 8], [6, 8]), ([1, 5, 0, 1, 2, 3, 4, 5, 6, 7, 8, 9], [1, 5]), ([10, 9, 0, 1, 2, 3, 4, 5, 6, 7, 8, 9], [9, 10])]) := by kernel_rfl
theorem putBeside_bits : waitsOk [([], []), ([0], [0]), ([], []), ([2], [2]), ([], []), ([3, 4], [3, 4]), ([], []), ([], []), ([7], [7]), ([6, 8], [6, 8]), ([1, 5, 0, 1, 2, 3, 4, 5, 6, 7, 8, 9], [1, 5]), ([10, 9, 0, 1, 2, 3, 4, 5, 6, 7, 8, 9], [9, 10])] [0, 1, 0, 4, 0, 28, 0, 0, 128, 448, 1023, 2047] = true := by kernel_rfl
set_option maxHeartbeats 16000000 in
set_option maxRecDepth 100000 in
theorem impl_PutBeside.calls (k : Nat) (n1 : Int) (A1 : Option Addr) (c1 : Nat) (l1 : List Int) (n2 : Int) (A2 : Option Addr) (c2 : Nat) (l2 : List Int) (r1 : Int) (r2 : List Int) (r3 : Int) (w : World) (hr1 : Kd.C (Kd.int .i64) w A1 l1.length l1) (hc1 : l1.length ≤ c1) (hr2 : Kd.C (Kd.int .i64) w A2 l2.length l2) (hc2 : l2.length ≤ c2) (h : impl_PutBeside.f k n1 l1 n2 l2 = some (r1, r2, r3)) :
    Calls Try.prog 31 #[.agg #[.int .i64 n1, .slice A1 l1.length c1], .agg #[.int .i64 n2, .slice A2 l2.length c2]] w fun e w' => ∃ v1_ : Value, e = .returned (.tuple #[.agg #[.int .i64 r1, v1_], .int .i64 r3]) ∧ Kd.R (Kd.int .i64) 2 w' w.heap.size (fun _ => True) v1_ r2 ∧ Below w.heap.size w w' := by
  have hu34 := Try.underlying34
  have HR1 := Aside0.mk hr1
  have HC1 := Aside0.mk hc1
  have HR2 := Aside0.mk hr2
  have HC2 := Aside0.mk hc2
  have HB := Aside0.mk (Below.refl w.heap.size w)
  clear hr1 hc1 hr2 hc2
  unfold impl_PutBeside.f at h
  obtain ⟨t, A9, h⟩ := Option.bind_eq_some_iff.mp h
  replace A9 := Aside0.mk A9
  by_cases ct : t = true
  · subst ct
    rw [if_pos rfl] at h
    by_cases c5 : wrap64 (n1 + n2) > 62
    · rw [if_pos c5] at h
      have c5b0 : decide (62 < wrap64 (n1 + n2)) = true := decide_eq_true c5
      clear c5
      simp only [Option.some.injEq, Prod.mk.injEq] at h
      obtain ⟨rfl, rfl, rfl⟩ := h
      go_enter Try.func31, Try.ntmps31
      go_wp2_with (first | ((with_reducible refine gate_dst (N := 2) rfl ?_); refine box_event ?hg (N := 2) ?hd (cs := #[.int .i64 n1, .slice A1 l1.length c1]) (t := 34) ?hr ?_; (case hd => rfl); (case hg => rfl); (case hr => first | (go_simp; done) | (go_simp; rfl)); intro g2 hg w2 hbox hb; have n0_ := Aside0.mk (below_step (by repeat (first | (with_reducible first | exact HB.out | apply below_alloc | apply pw_below_drewN | apply below_drew1) | exact HB.out)) hb); have n1_ := Aside0.mk (hbox); have n2_ := Aside0.mk ((by rw [hg]; exact below_size HB.out : w.heap.size ≤ g2)); clear HB; have HB := n0_; have B2 := n1_; have G2 := n2_; clear n0_ n1_ n2_; clear hb hbox hg) | ((with_reducible refine gate_dst (N := 3) rfl ?_); refine box_event ?hg (N := 3) ?hd (cs := #[.int .i64 n2, .slice A2 l2.length c2]) (t := 34) ?hr ?_; (case hd => rfl); (case hg => rfl); (case hr => first | (go_simp; done) | (go_simp; rfl)); intro g3 hg w3 hbox hb; have n0_ := Aside0.mk ((by rw [hg]; exact below_size HB.out : w.heap.size ≤ g3)); have n1_ := Aside0.mk ((by rw [hg]; exact Nat.ne_of_lt (blk_lt (B2).out) : g2 ≠ g3)); have n2_ := Aside0.mk ((by rw [hg]; exact Nat.ne_of_gt (blk_lt (B2).out) : g3 ≠ g2)); have n3_ := Aside0.mk (blk_below (g := g2) (o := .cells #[.int .i64 n1, .slice A1 l1.length c1] 34 (0, 0)) (by (with_reducible repeat (first | refine blk_drewN ?_ _ | refine blk_drew ?_ | refine blk_alloc ?_ _)); exact B2.out) hb); have n4_ := Aside0.mk (below_step (by repeat (first | (with_reducible first | exact HB.out | apply below_alloc | apply pw_below_drewN | apply below_drew1) | exact HB.out)) hb); have n5_ := Aside0.mk (hbox); clear B2; clear HB; have G3 := n0_; have N23 := n1_; have N32 := n2_; have B2 := n3_; have HB := n4_; have B3 := n5_; clear n0_ n1_ n2_ n3_ n4_ n5_; clear hb hbox hg) | ((with_reducible refine gate_dst (N := 4) rfl ?_); refine box_event ?hg (N := 4) ?hd (cs := #[.int .i64 0, .slice none 0 0]) (t := 34) ?hr ?_; (case hd => rfl); (case hg => rfl); (case hr => first | (go_simp; done) | (go_simp; rfl)); intro g4 hg w4 hbox hb; have n0_ := Aside0.mk ((by rw [hg]; exact below_size HB.out : w.heap.size ≤ g4)); have n1_ := Aside0.mk ((by rw [hg]; exact Nat.ne_of_lt (blk_lt (B2).out) : g2 ≠ g4)); have n2_ := Aside0.mk ((by rw [hg]; exact Nat.ne_of_gt (blk_lt (B2).out) : g4 ≠ g2)); have n3_ := Aside0.mk ((by rw [hg]; exact Nat.ne_of_lt (blk_lt (B3).out) : g3 ≠ g4)); have n4_ := Aside0.mk ((by rw [hg]; exact Nat.ne_of_gt (blk_lt (B3).out) : g4 ≠ g3)); have n5_ := Aside0.mk (blk_below (g := g2) (o := .cells #[.int .i64 n1, .slice A1 l1.length c1] 34 (0, 0)) (by (with_reducible repeat (first | refine blk_drewN ?_ _ | refine blk_drew ?_ | refine blk_alloc ?_ _)); exact B2.out) hb); have n6_ := Aside0.mk (blk_below (g := g3) (o := .cells #[.int .i64 n2, .slice A2 l2.length c2] 34 (0, 0)) (by (with_reducible repeat (first | refine blk_drewN ?_ _ | refine blk_drew ?_ | refine blk_alloc ?_ _)); exact B3.out) hb); have n7_ := Aside0.mk (below_step (by repeat (first | (with_reducible first | exact HB.out | apply below_alloc | apply pw_below_drewN | apply below_drew1) | exact HB.out)) hb); have n8_ := Aside0.mk (hbox); clear B2; clear B3; clear HB; have G4 := n0_; have N24 := n1_; have N42 := n2_; have N34 := n3_; have N43 := n4_; have B2 := n5_; have B3 := n6_; have HB := n7_; have B4 := n8_; clear n0_ n1_ n2_ n3_ n4_ n5_ n6_ n7_ n8_; clear hb hbox hg; have hczg2_0 : w4.cell? ⟨g2, 0, none⟩ = some (.int .i64 n1) := (blk_cell B2.out 0).trans rfl; have hczg2_1 : w4.cell? ⟨g2, 1, none⟩ = some (.slice A1 l1.length c1) := (blk_cell B2.out 1).trans rfl; have hfzg2_0 := blk_frozen B2.out 0; have hfzg2_1 := blk_frozen B2.out 1; have hczg3_0 : w4.cell? ⟨g3, 0, none⟩ = some (.int .i64 n2) := (blk_cell B3.out 0).trans rfl; have hczg3_1 : w4.cell? ⟨g3, 1, none⟩ = some (.slice A2 l2.length c2) := (blk_cell B3.out 1).trans rfl; have hfzg3_0 := blk_frozen B3.out 0; have hfzg3_1 := blk_frozen B3.out 1) | ((with_reducible refine gate_dst (N := 12) rfl ?_); refine Kd.N_lit k34 _ 34 ?hg (N' := 12) ?hd (xs := ([(⟨n1, l1⟩ : S34), (⟨n2, l2⟩ : S34)] : List (S34))) (inner := [.int .i64 n1, .slice A1 l1.length c1, .int .i64 n2, .slice A2 l2.length c2]) (ok := fun _ => True) (okp := fun _ => True) ?hr ?hp (fun _ hk => hk) trivial (Below.refl _ _) (Nat.le_refl _) (by simp) ?_; (case hd => rfl); (case hg => rfl); (case hr => first | (go_simp; done) | (go_simp; rfl)); (case hp => exact (Reps.c2 (show Kd.FK k34 _ _ (⟨n1, l1⟩ : S34) [.int .i64 n1, .slice A1 l1.length c1] from (mkF_ _ _ (⟨n1, l1⟩ : S34) HC1.out (Kd.V_F (Kd.V_mono (ok' := fun _ => True) (Kd.V_mk (base := w.heap.size) (e := 2) HC1.out (Kd.F_below (Kd.C_F (Kd.heap_int .i64) HR1.out) (by repeat (first | (with_reducible first | exact HB.out | apply below_alloc | apply pw_below_drewN | apply below_drew1) | exact HB.out)))) (fun _ _ => trivial))))) (Reps.c2 (show Kd.FK k34 _ _ (⟨n2, l2⟩ : S34) [.int .i64 n2, .slice A2 l2.length c2] from (mkF_ _ _ (⟨n2, l2⟩ : S34) HC2.out (Kd.V_F (Kd.V_mono (ok' := fun _ => True) (Kd.V_mk (base := w.heap.size) (e := 2) HC2.out (Kd.F_below (Kd.C_F (Kd.heap_int .i64) HR2.out) (by repeat (first | (with_reducible first | exact HB.out | apply below_alloc | apply pw_below_drewN | apply below_drew1) | exact HB.out)))) (fun _ _ => trivial))))) (Reps.none _ _)))); intro v12 w5 ho hb hg_ hnew_; clear hg_ hnew_; have n0_ := Aside0.mk (ho); have n1_ := Aside0.mk (blk_below (g := g2) (o := .cells #[.int .i64 n1, .slice A1 l1.length c1] 34 (0, 0)) (by (with_reducible repeat (first | refine blk_drewN ?_ _ | refine blk_drew ?_ | refine blk_alloc ?_ _)); exact B2.out) hb); have n2_ := Aside0.mk (blk_below (g := g3) (o := .cells #[.int .i64 n2, .slice A2 l2.length c2] 34 (0, 0)) (by (with_reducible repeat (first | refine blk_drewN ?_ _ | refine blk_drew ?_ | refine blk_alloc ?_ _)); exact B3.out) hb); have n3_ := Aside0.mk (blk_below (g := g4) (o := .cells #[.int .i64 0, .slice none 0 0] 34 (0, 0)) (by (with_reducible repeat (first | refine blk_drewN ?_ _ | refine blk_drew ?_ | refine blk_alloc ?_ _)); exact B4.out) hb); have n4_ := Aside0.mk (below_step (by repeat (first | (with_reducible first | exact HB.out | apply below_alloc | apply pw_below_drewN | apply below_drew1) | exact HB.out)) hb); clear B2; clear B3; clear B4; clear HB; have HN := n0_; have B2 := n1_; have B3 := n2_; have B4 := n3_; have HB := n4_; clear n0_ n1_ n2_ n3_ n4_; clear hb ho; obtain ⟨A12, c12, e12⟩ := Kd.N_slice HN.out; subst e12) | ((with_reducible refine gate_callee (f := 55) rfl ?_); refine goesL_ (some 13) rfl rfl Try.func55 (by kernel_rfl) rfl #[.slice A12 ([(⟨n1, l1⟩ : S34), (⟨n2, l2⟩ : S34)] : List (S34)).length c12] rfl (by (try simp only [List.map_toArray, List.map_cons, List.map_nil]); first | done | rfl) ?_; (with_reducible refine (impl_areGraphs.calls k _ _ _ _ _ ?side1 ?side2 A9.out).mono ?_); (case side1 => exact (Kd.N_reads' HN.out).2.2); (case side2 => exact (Kd.N_reads' HN.out).2.1); rintro e w6 ⟨rfl, hb⟩; refine ⟨_, rfl, ?_⟩; have n0_ := Aside0.mk (blk_below (g := g2) (o := .cells #[.int .i64 n1, .slice A1 l1.length c1] 34 (0, 0)) (by (with_reducible repeat (first | refine blk_drewN ?_ _ | refine blk_drew ?_ | refine blk_alloc ?_ _)); exact B2.out) hb); have n1_ := Aside0.mk (blk_below (g := g3) (o := .cells #[.int .i64 n2, .slice A2 l2.length c2] 34 (0, 0)) (by (with_reducible repeat (first | refine blk_drewN ?_ _ | refine blk_drew ?_ | refine blk_alloc ?_ _)); exact B3.out) hb); have n2_ := Aside0.mk (blk_below (g := g4) (o := .cells #[.int .i64 0, .slice none 0 0] 34 (0, 0)) (by (with_reducible repeat (first | refine blk_drewN ?_ _ | refine blk_drew ?_ | refine blk_alloc ?_ _)); exact B4.out) hb); have n3_ := Aside0.mk (below_step (by repeat (first | (with_reducible first | exact HB.out | apply below_alloc | apply pw_below_drewN | apply below_drew1) | exact HB.out)) hb); clear B2; clear B3; clear B4; clear HB; have B2 := n0_; have B3 := n1_; have B4 := n2_; have HB := n3_; clear n0_ n1_ n2_ n3_; clear hb HN; have hczg2_0 : w6.cell? ⟨g2, 0, none⟩ = some (.int .i64 n1) := (blk_cell B2.out 0).trans rfl; have hczg2_1 : w6.cell? ⟨g2, 1, none⟩ = some (.slice A1 l1.length c1) := (blk_cell B2.out 1).trans rfl; have hfzg2_0 := blk_frozen B2.out 0; have hfzg2_1 := blk_frozen B2.out 1; have hczg3_0 : w6.cell? ⟨g3, 0, none⟩ = some (.int .i64 n2) := (blk_cell B3.out 0).trans rfl; have hczg3_1 : w6.cell? ⟨g3, 1, none⟩ = some (.slice A2 l2.length c2) := (blk_cell B3.out 1).trans rfl; have hfzg3_0 := blk_frozen B3.out 0; have hfzg3_1 := blk_frozen B3.out 1; have hczg4_0 : w6.cell? ⟨g4, 0, none⟩ = some (.int .i64 0) := (blk_cell B4.out 0).trans rfl; have hczg4_1 : w6.cell? ⟨g4, 1, none⟩ = some (.slice none 0 0) := (blk_cell B4.out 1).trans rfl; have hfzg4_0 := blk_frozen B4.out 0; have hfzg4_1 := blk_frozen B4.out 1; have hn23 := N23.out; have hn32 := N32.out; have hn24 := N24.out; have hn42 := N42.out; have hn34 := N34.out; have hn43 := N43.out))
      refine bodyPost_ret (results_ct rfl _ _ g4 34 #[.int .i64 0, .slice none 0 0] (0, 0) _ rfl (by refine blk_put (cs := #[.int .i64 0, .slice none 0 0]) ?_ 1 _ rfl; refine blk_put (cs := #[.int .i64 0, .slice none 0 0]) ?_ 0 _ rfl; exact B4.out) Try.underlying34 rfl (by kernel_rfl)) rfl ?_
      exact ⟨_, rfl, Kd.R_nil _ _ _ _ _, below_set (below_set HB.out G4.out) G4.out⟩
    · rw [if_neg c5] at h
      have c5b0 : decide (62 < wrap64 (n1 + n2)) = false := decide_eq_false c5
      clear c5
      obtain ⟨⟨t1, t2⟩, A8, h⟩ := Option.bind_eq_some_iff.mp h
      replace A8 := Aside0.mk A8
      by_cases c6 : 0 < l1.length
      · simp only [if_pos c6] at h
        by_cases c7 : l1.length ≤ t2.length
        · simp only [if_pos c7] at h
          have L1 := Aside0.mk c6
          have L3 := Aside0.mk c7
          have L2 := Aside0.mk (show 0 < t2.length by omega)
          have HL := Aside0.mk (show (cpy_ t2 l1).length = t2.length by unfold cpy_; rw [List.length_append, List.length_drop]; omega)
          have H' := Aside0.mk h
          clear h c6 c7
          go_enter Try.func31, Try.ntmps31
          go_wp2_with (first | ((with_reducible refine gate_dst (N := 2) rfl ?_); refine box_event ?hg (N := 2) ?hd (cs := #[.int .i64 n1, .slice A1 l1.length c1]) (t := 34) ?hr ?_; (case hd => rfl); (case hg => rfl); (case hr => first | (go_simp; done) | (go_simp; rfl)); intro g2 hg w2 hbox hb; have n0_ := Aside0.mk (below_step (by repeat (first | (with_reducible first | exact HB.out | apply below_alloc | apply pw_below_drewN | apply below_drew1) | exact HB.out)) hb); have n1_ := Aside0.mk (hbox); have n2_ := Aside0.mk ((by rw [hg]; exact below_size HB.out : w.heap.size ≤ g2)); clear HB; have HB := n0_; have B2 := n1_; have G2 := n2_; clear n0_ n1_ n2_; clear hb hbox hg) | ((with_reducible refine gate_dst (N := 3) rfl ?_); refine box_event ?hg (N := 3) ?hd (cs := #[.int .i64 n2, .slice A2 l2.length c2]) (t := 34) ?hr ?_; (case hd => rfl); (case hg => rfl); (case hr => first | (go_simp; done) | (go_simp; rfl)); intro g3 hg w3 hbox hb; have n0_ := Aside0.mk ((by rw [hg]; exact below_size HB.out : w.heap.size ≤ g3)); have n1_ := Aside0.mk ((by rw [hg]; exact Nat.ne_of_lt (blk_lt (B2).out) : g2 ≠ g3)); have n2_ := Aside0.mk ((by rw [hg]; exact Nat.ne_of_gt (blk_lt (B2).out) : g3 ≠ g2)); have n3_ := Aside0.mk (blk_below (g := g2) (o := .cells #[.int .i64 n1, .slice A1 l1.length c1] 34 (0, 0)) (by (with_reducible repeat (first | refine blk_drewN ?_ _ | refine blk_drew ?_ | refine blk_alloc ?_ _)); exact B2.out) hb); have n4_ := Aside0.mk (below_step (by repeat (first | (with_reducible first | exact HB.out | apply below_alloc | apply pw_below_drewN | apply below_drew1) | exact HB.out)) hb); have n5_ := Aside0.mk (hbox); clear B2; clear HB; have G3 := n0_; have N23 := n1_; have N32 := n2_; have B2 := n3_; have HB := n4_; have B3 := n5_; clear n0_ n1_ n2_ n3_ n4_ n5_; clear hb hbox hg) | ((with_reducible refine gate_dst (N := 4) rfl ?_); refine box_event ?hg (N := 4) ?hd (cs := #[.int .i64 0, .slice none 0 0]) (t := 34) ?hr ?_; (case hd => rfl); (case hg => rfl); (case hr => first | (go_simp; done) | (go_simp; rfl)); intro g4 hg w4 hbox hb; have n0_ := Aside0.mk ((by rw [hg]; exact below_size HB.out : w.heap.size ≤ g4)); have n1_ := Aside0.mk ((by rw [hg]; exact Nat.ne_of_lt (blk_lt (B2).out) : g2 ≠ g4)); have n2_ := Aside0.mk ((by rw [hg]; exact Nat.ne_of_gt (blk_lt (B2).out) : g4 ≠ g2)); have n3_ := Aside0.mk ((by rw [hg]; exact Nat.ne_of_lt (blk_lt (B3).out) : g3 ≠ g4)); have n4_ := Aside0.mk ((by rw [hg]; exact Nat.ne_of_gt (blk_lt (B3).out) : g4 ≠ g3)); have n5_ := Aside0.mk (blk_below (g := g2) (o := .cells #[.int .i64 n1, .slice A1 l1.length c1] 34 (0, 0)) (by (with_reducible repeat (first | refine blk_drewN ?_ _ | refine blk_drew ?_ | refine blk_alloc ?_ _)); exact B2.out) hb); have n6_ := Aside0.mk (blk_below (g := g3) (o := .cells #[.int .i64 n2, .slice A2 l2.length c2] 34 (0, 0)) (by (with_reducible repeat (first | refine blk_drewN ?_ _ | refine blk_drew ?_ | refine blk_alloc ?_ _)); exact B3.out) hb); have n7_ := Aside0.mk (below_step (by repeat (first | (with_reducible first | exact HB.out | apply below_alloc | apply pw_below_drewN | apply below_drew1) | exact HB.out)) hb); have n8_ := Aside0.mk (hbox); clear B2; clear B3; clear HB; have G4 := n0_; have N24 := n1_; have N42 := n2_; have N34 := n3_; have N43 := n4_; have B2 := n5_; have B3 := n6_; have HB := n7_; have B4 := n8_; clear n0_ n1_ n2_ n3_ n4_ n5_ n6_ n7_ n8_; clear hb hbox hg; have hczg2_0 : w4.cell? ⟨g2, 0, none⟩ = some (.int .i64 n1) := (blk_cell B2.out 0).trans rfl; have hczg2_1 : w4.cell? ⟨g2, 1, none⟩ = some (.slice A1 l1.length c1) := (blk_cell B2.out 1).trans rfl; have hfzg2_0 := blk_frozen B2.out 0; have hfzg2_1 := blk_frozen B2.out 1; have hczg3_0 : w4.cell? ⟨g3, 0, none⟩ = some (.int .i64 n2) := (blk_cell B3.out 0).trans rfl; have hczg3_1 : w4.cell? ⟨g3, 1, none⟩ = some (.slice A2 l2.length c2) := (blk_cell B3.out 1).trans rfl; have hfzg3_0 := blk_frozen B3.out 0; have hfzg3_1 := blk_frozen B3.out 1) | ((with_reducible refine gate_dst (N := 12) rfl ?_); refine Kd.N_lit k34 _ 34 ?hg (N' := 12) ?hd (xs := ([(⟨n1, l1⟩ : S34), (⟨n2, l2⟩ : S34)] : List (S34))) (inner := [.int .i64 n1, .slice A1 l1.length c1, .int .i64 n2, .slice A2 l2.length c2]) (ok := fun _ => True) (okp := fun _ => True) ?hr ?hp (fun _ hk => hk) trivial (Below.refl _ _) (Nat.le_refl _) (by simp) ?_; (case hd => rfl); (case hg => rfl); (case hr => first | (go_simp; done) | (go_simp; rfl)); (case hp => exact (Reps.c2 (show Kd.FK k34 _ _ (⟨n1, l1⟩ : S34) [.int .i64 n1, .slice A1 l1.length c1] from (mkF_ _ _ (⟨n1, l1⟩ : S34) HC1.out (Kd.V_F (Kd.V_mono (ok' := fun _ => True) (Kd.V_mk (base := w.heap.size) (e := 2) HC1.out (Kd.F_below (Kd.C_F (Kd.heap_int .i64) HR1.out) (by repeat (first | (with_reducible first | exact HB.out | apply below_alloc | apply pw_below_drewN | apply below_drew1) | exact HB.out)))) (fun _ _ => trivial))))) (Reps.c2 (show Kd.FK k34 _ _ (⟨n2, l2⟩ : S34) [.int .i64 n2, .slice A2 l2.length c2] from (mkF_ _ _ (⟨n2, l2⟩ : S34) HC2.out (Kd.V_F (Kd.V_mono (ok' := fun _ => True) (Kd.V_mk (base := w.heap.size) (e := 2) HC2.out (Kd.F_below (Kd.C_F (Kd.heap_int .i64) HR2.out) (by repeat (first | (with_reducible first | exact HB.out | apply below_alloc | apply pw_below_drewN | apply below_drew1) | exact HB.out)))) (fun _ _ => trivial))))) (Reps.none _ _)))); intro v12 w5 ho hb hg_ hnew_; clear hg_ hnew_; have n0_ := Aside0.mk (ho); have n1_ := Aside0.mk (blk_below (g := g2) (o := .cells #[.int .i64 n1, .slice A1 l1.length c1] 34 (0, 0)) (by (with_reducible repeat (first | refine blk_drewN ?_ _ | refine blk_drew ?_ | refine blk_alloc ?_ _)); exact B2.out) hb); have n2_ := Aside0.mk (blk_below (g := g3) (o := .cells #[.int .i64 n2, .slice A2 l2.length c2] 34 (0, 0)) (by (with_reducible repeat (first | refine blk_drewN ?_ _ | refine blk_drew ?_ | refine blk_alloc ?_ _)); exact B3.out) hb); have n3_ := Aside0.mk (blk_below (g := g4) (o := .cells #[.int .i64 0, .slice none 0 0] 34 (0, 0)) (by (with_reducible repeat (first | refine blk_drewN ?_ _ | refine blk_drew ?_ | refine blk_alloc ?_ _)); exact B4.out) hb); have n4_ := Aside0.mk (below_step (by repeat (first | (with_reducible first | exact HB.out | apply below_alloc | apply pw_below_drewN | apply below_drew1) | exact HB.out)) hb); clear B2; clear B3; clear B4; clear HB; have HN := n0_; have B2 := n1_; have B3 := n2_; have B4 := n3_; have HB := n4_; clear n0_ n1_ n2_ n3_ n4_; clear hb ho; obtain ⟨A12, c12, e12⟩ := Kd.N_slice HN.out; subst e12) | ((with_reducible refine gate_callee (f := 55) rfl ?_); refine goesL_ (some 13) rfl rfl Try.func55 (by kernel_rfl) rfl #[.slice A12 ([(⟨n1, l1⟩ : S34), (⟨n2, l2⟩ : S34)] : List (S34)).length c12] rfl (by (try simp only [List.map_toArray, List.map_cons, List.map_nil]); first | done | rfl) ?_; (with_reducible refine (impl_areGraphs.calls k _ _ _ _ _ ?side1 ?side2 A9.out).mono ?_); (case side1 => exact (Kd.N_reads' HN.out).2.2); (case side2 => exact (Kd.N_reads' HN.out).2.1); rintro e w6 ⟨rfl, hb⟩; refine ⟨_, rfl, ?_⟩; have n0_ := Aside0.mk (blk_below (g := g2) (o := .cells #[.int .i64 n1, .slice A1 l1.length c1] 34 (0, 0)) (by (with_reducible repeat (first | refine blk_drewN ?_ _ | refine blk_drew ?_ | refine blk_alloc ?_ _)); exact B2.out) hb); have n1_ := Aside0.mk (blk_below (g := g3) (o := .cells #[.int .i64 n2, .slice A2 l2.length c2] 34 (0, 0)) (by (with_reducible repeat (first | refine blk_drewN ?_ _ | refine blk_drew ?_ | refine blk_alloc ?_ _)); exact B3.out) hb); have n2_ := Aside0.mk (blk_below (g := g4) (o := .cells #[.int .i64 0, .slice none 0 0] 34 (0, 0)) (by (with_reducible repeat (first | refine blk_drewN ?_ _ | refine blk_drew ?_ | refine blk_alloc ?_ _)); exact B4.out) hb); have n3_ := Aside0.mk (below_step (by repeat (first | (with_reducible first | exact HB.out | apply below_alloc | apply pw_below_drewN | apply below_drew1) | exact HB.out)) hb); clear B2; clear B3; clear B4; clear HB; have B2 := n0_; have B3 := n1_; have B4 := n2_; have HB := n3_; clear n0_ n1_ n2_ n3_; clear hb HN; have hczg2_0 : w6.cell? ⟨g2, 0, none⟩ = some (.int .i64 n1) := (blk_cell B2.out 0).trans rfl; have hczg2_1 : w6.cell? ⟨g2, 1, none⟩ = some (.slice A1 l1.length c1) := (blk_cell B2.out 1).trans rfl; have hfzg2_0 := blk_frozen B2.out 0; have hfzg2_1 := blk_frozen B2.out 1; have hczg3_0 : w6.cell? ⟨g3, 0, none⟩ = some (.int .i64 n2) := (blk_cell B3.out 0).trans rfl; have hczg3_1 : w6.cell? ⟨g3, 1, none⟩ = some (.slice A2 l2.length c2) := (blk_cell B3.out 1).trans rfl; have hfzg3_0 := blk_frozen B3.out 0; have hfzg3_1 := blk_frozen B3.out 1; have hczg4_0 : w6.cell? ⟨g4, 0, none⟩ = some (.int .i64 0) := (blk_cell B4.out 0).trans rfl; have hczg4_1 : w6.cell? ⟨g4, 1, none⟩ = some (.slice none 0 0) := (blk_cell B4.out 1).trans rfl; have hfzg4_0 := blk_frozen B4.out 0; have hfzg4_1 := blk_frozen B4.out 1; have hn23 := N23.out; have hn32 := N32.out; have hn24 := N24.out; have hn42 := N42.out; have hn34 := N34.out; have hn43 := N43.out) | ((with_reducible refine gate_callee (f := 51) rfl ?_); refine goesL_ (some 29) rfl rfl Try.func51 (by kernel_rfl) rfl #[.int .i64 (wrap64 (n1 + n2))] rfl (by (try simp only [List.map_toArray, List.map_cons, List.map_nil]); first | done | rfl) ?_; (with_reducible refine (impl_empty.calls (wrap64 (n1 + n2)) t1 t2 _ A8.out).mono ?_); rintro e w7 ⟨v7, rfl, ho0, hb⟩; refine ⟨_, rfl, ?_⟩; have n0_ := Aside0.mk (Kd.R_lower ho0 (below_size HB.out)); have n1_ := Aside0.mk (blk_below (g := g2) (o := .cells #[.int .i64 n1, .slice A1 l1.length c1] 34 (0, 0)) (by (with_reducible repeat (first | refine blk_drewN ?_ _ | refine blk_drew ?_ | refine blk_alloc ?_ _)); exact B2.out) hb); have n2_ := Aside0.mk (blk_below (g := g3) (o := .cells #[.int .i64 n2, .slice A2 l2.length c2] 34 (0, 0)) (by (with_reducible repeat (first | refine blk_drewN ?_ _ | refine blk_drew ?_ | refine blk_alloc ?_ _)); exact B3.out) hb); have n3_ := Aside0.mk (blk_below (g := g4) (o := .cells #[.int .i64 0, .slice none 0 0] 34 (0, 0)) (by (with_reducible repeat (first | refine blk_drewN ?_ _ | refine blk_drew ?_ | refine blk_alloc ?_ _)); exact B4.out) hb); have n4_ := Aside0.mk (below_step (by repeat (first | (with_reducible first | exact HB.out | apply below_alloc | apply pw_below_drewN | apply below_drew1) | exact HB.out)) hb); clear B2; clear B3; clear B4; clear HB; have HX := n0_; have B2 := n1_; have B3 := n2_; have B4 := n3_; have HB := n4_; clear n0_ n1_ n2_ n3_ n4_; clear hb ho0) | ((with_reducible refine gate_dst (N := 6) rfl ?_); refine box_event ?hg (N := 6) ?hd (cs := #[.int .i64 0, .slice none 0 0]) (t := 34) ?hr ?_; (case hd => rfl); (case hg => rfl); (case hr => first | (go_simp; done) | (go_simp; rfl)); intro g6 hg w8 hbox hb; have n0_ := Aside0.mk ((by rw [hg]; exact below_size HB.out : w.heap.size ≤ g6)); have n1_ := Aside0.mk ((by rw [hg]; exact Nat.ne_of_lt (blk_lt (B2).out) : g2 ≠ g6)); have n2_ := Aside0.mk ((by rw [hg]; exact Nat.ne_of_gt (blk_lt (B2).out) : g6 ≠ g2)); have n3_ := Aside0.mk ((by rw [hg]; exact Nat.ne_of_lt (blk_lt (B3).out) : g3 ≠ g6)); have n4_ := Aside0.mk ((by rw [hg]; exact Nat.ne_of_gt (blk_lt (B3).out) : g6 ≠ g3)); have n5_ := Aside0.mk ((by rw [hg]; exact Nat.ne_of_lt (blk_lt (B4).out) : g4 ≠ g6)); have n6_ := Aside0.mk ((by rw [hg]; exact Nat.ne_of_gt (blk_lt (B4).out) : g6 ≠ g4)); have n7_ := Aside0.mk (Kd.R_below HX.out hb); have n8_ := Aside0.mk (blk_below (g := g2) (o := .cells #[.int .i64 n1, .slice A1 l1.length c1] 34 (0, 0)) (by (with_reducible repeat (first | refine blk_drewN ?_ _ | refine blk_drew ?_ | refine blk_alloc ?_ _)); exact B2.out) hb); have n9_ := Aside0.mk (blk_below (g := g3) (o := .cells #[.int .i64 n2, .slice A2 l2.length c2] 34 (0, 0)) (by (with_reducible repeat (first | refine blk_drewN ?_ _ | refine blk_drew ?_ | refine blk_alloc ?_ _)); exact B3.out) hb); have n10_ := Aside0.mk (blk_below (g := g4) (o := .cells #[.int .i64 0, .slice none 0 0] 34 (0, 0)) (by (with_reducible repeat (first | refine blk_drewN ?_ _ | refine blk_drew ?_ | refine blk_alloc ?_ _)); exact B4.out) hb); have n11_ := Aside0.mk (below_step (by repeat (first | (with_reducible first | exact HB.out | apply below_alloc | apply pw_below_drewN | apply below_drew1) | exact HB.out)) hb); have n12_ := Aside0.mk (hbox); clear HX; clear B2; clear B3; clear B4; clear HB; have G6 := n0_; have N26 := n1_; have N62 := n2_; have N36 := n3_; have N63 := n4_; have N46 := n5_; have N64 := n6_; have HX := n7_; have B2 := n8_; have B3 := n9_; have B4 := n10_; have HB := n11_; have B6 := n12_; clear n0_ n1_ n2_ n3_ n4_ n5_ n6_ n7_ n8_ n9_ n10_ n11_ n12_; clear hb hbox hg; have hn26 := N26.out; have hn62 := N62.out; have hn36 := N36.out; have hn63 := N63.out; have hczg2_0 : w8.cell? ⟨g2, 0, none⟩ = some (.int .i64 n1) := (blk_cell B2.out 0).trans rfl; have hczg2_1 : w8.cell? ⟨g2, 1, none⟩ = some (.slice A1 l1.length c1) := (blk_cell B2.out 1).trans rfl; have hfzg2_0 := blk_frozen B2.out 0; have hfzg2_1 := blk_frozen B2.out 1; have hczg3_0 : w8.cell? ⟨g3, 0, none⟩ = some (.int .i64 n2) := (blk_cell B3.out 0).trans rfl; have hczg3_1 : w8.cell? ⟨g3, 1, none⟩ = some (.slice A2 l2.length c2) := (blk_cell B3.out 1).trans rfl; have hfzg3_0 := blk_frozen B3.out 0; have hfzg3_1 := blk_frozen B3.out 1; have hczg6_0 : w8.cell? ⟨g6, 0, none⟩ = some (.int .i64 0) := (blk_cell B6.out 0).trans rfl; have hczg6_1 : w8.cell? ⟨g6, 1, none⟩ = some (.slice none 0 0) := (blk_cell B6.out 1).trans rfl; have hfzg6_0 := blk_frozen B6.out 0; have hfzg6_1 := blk_frozen B6.out 1; obtain ⟨go, co, eo, gb, gl, cl, HGo⟩ := Kd.R_form HX.out L2.out; subst eo; have GB := Aside0.mk gb; have GL := Aside0.mk gl; clear gb gl cl HGo) | ((with_reducible refine gate_dst (N := 34) rfl ?_); refine copy_row_ rfl (.tmp 31) (.tmp 33) 22 rfl Try.underlying22 (by kernel_rfl) go t2.length co A1 l1.length c1 rfl rfl t2 l1 (w0 := w) (base := w.heap.size) (Kd.R_mono (Kd.R_far (p := ⟨g6, 1, none⟩) (Kd.R_far (p := ⟨g6, 0, none⟩) (Kd.R_types HX.out B6.out (by decide)) (fun _ hk => hk.2) (.int .i64 t1)) (fun _ hk => hk.2) (.slice (some ⟨go, 0, none⟩) t2.length co)) (fun _ _ => trivial)) ?hcx ?hcl L1.out (below_set (below_set HB.out G6.out) G6.out) GB.out ?_; (case hcx => exact Kd.C_below HR1.out (below_set (below_set HB.out G6.out) G6.out)); (case hcl => exact L3.out); intro w9 hx9 hb9 hk9; have n0_ := Aside0.mk (hx9); have n1_ := Aside0.mk (blk_kept (blk_far (blk_far B2.out N26.out _) N26.out _) hk9 (fun h_ => (Kd.R_ne HX.out B2.out (by decide)) (congrArg some h_.symm))); have n2_ := Aside0.mk (blk_kept (blk_far (blk_far B3.out N36.out _) N36.out _) hk9 (fun h_ => (Kd.R_ne HX.out B3.out (by decide)) (congrArg some h_.symm))); have n3_ := Aside0.mk (blk_kept (blk_far (blk_far B4.out N46.out _) N46.out _) hk9 (fun h_ => (Kd.R_ne HX.out B4.out (by decide)) (congrArg some h_.symm))); have n4_ := Aside0.mk (blk_kept (by refine blk_put (cs := #[.int .i64 t1, .slice none 0 0]) ?_ 1 _ rfl; refine blk_put (cs := #[.int .i64 0, .slice none 0 0]) ?_ 0 _ rfl; exact B6.out : ((w8.setCell ⟨g6, 0, none⟩ (.int .i64 t1)).setCell ⟨g6, 1, none⟩ (.slice (some ⟨go, 0, none⟩) t2.length co)).heap[g6]? = some (.cells #[.int .i64 t1, .slice (some ⟨go, 0, none⟩) t2.length co] 34 (0, 0))) hk9 (fun h_ => (Kd.R_ne HX.out B6.out (by decide)) (congrArg some h_.symm))); have n5_ := Aside0.mk (hb9); clear B2; clear B3; clear B4; clear B6; clear HB; have HY := n0_; have B2 := n1_; have B3 := n2_; have B4 := n3_; have B6 := n4_; have HB := n5_; clear n0_ n1_ n2_ n3_ n4_ n5_; clear hx9 hb9 hk9 HX; have hczg2_0 : w9.cell? ⟨g2, 0, none⟩ = some (.int .i64 n1) := (blk_cell B2.out 0).trans rfl; have hczg2_1 : w9.cell? ⟨g2, 1, none⟩ = some (.slice A1 l1.length c1) := (blk_cell B2.out 1).trans rfl; have hfzg2_0 := blk_frozen B2.out 0; have hfzg2_1 := blk_frozen B2.out 1; have hczg3_0 : w9.cell? ⟨g3, 0, none⟩ = some (.int .i64 n2) := (blk_cell B3.out 0).trans rfl; have hczg3_1 : w9.cell? ⟨g3, 1, none⟩ = some (.slice A2 l2.length c2) := (blk_cell B3.out 1).trans rfl; have hfzg3_0 := blk_frozen B3.out 0; have hfzg3_1 := blk_frozen B3.out 1))
          go_loopg [38] k (fun kq v38 w' => ∃ (x38_1 : Int) (rows : List Int), v38 = .int .i64 x38_1 ∧ Aside0 (impl_PutBeside.l0 kq l2 x38_1 n1 t1 rows = some (r1, r2, r3)) ∧ Aside0 (kq ≤ k) ∧ Aside0 (rows.length = t2.length) ∧ Aside0 (Kd.R (Kd.int .i64) 2 w' w.heap.size (fun _ => True) (.slice (some ⟨go, 0, none⟩) t2.length co) rows) ∧ Aside0 (w'.heap[g2]? = some (.cells #[.int .i64 n1, .slice A1 l1.length c1] 34 (0, 0))) ∧ Aside0 (w'.heap[g3]? = some (.cells #[.int .i64 n2, .slice A2 l2.length c2] 34 (0, 0))) ∧ Aside0 (w'.heap[g4]? = some (.cells #[.int .i64 0, .slice none 0 0] 34 (0, 0))) ∧ Aside0 (w'.heap[g6]? = some (.cells #[.int .i64 t1, .slice (some ⟨go, 0, none⟩) t2.length co] 34 (0, 0))) ∧ Aside0 (Below w.heap.size w w'))
          case atStart => exact ⟨0, cpy_ t2 l1, rfl, H', ⟨Nat.le_refl _⟩, HL, HY, B2, B3, B4, B6, HB⟩
          case round =>
            clear H' HY B2 B3 B4 B6 HB HL
            obtain ⟨x38_1, rows, rfl, HA, HK1, HL, HX, B2, B3, B4, B6, HB⟩ := hrel
            cases gk with
            | zero => exact absurd HA.out (by simp [impl_PutBeside.l0])
            | succ k1 =>
              have H := HA.out
              clear HA
              rw [impl_PutBeside.l0.eq_2] at H
              by_cases c45 : x38_1 < (l2.length : Int)
              · rw [if_pos c45] at H
                have c45b0 : decide (x38_1 < (l2.length : Int)) = true := decide_eq_true c45
                by_cases c46 : 0 ≤ x38_1
                · rw [if_pos c46] at H
                  by_cases c47 : 0 ≤ n1
                  · rw [if_pos c47] at H
                    have c47b0 := eq_true c47
                    have c47b1 : decide (0 ≤ n1) = true := decide_eq_true c47
                    obtain ⟨jw, hjw⟩ : ∃ j_ : Int, wrap64 (n1 + x38_1) = j_ := ⟨_, rfl⟩
                    have hjiw : (IntKind.i64.wrap (n1 + x38_1)) = jw := (i64_w _).trans hjw
                    rw [hjw] at H
                    obtain ⟨js, hjs⟩ : ∃ j_ : Int, shl .i64 (rd l2 x38_1) n1 = j_ := ⟨_, rfl⟩
                    rw [hjs] at H
                    by_cases c48 : 0 ≤ jw
                    · rw [if_pos c48] at H
                      by_cases c49 : jw < (rows.length : Int)
                      · rw [if_pos c49] at H
                        obtain ⟨ys, hys⟩ : ∃ y_ : List Int, y_ = rows.set jw.toNat js := ⟨_, rfl⟩
                        rw [← hys] at H
                        have H' := Aside0.mk H
                        have NY := Aside0.mk hys
                        have NL := Aside0.mk (show ys.length = t2.length by rw [hys, List.length_set]; exact HL.out)
                        clear H hys
                        obtain ⟨ad, e2, hx⟩ := Kd.at_int (Kd.C_below HR2.out HB.out) x38_1 c46 c45
                        subst e2
                        have p183 := eq_true c46
                        have q183 := eq_true c45
                        have hq : jw < (t2.length : Int) := by rw [← HL.out]; exact c49
                        have p53 := eq_true c48
                        have q53 := eq_true hq
                        clear c45
                        go_wp2
                        have n0_ := Aside0.mk (Kd.R_drew HX.out)
                        have n1_ := Aside0.mk (blk_drew B2.out)
                        have n2_ := Aside0.mk (blk_drew B3.out)
                        have n3_ := Aside0.mk (blk_drew B4.out)
                        have n4_ := Aside0.mk (blk_drew B6.out)
                        have n5_ := Aside0.mk (below_drew1 HB.out)
                        clear HX B2 B3 B4 B6 HB
                        have HX := n0_
                        have B2 := n1_
                        have B3 := n2_
                        have B4 := n3_
                        have B6 := n4_
                        have HB := n5_
                        clear n0_ n1_ n2_ n3_ n4_ n5_
                        have HX2 : Kd.R (Kd.int .i64) 2 wr.drew w.heap.size (fun _ => True) (.slice (some ⟨go, 0, none⟩) rows.length co) rows := by rw [HL.out]; exact HX.out
                        obtain ⟨hx53_0, hf53_0⟩ := Kd.R_celln 0 HX2 jw c48 c49
                        have HP := Kd.R_putn HX2 jw js
                        rw [← NY.out] at HP
                        have HQ := Aside0.mk HP
                        clear HP HX2 c48 c49 c46 c47
                        refine start_ (n := 12) (S := fun w' => w'.cell? ⟨g6, 0, none⟩ = some (.int .i64 t1) ∧ w'.cell? ⟨g6, 1, none⟩ = some (.slice (some ⟨go, 0, none⟩) t2.length co) ∧ w'.cell? ⟨g2, 0, none⟩ = some (.int .i64 n1) ∧ w'.cell? ⟨g2, 1, none⟩ = some (.slice A1 l1.length c1)) (ds := [11]) #[false, false, false, false, false, false, false, false, false, false, false, false] (by kernel_rfl) rfl rfl ⟨(blk_cell B6.out 0).trans rfl, (blk_cell B6.out 1).trans rfl, (blk_cell B2.out 0).trans rfl, (blk_cell B2.out 1).trans rfl⟩ (fun hHeld => ?_); refine with_tabW putBeside_tab putBeside_bits (fun HT_ HW_ => ?_)
                        generalize wr.drew = w54 at HX B2 B3 B4 B6 HB HQ hf53_0 hx53_0 hHeld ⊢
                        refine pure_ (i := 0) (N := some 43) (v := ?_) (a' := ?_) #[true, false, false, false, false, false, false, false, false, false, false, false] rfl rfl (any_of HT_.out (by kernel_rfl)) (fun _ _ _ h => h) (Or.inl ⟨by rfl, ?_⟩) ?_ ?_
                        rotate_left
                        · intro w'
                          go_simp
                          with_reducible rfl
                        rotate_left
                        · simp only [Act.put, List.setIfInBounds_toArray, List.set_cons_zero, List.set_cons_succ, i64_w, i32_w]
                          rfl
                        refine pure_ (i := 2) (N := some 45) (v := ?_) (a' := ?_) #[true, false, true, false, false, false, false, false, false, false, false, false] rfl rfl (any_of HT_.out (by kernel_rfl)) (fun _ _ _ h => h) (Or.inl ⟨by rfl, ?_⟩) ?_ ?_
                        rotate_left
                        · intro w'
                          go_simp
                          with_reducible rfl
                        rotate_left
                        · simp only [Act.put, List.setIfInBounds_toArray, List.set_cons_zero, List.set_cons_succ, i64_w, i32_w]
                          rfl
                        refine pure_ (i := 4) (N := some 47) (v := ?_) (a' := ?_) #[true, false, true, false, true, false, false, false, false, false, false, false] rfl rfl (any_of HT_.out (by kernel_rfl)) (fun _ _ _ h => h) (Or.inl ⟨by rfl, ?_⟩) ?_ ?_
                        rotate_left
                        · intro w'
                          go_simp
                          with_reducible rfl
                        rotate_left
                        · simp only [Act.put, List.setIfInBounds_toArray, List.set_cons_zero, List.set_cons_succ, i64_w, i32_w]
                          rfl
                        refine pure_ (i := 6) (N := some 49) (v := ?_) (a' := ?_) #[true, false, true, false, true, false, true, false, false, false, false, false] rfl rfl (any_of HT_.out (by kernel_rfl)) (fun _ _ _ h => h) (Or.inl ⟨by rfl, ?_⟩) ?_ ?_
                        rotate_left
                        · intro w'
                          go_simp
                          with_reducible rfl
                        rotate_left
                        · simp only [Act.put, List.setIfInBounds_toArray, List.set_cons_zero, List.set_cons_succ, i64_w, i32_w]
                          rfl
                        refine pure_ (i := 7) (N := some 50) (v := ?_) (a' := ?_) #[true, false, true, false, true, false, true, true, false, false, false, false] rfl rfl (any_of HT_.out (by kernel_rfl)) (fun _ _ _ h => h) (Or.inl ⟨by rfl, ?_⟩) ?_ ?_
                        rotate_left
                        · intro w'
                          go_simp
                          with_reducible rfl
                        rotate_left
                        · simp only [Act.put, List.setIfInBounds_toArray, List.set_cons_zero, List.set_cons_succ, i64_w, i32_w]
                          rfl
                        refine take_ (i := 1) (N := some 44) (v := ?_) (a' := ?_) #[true, true, true, false, true, false, true, true, false, false, false, false] rfl rfl (take_ofW HT_.out HW_.out (by kernel_rfl)) (fun _ _ _ h => h) (Or.inl ⟨by rfl, ?_⟩) hHeld ?_ ?_
                        rotate_left
                        · rintro w' ⟨s0, s1, s2, s3⟩
                          go_simp
                          with_reducible rfl
                        rotate_left
                        · simp only [Act.put, List.setIfInBounds_toArray, List.set_cons_zero, List.set_cons_succ, i64_w, i32_w]
                          rfl
                        refine take_ (i := 3) (N := some 46) (v := ?_) (a' := ?_) #[true, true, true, true, true, false, true, true, false, false, false, false] rfl rfl (take_ofW HT_.out HW_.out (by kernel_rfl)) (fun _ _ _ h => h) (Or.inl ⟨by rfl, ?_⟩) hHeld ?_ ?_
                        rotate_left
                        · rintro w' ⟨s0, s1, s2, s3⟩
                          go_simp
                          with_reducible rfl
                        rotate_left
                        · simp only [Act.put, List.setIfInBounds_toArray, List.set_cons_zero, List.set_cons_succ, i64_w, i32_w]
                          rfl
                        refine pure_ (i := 5) (N := some 48) (v := ?_) (a' := ?_) #[true, true, true, true, true, true, true, true, false, false, false, false] rfl rfl (any_of HT_.out (by kernel_rfl)) (fun _ _ _ h => h) (Or.inl ⟨by rfl, ?_⟩) ?_ ?_
                        rotate_left
                        · intro w'
                          go_simp
                          with_reducible rfl
                        rotate_left
                        · simp only [Act.put, List.setIfInBounds_toArray, List.set_cons_zero, List.set_cons_succ, i64_w, i32_w]
                          rfl
                        refine take_ (i := 8) (N := some 51) (v := ?_) (a' := ?_) #[true, true, true, true, true, true, true, true, true, false, false, false] rfl rfl (take_ofW HT_.out HW_.out (by kernel_rfl)) (fun _ _ _ h => h) (Or.inl ⟨by rfl, ?_⟩) hHeld ?_ ?_
                        rotate_left
                        · rintro w' ⟨s0, s1, s2, s3⟩
                          go_simp
                          with_reducible rfl
                        rotate_left
                        · simp only [Act.put, List.setIfInBounds_toArray, List.set_cons_zero, List.set_cons_succ, i64_w, i32_w]
                          rfl
                        refine pure_ (i := 9) (N := some 52) (v := ?_) (a' := ?_) #[true, true, true, true, true, true, true, true, true, true, false, false] rfl rfl (any_of HT_.out (by kernel_rfl)) (fun _ _ _ h => h) (Or.inl ⟨by rfl, ?_⟩) ?_ ?_
                        rotate_left
                        · intro w'
                          go_simp
                          with_reducible rfl
                        rotate_left
                        · simp only [Act.put, List.setIfInBounds_toArray, List.set_cons_zero, List.set_cons_succ, i64_w, i32_w]
                          rfl
                        refine pure_ (i := 10) (N := some 53) (v := ?_) (a' := ?_) #[true, true, true, true, true, true, true, true, true, true, true, false] rfl rfl (any_of HT_.out (by kernel_rfl)) (fun _ _ _ h => h) (Or.inl ⟨by rfl, ?_⟩) ?_ ?_
                        rotate_left
                        · intro w'
                          go_simp
                          with_reducible rfl
                        rotate_left
                        · simp only [Act.put, List.setIfInBounds_toArray, List.set_cons_zero, List.set_cons_succ, i64_w, i32_w]
                          rfl
                        refine last_ (i := 11) (N := none) #[true, true, true, true, true, true, true, true, true, true, true, true] rfl rfl (one_of HT_.out (by kernel_rfl)) (by decide) (fun K hK => ?_)
                        refine skip_ (w1 := ?_) (by rfl) rfl ?_ ?_
                        rotate_left
                        · go_simp
                          rfl
                        refine hK.out _ _ ?_
                        clear hK K
                        refine done_ (done_of HT_.out (by kernel_rfl)) ?_
                        try go_wp2
                        go_roundg k1
                        case measure => have := HK1.out; omega
                        case rel => exact ⟨_, ys, (by first | rfl | (simp; done)), H', ⟨by have := HK1.out; omega⟩, NL, ⟨by have h_ := HQ.out; rw [HL.out, ← hjs, show shl .i64 (rd l2 x38_1) n1 = wrap64 (rd l2 x38_1 * 2 ^ min n1.toNat 64) from i64_w _] at h_; exact h_⟩, ⟨blk_far B2.out (fun e_ => (Kd.R_ne HX.out B2.out (by decide)) (by rw [e_]; rfl)) _⟩, ⟨blk_far B3.out (fun e_ => (Kd.R_ne HX.out B3.out (by decide)) (by rw [e_]; rfl)) _⟩, ⟨blk_far B4.out (fun e_ => (Kd.R_ne HX.out B4.out (by decide)) (by rw [e_]; rfl)) _⟩, ⟨blk_far B6.out (fun e_ => (Kd.R_ne HX.out B6.out (by decide)) (by rw [e_]; rfl)) _⟩, ⟨below_set HB.out GB.out⟩⟩
                      · rw [if_neg c49] at H
                        exact absurd H (by simp)
                    · rw [if_neg c48] at H
                      exact absurd H (by simp)
                  · rw [if_neg c47] at H
                    exact absurd H (by simp)
                · rw [if_neg c46] at H
                  exact absurd H (by simp)
              · rw [if_neg c45] at H
                have c45b0 : decide (x38_1 < (l2.length : Int)) = false := decide_eq_false c45
                clear c45
                simp only [Option.some.injEq, Prod.mk.injEq] at H
                obtain ⟨rfl, rfl, rfl⟩ := H
                have hn46 := N46.out
                have hn64 := N64.out
                have hcz6_0 : wr.cell? ⟨g6, 0, none⟩ = some (.int .i64 t1) := (blk_cell B6.out 0).trans rfl
                have hcz6_1 : wr.cell? ⟨g6, 1, none⟩ = some (.slice (some ⟨go, 0, none⟩) t2.length co) := (blk_cell B6.out 1).trans rfl
                have hfz6_0 := blk_frozen B6.out 0
                have hfz6_1 := blk_frozen B6.out 1
                have hcz4_0 : wr.cell? ⟨g4, 0, none⟩ = some (.int .i64 0) := (blk_cell B4.out 0).trans rfl
                have hcz4_1 : wr.cell? ⟨g4, 1, none⟩ = some (.slice none 0 0) := (blk_cell B4.out 1).trans rfl
                have hfz4_0 := blk_frozen B4.out 0
                have hfz4_1 := blk_frozen B4.out 1
                go_wp2
                refine bodyPost_ret (results_ct rfl _ _ g4 34 #[.int .i64 t1, .slice (some ⟨go, 0, none⟩) t2.length co] (0, 0) _ rfl (by refine blk_put (cs := #[.int .i64 t1, .slice none 0 0]) ?_ 1 _ rfl; refine blk_put (cs := #[.int .i64 0, .slice none 0 0]) ?_ 0 _ rfl; exact B4.out) Try.underlying34 rfl (by kernel_rfl)) rfl ?_
                exact ⟨_, rfl, Kd.R_mono (Kd.R_far (p := ⟨g4, 1, none⟩) (Kd.R_far (p := ⟨g4, 0, none⟩) (Kd.R_types HX.out B4.out (by decide)) (fun _ hk => hk.2) (.int .i64 t1)) (fun _ hk => hk.2) (.slice (some ⟨go, 0, none⟩) t2.length co)) (fun _ _ => trivial), below_set (below_set HB.out G4.out) G4.out⟩
        · simp only [if_neg c7] at h
          exact absurd h (by simp)
      · simp only [if_neg c6] at h
        exact absurd h (by simp)
  · have tf : t = false := Bool.eq_false_iff.mpr ct
    subst tf
    rw [if_neg (by decide)] at h
    clear ct
    simp only [Option.some.injEq, Prod.mk.injEq] at h
    obtain ⟨rfl, rfl, rfl⟩ := h
    go_enter Try.func31, Try.ntmps31
    go_wp2_with (first | ((with_reducible refine gate_dst (N := 2) rfl ?_); refine box_event ?hg (N := 2) ?hd (cs := #[.int .i64 n1, .slice A1 l1.length c1]) (t := 34) ?hr ?_; (case hd => rfl); (case hg => rfl); (case hr => first | (go_simp; done) | (go_simp; rfl)); intro g2 hg w2 hbox hb; have n0_ := Aside0.mk (below_step (by repeat (first | (with_reducible first | exact HB.out | apply below_alloc | apply pw_below_drewN | apply below_drew1) | exact HB.out)) hb); have n1_ := Aside0.mk (hbox); have n2_ := Aside0.mk ((by rw [hg]; exact below_size HB.out : w.heap.size ≤ g2)); clear HB; have HB := n0_; have B2 := n1_; have G2 := n2_; clear n0_ n1_ n2_; clear hb hbox hg) | ((with_reducible refine gate_dst (N := 3) rfl ?_); refine box_event ?hg (N := 3) ?hd (cs := #[.int .i64 n2, .slice A2 l2.length c2]) (t := 34) ?hr ?_; (case hd => rfl); (case hg => rfl); (case hr => first | (go_simp; done) | (go_simp; rfl)); intro g3 hg w3 hbox hb; have n0_ := Aside0.mk ((by rw [hg]; exact below_size HB.out : w.heap.size ≤ g3)); have n1_ := Aside0.mk ((by rw [hg]; exact Nat.ne_of_lt (blk_lt (B2).out) : g2 ≠ g3)); have n2_ := Aside0.mk ((by rw [hg]; exact Nat.ne_of_gt (blk_lt (B2).out) : g3 ≠ g2)); have n3_ := Aside0.mk (blk_below (g := g2) (o := .cells #[.int .i64 n1, .slice A1 l1.length c1] 34 (0, 0)) (by (with_reducible repeat (first | refine blk_drewN ?_ _ | refine blk_drew ?_ | refine blk_alloc ?_ _)); exact B2.out) hb); have n4_ := Aside0.mk (below_step (by repeat (first | (with_reducible first | exact HB.out | apply below_alloc | apply pw_below_drewN | apply below_drew1) | exact HB.out)) hb); have n5_ := Aside0.mk (hbox); clear B2; clear HB; have G3 := n0_; have N23 := n1_; have N32 := n2_; have B2 := n3_; have HB := n4_; have B3 := n5_; clear n0_ n1_ n2_ n3_ n4_ n5_; clear hb hbox hg) | ((with_reducible refine gate_dst (N := 4) rfl ?_); refine box_event ?hg (N := 4) ?hd (cs := #[.int .i64 0, .slice none 0 0]) (t := 34) ?hr ?_; (case hd => rfl); (case hg => rfl); (case hr => first | (go_simp; done) | (go_simp; rfl)); intro g4 hg w4 hbox hb; have n0_ := Aside0.mk ((by rw [hg]; exact below_size HB.out : w.heap.size ≤ g4)); have n1_ := Aside0.mk ((by rw [hg]; exact Nat.ne_of_lt (blk_lt (B2).out) : g2 ≠ g4)); have n2_ := Aside0.mk ((by rw [hg]; exact Nat.ne_of_gt (blk_lt (B2).out) : g4 ≠ g2)); have n3_ := Aside0.mk ((by rw [hg]; exact Nat.ne_of_lt (blk_lt (B3).out) : g3 ≠ g4)); have n4_ := Aside0.mk ((by rw [hg]; exact Nat.ne_of_gt (blk_lt (B3).out) : g4 ≠ g3)); have n5_ := Aside0.mk (blk_below (g := g2) (o := .cells #[.int .i64 n1, .slice A1 l1.length c1] 34 (0, 0)) (by (with_reducible repeat (first | refine blk_drewN ?_ _ | refine blk_drew ?_ | refine blk_alloc ?_ _)); exact B2.out) hb); have n6_ := Aside0.mk (blk_below (g := g3) (o := .cells #[.int .i64 n2, .slice A2 l2.length c2] 34 (0, 0)) (by (with_reducible repeat (first | refine blk_drewN ?_ _ | refine blk_drew ?_ | refine blk_alloc ?_ _)); exact B3.out) hb); have n7_ := Aside0.mk (below_step (by repeat (first | (with_reducible first | exact HB.out | apply below_alloc | apply pw_below_drewN | apply below_drew1) | exact HB.out)) hb); have n8_ := Aside0.mk (hbox); clear B2; clear B3; clear HB; have G4 := n0_; have N24 := n1_; have N42 := n2_; have N34 := n3_; have N43 := n4_; have B2 := n5_; have B3 := n6_; have HB := n7_; have B4 := n8_; clear n0_ n1_ n2_ n3_ n4_ n5_ n6_ n7_ n8_; clear hb hbox hg; have hczg2_0 : w4.cell? ⟨g2, 0, none⟩ = some (.int .i64 n1) := (blk_cell B2.out 0).trans rfl; have hczg2_1 : w4.cell? ⟨g2, 1, none⟩ = some (.slice A1 l1.length c1) := (blk_cell B2.out 1).trans rfl; have hfzg2_0 := blk_frozen B2.out 0; have hfzg2_1 := blk_frozen B2.out 1; have hczg3_0 : w4.cell? ⟨g3, 0, none⟩ = some (.int .i64 n2) := (blk_cell B3.out 0).trans rfl; have hczg3_1 : w4.cell? ⟨g3, 1, none⟩ = some (.slice A2 l2.length c2) := (blk_cell B3.out 1).trans rfl; have hfzg3_0 := blk_frozen B3.out 0; have hfzg3_1 := blk_frozen B3.out 1) | ((with_reducible refine gate_dst (N := 12) rfl ?_); refine Kd.N_lit k34 _ 34 ?hg (N' := 12) ?hd (xs := ([(⟨n1, l1⟩ : S34), (⟨n2, l2⟩ : S34)] : List (S34))) (inner := [.int .i64 n1, .slice A1 l1.length c1, .int .i64 n2, .slice A2 l2.length c2]) (ok := fun _ => True) (okp := fun _ => True) ?hr ?hp (fun _ hk => hk) trivial (Below.refl _ _) (Nat.le_refl _) (by simp) ?_; (case hd => rfl); (case hg => rfl); (case hr => first | (go_simp; done) | (go_simp; rfl)); (case hp => exact (Reps.c2 (show Kd.FK k34 _ _ (⟨n1, l1⟩ : S34) [.int .i64 n1, .slice A1 l1.length c1] from (mkF_ _ _ (⟨n1, l1⟩ : S34) HC1.out (Kd.V_F (Kd.V_mono (ok' := fun _ => True) (Kd.V_mk (base := w.heap.size) (e := 2) HC1.out (Kd.F_below (Kd.C_F (Kd.heap_int .i64) HR1.out) (by repeat (first | (with_reducible first | exact HB.out | apply below_alloc | apply pw_below_drewN | apply below_drew1) | exact HB.out)))) (fun _ _ => trivial))))) (Reps.c2 (show Kd.FK k34 _ _ (⟨n2, l2⟩ : S34) [.int .i64 n2, .slice A2 l2.length c2] from (mkF_ _ _ (⟨n2, l2⟩ : S34) HC2.out (Kd.V_F (Kd.V_mono (ok' := fun _ => True) (Kd.V_mk (base := w.heap.size) (e := 2) HC2.out (Kd.F_below (Kd.C_F (Kd.heap_int .i64) HR2.out) (by repeat (first | (with_reducible first | exact HB.out | apply below_alloc | apply pw_below_drewN | apply below_drew1) | exact HB.out)))) (fun _ _ => trivial))))) (Reps.none _ _)))); intro v12 w5 ho hb hg_ hnew_; clear hg_ hnew_; have n0_ := Aside0.mk (ho); have n1_ := Aside0.mk (blk_below (g := g2) (o := .cells #[.int .i64 n1, .slice A1 l1.length c1] 34 (0, 0)) (by (with_reducible repeat (first | refine blk_drewN ?_ _ | refine blk_drew ?_ | refine blk_alloc ?_ _)); exact B2.out) hb); have n2_ := Aside0.mk (blk_below (g := g3) (o := .cells #[.int .i64 n2, .slice A2 l2.length c2] 34 (0, 0)) (by (with_reducible repeat (first | refine blk_drewN ?_ _ | refine blk_drew ?_ | refine blk_alloc ?_ _)); exact B3.out) hb); have n3_ := Aside0.mk (blk_below (g := g4) (o := .cells #[.int .i64 0, .slice none 0 0] 34 (0, 0)) (by (with_reducible repeat (first | refine blk_drewN ?_ _ | refine blk_drew ?_ | refine blk_alloc ?_ _)); exact B4.out) hb); have n4_ := Aside0.mk (below_step (by repeat (first | (with_reducible first | exact HB.out | apply below_alloc | apply pw_below_drewN | apply below_drew1) | exact HB.out)) hb); clear B2; clear B3; clear B4; clear HB; have HN := n0_; have B2 := n1_; have B3 := n2_; have B4 := n3_; have HB := n4_; clear n0_ n1_ n2_ n3_ n4_; clear hb ho; obtain ⟨A12, c12, e12⟩ := Kd.N_slice HN.out; subst e12) | ((with_reducible refine gate_callee (f := 55) rfl ?_); refine goesL_ (some 13) rfl rfl Try.func55 (by kernel_rfl) rfl #[.slice A12 ([(⟨n1, l1⟩ : S34), (⟨n2, l2⟩ : S34)] : List (S34)).length c12] rfl (by (try simp only [List.map_toArray, List.map_cons, List.map_nil]); first | done | rfl) ?_; (with_reducible refine (impl_areGraphs.calls k _ _ _ _ _ ?side1 ?side2 A9.out).mono ?_); (case side1 => exact (Kd.N_reads' HN.out).2.2); (case side2 => exact (Kd.N_reads' HN.out).2.1); rintro e w6 ⟨rfl, hb⟩; refine ⟨_, rfl, ?_⟩; have n0_ := Aside0.mk (blk_below (g := g2) (o := .cells #[.int .i64 n1, .slice A1 l1.length c1] 34 (0, 0)) (by (with_reducible repeat (first | refine blk_drewN ?_ _ | refine blk_drew ?_ | refine blk_alloc ?_ _)); exact B2.out) hb); have n1_ := Aside0.mk (blk_below (g := g3) (o := .cells #[.int .i64 n2, .slice A2 l2.length c2] 34 (0, 0)) (by (with_reducible repeat (first | refine blk_drewN ?_ _ | refine blk_drew ?_ | refine blk_alloc ?_ _)); exact B3.out) hb); have n2_ := Aside0.mk (blk_below (g := g4) (o := .cells #[.int .i64 0, .slice none 0 0] 34 (0, 0)) (by (with_reducible repeat (first | refine blk_drewN ?_ _ | refine blk_drew ?_ | refine blk_alloc ?_ _)); exact B4.out) hb); have n3_ := Aside0.mk (below_step (by repeat (first | (with_reducible first | exact HB.out | apply below_alloc | apply pw_below_drewN | apply below_drew1) | exact HB.out)) hb); clear B2; clear B3; clear B4; clear HB; have B2 := n0_; have B3 := n1_; have B4 := n2_; have HB := n3_; clear n0_ n1_ n2_ n3_; clear hb HN; have hczg2_0 : w6.cell? ⟨g2, 0, none⟩ = some (.int .i64 n1) := (blk_cell B2.out 0).trans rfl; have hczg2_1 : w6.cell? ⟨g2, 1, none⟩ = some (.slice A1 l1.length c1) := (blk_cell B2.out 1).trans rfl; have hfzg2_0 := blk_frozen B2.out 0; have hfzg2_1 := blk_frozen B2.out 1; have hczg3_0 : w6.cell? ⟨g3, 0, none⟩ = some (.int .i64 n2) := (blk_cell B3.out 0).trans rfl; have hczg3_1 : w6.cell? ⟨g3, 1, none⟩ = some (.slice A2 l2.length c2) := (blk_cell B3.out 1).trans rfl; have hfzg3_0 := blk_frozen B3.out 0; have hfzg3_1 := blk_frozen B3.out 1; have hczg4_0 : w6.cell? ⟨g4, 0, none⟩ = some (.int .i64 0) := (blk_cell B4.out 0).trans rfl; have hczg4_1 : w6.cell? ⟨g4, 1, none⟩ = some (.slice none 0 0) := (blk_cell B4.out 1).trans rfl; have hfzg4_0 := blk_frozen B4.out 0; have hfzg4_1 := blk_frozen B4.out 1; have hn23 := N23.out; have hn32 := N32.out; have hn24 := N24.out; have hn42 := N42.out; have hn34 := N34.out; have hn43 := N43.out))
    refine bodyPost_ret (results_ct rfl _ _ g4 34 #[.int .i64 0, .slice none 0 0] (0, 0) _ rfl (by refine blk_put (cs := #[.int .i64 0, .slice none 0 0]) ?_ 1 _ rfl; refine blk_put (cs := #[.int .i64 0, .slice none 0 0]) ?_ 0 _ rfl; exact B4.out) Try.underlying34 rfl (by kernel_rfl)) rfl ?_
    exact ⟨_, rfl, Kd.R_nil _ _ _ _ _, below_set (below_set HB.out G4.out) G4.out⟩

-- NOT PRINTED: function 6 (laws_FnExactPutBeside)

end Go.Proofs.Ythnjnhdalpcfpaa.XFnExactPutBeside
