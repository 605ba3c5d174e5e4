-- Written by this project's own program (mprint.py) by means of the kit's printer: with contracts of its own for the functions that the printer leaves out.
import Derived.Test.YtockngphfpedkaaDoorXFnExactOddGraphx0
import Derived.Test.YtockngphfpedkaaDoorXFnExactOddGraphx2
import Derived.Test.YtockngphfpedkaaDoorXFnExactOddGraphx3
namespace Go.Proofs.YtockngphfpedkaaDoor.XFnExactOddGraph
open Go.RowKit Go.Proofs.YtockngphfpedkaaDoorW.PrintWords Go.Proofs.YtockngphfpedkaaDoorW.PrintLast Go.Proofs.YtockngphfpedkaaDoorW.PrintMore
attribute [local go_sem] max2_int min2_int max_two min_two max_three min_three max_four min_four   -- for this text's walks alone
set_option linter.unusedVariables false
set_option linter.unusedSimpArgs false

/-! ### the count of what was drawn never falls -/
theorem ask_drawn {α : Type} : ∀ (x : Ask α) (w : World), w.drawn ≤ (w.ask x).2.drawn
  | .done a, w => by simp [World.ask]
  | .ask what range k, w => by
    unfold World.ask
    dsimp only
    split
    · exact ask_drawn _ w
    · refine Nat.le_trans ?_ (ask_drawn _ _)
      exact Nat.le_succ _
theorem sys_drawn (w : World) (c : Sys) : w.drawn ≤ (w.sys c).2.drawn := by
  have h := ask_drawn (Kernel.perform c w.os) w
  unfold World.sys
  split
  · exact Nat.le_refl _
  · rename_i r os w1 _ e
    rw [e] at h
    exact h
theorem viewStore_drawn {p : Program} {w w1 : World} {at_ : Addr} {u : TypeId} {k : Addr} {v : Value} {b : Bool} {l : List Addr} (h : w.viewStore p at_ u k v b = .ok (w1, l)) : w1.drawn = w.drawn := by
  unfold World.viewStore at h
  simp only [bind, Except.bind, pure, Except.pure] at h
  repeat' (split at h)
  all_goals first | (cases h; done) | (cases h; rfl)
theorem farStore_drawn {p : Program} {w w1 : World} {a : Addr} {v : Value} {b : Bool} {l : List Addr} (h : w.farStore p a v b = .ok (w1, l)) : w1.drawn = w.drawn := by
  unfold World.farStore at h
  split at h
  · split at h
    · rename_i r e
      cases h
      exact viewStore_drawn e
    · cases h
  · cases h
theorem run_drawn {α : Type} (p : Program) : ∀ (m : Sem α) (w : World) (a : α) (w' : World), m.run p w = .ok a w' → w.drawn ≤ w'.drawn
  | .pure _, w, a, w', h => by simp only [Sem.run] at h; cases h; exact Nat.le_refl _
  | .load m ad k, w, a, w', h => by
    simp only [Sem.run] at h
    split at h
    · exact run_drawn p _ _ _ _ h
    · split at h
      · exact run_drawn p _ _ _ _ h
      · cases h
  | .store m ad v k, w, a, w', h => by
    cases v <;> simp only [Sem.run] at h
    all_goals first
      | (cases h; done)
      | (split at h
         · split at h
           · cases h
           · have h2 := run_drawn p k _ a w' h
             rw [World.drawn_setCell] at h2
             exact h2
         · split at h
           · rename_i e
             have h2 := run_drawn p k _ a w' h
             rw [farStore_drawn e] at h2
             exact h2
           · cases h)
  | .new o k, w, a, w', h => by
    simp only [Sem.run] at h
    exact run_drawn p _ { w with heap := w.heap.push o } a w' h
  | .shape r k, w, a, w', h => by simp only [Sem.run] at h; exact run_drawn p _ _ _ _ h
  | .freeze ad n k, w, a, w', h => by
    simp only [Sem.run] at h
    have h2 := run_drawn p _ _ _ _ h
    have e : (w.freeze ad n).drawn = w.drawn := by
      unfold World.freeze
      repeat' split
      all_goals rfl
    omega
  | .frozen ad k, w, a, w', h => by simp only [Sem.run] at h; exact run_drawn p _ _ _ _ h
  | .getObj r k, w, a, w', h => by
    simp only [Sem.run] at h
    split at h
    · cases h
    · exact run_drawn p _ _ _ _ h
    · cases h
  | .setObj r o k, w, a, w', h => by
    simp only [Sem.run] at h
    split at h
    · cases h
    · exact run_drawn p _ { w with heap := w.heap.setIfInBounds r o } a w' h
    · cases h
  | .choose q k, w, a, w', h => by
    simp only [Sem.run] at h
    split at h
    · exact run_drawn p _ _ _ _ h
    · have h2 := run_drawn p _ _ _ _ h
      exact Nat.le_trans (Nat.le_succ _) h2
  | .sys c k, w, a, w', h => by
    simp only [Sem.run] at h
    exact Nat.le_trans (sys_drawn w c) (run_drawn p _ _ _ _ h)
  | .program k, w, a, w', h => by simp only [Sem.run] at h; exact run_drawn p _ _ _ _ h
  | .mark m k, w, a, w', h => by simp only [Sem.run] at h; exact run_drawn p _ _ _ _ h
  | .halt x, w, a, w', h => by simp only [Sem.run] at h; cases h
/-! ### impl.list once more: it lays blocks, and draws never fewer -/
theorem lit0_d {P : Program} {ops : Array Oper} {rest : List Oper} {o : Oper} {a : Act} {Q : Exit → Act → World → Prop} {w0 W : World} (base : Nat) (hgd : o.guard = none) {N : Tmp} (_hd : o.dst = some N)
    (hrun : (execOp a.eval o).run P W = .ok (.value (.slice (some ⟨W.heap.size, 0, none⟩) 0 0)) (W.alloc (.cells #[] 2))) (HB : Below base w0 W) (hbase : base ≤ W.heap.size)
    (h : ∀ v1 w1, (Kd.int .i64).R 2 w1 base (fun _ => True) v1 [] → Below base w0 w1 → W.drawn ≤ w1.drawn → wpList P ops Q rest (a.put o.dst v1) w1) : wpList P ops Q (o :: rest) a W :=
  Kd.event_run hgd hrun (h _ _ (Kd.R_of_own (h1 := fun _ => rfl) (World.ownsRow_made W #[] 0 hbase (Nat.zero_le _) rfl) (fun _ _ => trivial)) (HB.alloc hbase _) (Nat.le_refl _))
theorem append_d {P : Program} {ops : Array Oper} {rest : List Oper} {o : Oper} {a : Act} {Q : Exit → Act → World → Prop} {w0 W : World} (base : Nat) (hgd : o.guard = none) (s x : Operand) (t : TypeId)
    (ho : o.op = .call { callee := .builtin .append, args := #[s, x], argTypes := #[t, t] })
    (ht : P.underlying t = some (.slice 2)) (hinfo : (P.info? 2).map (fun i => (i.zero, i.size, i.bytes)) = some (some (.int .i64 0), 1, 8))
    (v : Value) (xs : List Int) (p : Int) (hs : a.eval s = v) (hx : a.eval x = .slice (some ⟨W.heap.size, 0, none⟩) 1 1)
    (HO : (Kd.int .i64).R 2 W base (fun _ => True) v xs) (HB : Below base w0 W) (hbase : base ≤ W.heap.size) (hl : (xs.length + 1) * 8 ≤ 140737488355328)
    (h : ∀ v1 w1, (Kd.int .i64).R 2 w1 base (fun _ => True) v1 (xs ++ [p]) → Below base w0 w1 → W.drawn ≤ w1.drawn → wpList P ops Q rest (a.put o.dst v1) w1) : wpList P ops Q (o :: rest) a (W.alloc (.cells #[.int .i64 p] 2)) := by
  obtain ⟨i0, hi, hzz⟩ := Option.map_eq_some_iff.1 hinfo
  simp only [Prod.mk.injEq] at hzz
  obtain ⟨hz0, hz1, hz2⟩ := hzz
  have hown := Kd.own_of_R (enc := Value.int .i64) (h1 := fun _ => rfl) HO
  obtain ⟨v1, w1, hr, h2, h3, h4⟩ := run_append_own (P := P) (W.alloc (.cells #[.int .i64 p] 2)) base t o.type 2 i0 (.int .i64 0) 1 8 ht hi hz0 hz1 hz2 rfl (by decide) v xs.length (encs (Value.int .i64) xs) (hown.alloc _) ⟨W.heap.size, 0, none⟩ 1 1 [.int .i64 p] rfl
    (by simpa using World.news_of_block (cs := #[.int .i64 p]) (t := 2) (fr := (0, 0)) (heap_alloc_new W (.cells #[.int .i64 p] 2))) (by intro u hu; rw [List.mem_singleton.1 hu]; rfl) (by simp only [maxLen]; omega) hl (by simp; omega)
  refine Kd.event_run (w1 := w1) (v := v1) hgd ?_ (h v1 w1 ?_ ?_ ?_)
  · unfold execOp
    simp only [ho, resolve, invoke, builtin, Sem.run_bind, Sem.run_pure, Result.andThen_ok, List.map_toArray, List.map_cons, List.map_nil, hs, hx, hr]
  · exact Kd.R_of_own (h1 := fun _ => rfl) (by have e : encs (Value.int .i64) xs ++ [.int .i64 p] = encs (Value.int .i64) (xs ++ [p]) := by simp [encs]
                                               rw [← e, List.length_append]; exact h2) (fun _ _ => trivial)
  · exact (HB.alloc hbase _).grown h3 (by simp; omega) (own_base hown)
  · exact run_drawn P _ (W.alloc (.cells #[.int .i64 p] 2)) v1 w1 hr
set_option maxHeartbeats 8000000 in
set_option maxRecDepth 100000 in
theorem impl_list.callsD (k : Nat) (a0 : Int) (r : List Int) (w : World) (ht : Tab w) (h : impl_list.f k a0 = some r) :
    Calls Tryd.prog 74 #[.int .i64 a0] w fun e w' => ∃ v0_ : Value, e = .returned (v0_) ∧ Kd.R (Kd.int .i64) 2 w' w.heap.size (fun _ => True) v0_ r ∧ Below w.heap.size w w' ∧ w.drawn ≤ w'.drawn := by
  have HB := Aside0.mk (Below.refl w.heap.size w)
  have HT := Aside0.mk ht
  clear ht
  have H' := Aside0.mk (show (impl_list.l0 k a0 (([] : List Int))) = some r from h)
  clear h
  go_enter Tryd.func74, Tryd.ntmps74
  go_wp2_with (first | ((with_reducible refine gate_dst (N := 4) rfl ?_); refine lit0_d (w0 := w) w.heap.size ?hg (N := 4) ?hd ?hr HB.out (Nat.le_refl _) ?_; (case hd => rfl); (case hg => rfl); (case hr => first | (go_simp; done) | (go_simp; rfl)); intro v184 w2 ho3 hb hdr; clear HB; have HO := Aside0.mk ho3; have HB := Aside0.mk hb; have HD := Aside0.mk hdr; clear ho3 hb hdr))
  go_loopg [0, 3] k (fun kq v0 v3 w' => ∃ (x0_1 : Int) (x3_1 : List Int), v0 = .int .i64 x0_1 ∧ Aside0 (impl_list.l0 kq x0_1 x3_1 = some r) ∧ Aside0 (kq ≤ k) ∧ Aside0 (Kd.R (Kd.int .i64) 2 w' w.heap.size (fun _ => True) v3 x3_1) ∧ Aside0 (Below w.heap.size w w') ∧ Aside0 (w.drawn ≤ w'.drawn))
  case atStart => exact ⟨a0, [], rfl, H', ⟨Nat.le_refl _⟩, HO, HB, HD⟩
  case round =>
    clear H' HO HB HD
    obtain ⟨x0_1, x3_1, rfl, HA, HK1, HO_3, HB, HD⟩ := hrel
    cases gk with
    | zero => exact absurd HA.out (by simp [impl_list.l0])
    | succ k1 =>
      have H := HA.out
      clear HA
      simp only [impl_list.l0] at H
      by_cases c4 : x0_1 = 0
      · rw [if_pos c4] at H
        have c4b0 : (x0_1 == 0) = true := beq_iff_eq.mpr c4
        have c4b1 : (x0_1 != 0) = false := bne_eq_false_iff_eq.mpr c4
        clear c4
        obtain rfl := Option.some.inj H
        go_wp2
        go_ret
        exact ⟨_, rfl, HO_3.out, HB.out, HD.out⟩
      · rw [if_neg c4] at H
        have c4b0 : (x0_1 == 0) = false := beq_eq_false_iff_ne.mpr c4
        have c4b1 : (x0_1 != 0) = true := bne_iff_ne.mpr c4
        replace H := Option.bind_eq_some_iff.mp H
        obtain ⟨t186, A50, H⟩ := H
        replace H : (if x3_1.length < 17592186044416 then (impl_list.l0 k1 (Go.bits .and .i64 x0_1 (wrap64 (x0_1 - 1))) (x3_1 ++ [t186])) else (none)) = some r := H
        have A5 := Aside0.mk A50
        clear A50
        by_cases c6 : x3_1.length < 17592186044416
        · rw [if_pos c6] at H
          have LMc6 := Aside0.mk c6
          clear c6
          have H' := Aside0.mk H
          clear H
          go_wp2_with (first | ((with_reducible refine gate_callee (f := 98) rfl ?_); refine goesL_ (some 14) rfl rfl Tryd.func98 (by kernel_rfl) rfl #[.int .u64 (IntKind.u64.wrap (x0_1))] rfl (by (try simp only [List.map_toArray, List.map_cons, List.map_nil]); first | done | rfl) ?_; (with_reducible refine (bits_TrailingZeros64.calls (IntKind.u64.wrap (x0_1)) t186 _ ?side1 A5.out).mono ?_); (case side1 => exact Tab.below HT.out HB.out); rintro e w6 ⟨rfl, hn⟩; have hb := hn.below; have hdr : wr.drawn ≤ w6.drawn := (by obtain ⟨nd, e_⟩ := hn.out; rw [e_]; exact Nat.le_add_right _ _); clear hn; refine ⟨_, rfl, ?_⟩; have n0_ := Aside0.mk (Kd.R_below HO_3.out hb); have n1_ := Aside0.mk (below_step HB.out hb); have n2_ := Aside0.mk (Nat.le_trans HD.out hdr); clear HO_3 HB HD hb hdr; have HO_3 := n0_; have HB := n1_; have HD := n2_; clear n0_ n1_ n2_) | ((with_reducible refine gate_builtin (b := .append) (xs := #[.tmp 11, .tmp 15]) rfl ?_); at_builtin; refine append_d (w0 := w) (W := w6) w.heap.size rfl (.tmp 11) (.tmp 15) 24 rfl Tryd.underlying24 info2 u3 x3_1 t186 rfl rfl HO_3.out HB.out (below_size HB.out) (by have := LMc6.out; omega) ?_; intro v188 w7 ho hb hdr; have n0_ := Aside0.mk ho; have n1_ := Aside0.mk hb; have n2_ := Aside0.mk (Nat.le_trans HD.out hdr); clear HO_3 HB HD ho hb hdr; have HO_3 := n0_; have HB := n1_; have HD := n2_; clear n0_ n1_ n2_))
          go_roundg k1
          case measure => have := HK1.out; omega
          case rel => exact ⟨(Go.bits .and .i64 x0_1 (wrap64 (x0_1 - 1))), (x3_1 ++ [t186]), (by first | rfl | (simp; done) | (simp [*]; done)), H', ⟨by have := HK1.out; omega⟩, HO_3, HB, HD⟩
        · rw [if_neg c6] at H
          exact absurd H (by simp)
/-! ### impl.made: by hand (it calls what it is handed) -/
def made_.l1 (is : Int → Int → Option Bool) (n a : Int) : Nat → Int → List Int → Option (List Int)
  | 0, _, _ => none
  | k + 1, b, rows => if b < n then ((is a b).bind fun t => if t = true then ((impl_Graph_put.f n rows a b).bind fun r => made_.l1 is n a k (wrap64 (b + 1)) r) else made_.l1 is n a k (wrap64 (b + 1)) rows) else some rows
def made_.l0 (is : Int → Int → Option Bool) (n : Int) : Nat → Int → List Int → Option (List Int)
  | 0, _, _ => none
  | k + 1, a, rows => if a < n then ((made_.l1 is n a k (wrap64 (a + 1)) rows).bind fun r => made_.l0 is n k (wrap64 (a + 1)) r) else some rows
def made_.f (is : Int → Int → Option Bool) (k : Nat) (n : Int) : Option (Int × List Int) := (impl_empty.f n).bind fun e => (made_.l0 is e.1 k 0 e.2).bind fun r => some (e.1, r)
theorem made_.mono1 (is : Int → Int → Option Bool) (n a : Int) : ∀ k, ∀ y0 y1, LeO (made_.l1 is n a k y0 y1) (made_.l1 is n a (k + 1) y0 y1)
  | 0 => fun _ _ r h => by simp [made_.l1] at h
  | k + 1 => by
    have ih0 := made_.mono1 is n a k
    intro y0 y1
    rw [made_.l1.eq_2, made_.l1.eq_2]
    repeat' first
      | (with_reducible exact ih0 _ _)
      | (with_reducible exact LeO.refl _)
      | (with_reducible refine LeO.ite ?_ ?_)
      | (with_reducible refine LeO.bind ?_ (fun _ => ?_))
      | exact ih0 _ _
      | refine LeO.ite ?_ ?_
      | refine LeO.bind ?_ (fun _ => ?_)
theorem made_.mono0 (is : Int → Int → Option Bool) (n : Int) : ∀ k, ∀ y0 y1, LeO (made_.l0 is n k y0 y1) (made_.l0 is n (k + 1) y0 y1)
  | 0 => fun _ _ r h => by simp [made_.l0] at h
  | k + 1 => by
    have ih0 := made_.mono0 is n k
    intro y0 y1
    rw [made_.l0.eq_2, made_.l0.eq_2]
    repeat' first
      | (with_reducible exact ih0 _ _)
      | (with_reducible exact made_.mono1 is n _ _ _ _)
      | (with_reducible exact LeO.refl _)
      | (with_reducible refine LeO.ite ?_ ?_)
      | (with_reducible refine LeO.bind ?_ (fun _ => ?_))
      | exact ih0 _ _
      | exact made_.mono1 is n _ _ _ _
      | refine LeO.ite ?_ ?_
      | refine LeO.bind ?_ (fun _ => ?_)
theorem made_.mono (is : Int → Int → Option Bool) : ∀ a0 k, LeO (made_.f is k a0) (made_.f is (k + 1) a0) := by
  intro a0 k
  unfold made_.f
  repeat' first
      | (with_reducible exact made_.mono0 is _ _ _ _)
      | (with_reducible exact LeO.refl _)
      | (with_reducible refine LeO.bind ?_ (fun _ => ?_))
      | exact made_.mono0 is _ _ _ _
      | refine LeO.bind ?_ (fun _ => ?_)
set_option maxHeartbeats 8000000 in
set_option maxRecDepth 100000 in
theorem made_.calls (F1 : FuncId) (fn1 : Func) (hf1 : Tryd.prog.funcs[F1]? = some fn1) (hn1 : (fn1.name == "runtime.NumGoroutine") = false) (hb1 : fn1.body.isSome = true) (is : Int → Int → Option Bool) (k : Nat) (n : Int) (r1 : Int) (r2 : List Int) (b0_ : Value) (w : World) (hcall : ∀ (a b : Int) (r : Bool) (W : World), Below w.heap.size w W → is a b = some r → Calls Tryd.prog F1 #[.int .i64 a, .int .i64 b, b0_] W fun e w' => e = .returned (.bool r) ∧ Below W.heap.size W w') (h : made_.f is k n = some (r1, r2)) :
    Calls Tryd.prog 75 #[.int .i64 n, .func (.func F1) #[] #[b0_]] w fun e w' => ∃ v1_ : Value, e = .returned (.agg #[.int .i64 r1, v1_]) ∧ Kd.R (Kd.int .i64) 2 w' w.heap.size (fun _ => True) v1_ r2 ∧ Below w.heap.size w w' := by
  have hu34 := Tryd.underlying26
  have HB := Aside0.mk (Below.refl w.heap.size w)
  have HC := Aside0.mk hcall
  clear hcall
  unfold made_.f at h
  obtain ⟨⟨t1, t2⟩, A1, h⟩ := Option.bind_eq_some_iff.mp h
  obtain ⟨R, A2, h⟩ := Option.bind_eq_some_iff.mp h
  simp only [Option.some.injEq, Prod.mk.injEq] at h
  obtain ⟨rfl, rfl⟩ := h
  have tn : t1 = n := by
    unfold impl_empty.f at A1
    repeat' (split at A1)
    all_goals first | (cases A1; done) | (simp only [Option.some.injEq, Prod.mk.injEq] at A1; exact A1.1.symm)
  subst tn
  have A3 := Aside0.mk A1
  have H' := Aside0.mk (show made_.l0 is t1 k 0 t2 = some R from A2)
  clear A1 A2
  go_enter Tryd.func75, Tryd.ntmps75
  go_wp2_with (first
    | ((with_reducible refine gate_dst (N := 4) rfl ?_); refine box_event ?hg (N := 4) ?hd (cs := #[.int .i64 0, .slice none 0 0]) (t := 26) ?hr ?_; (case hd => rfl); (case hg => rfl); (case hr => first | (go_simp; done) | (go_simp; rfl)); intro g4 hg w4 hbox hb; have n0_ := Aside0.mk (below_step HB.out hb); have B4 := Aside0.mk hbox; have G4 := Aside0.mk (by rw [hg]; exact below_size HB.out : w.heap.size ≤ g4); clear HB; have HB := n0_; clear n0_ hb hbox hg)
    | ((with_reducible refine gate_callee (f := 56) rfl ?_); refine goesL_ (some 9) rfl rfl Tryd.func56 (by kernel_rfl) rfl #[.int .i64 t1] rfl (by (try simp only [List.map_toArray, List.map_cons, List.map_nil]); first | done | rfl) ?_; (with_reducible refine (impl_empty.calls t1 t1 t2 _ A3.out).mono ?_); rintro e w5 ⟨v5, rfl, ho0, hb⟩; refine ⟨_, rfl, ?_⟩; have n0_ := Aside0.mk (Kd.R_lower ho0 (below_size HB.out)); have n1_ := Aside0.mk (blk_below B4.out hb); have n2_ := Aside0.mk (below_step HB.out hb); clear HB B4 hb ho0; have HX := n0_; have B4 := n1_; have HB := n2_; clear n0_ n1_ n2_)
    | ((with_reducible refine gate_dst (N := 5) rfl ?_); refine box_event ?hg (N := 5) ?hd (cs := #[.int .i64 0, .slice none 0 0]) (t := 26) ?hr ?_; (case hd => rfl); (case hg => rfl); (case hr => first | (go_simp; done) | (go_simp; rfl)); intro g5 hg w6 hbox hb; have n0_ := Aside0.mk (below_step HB.out hb); have n1_ := Aside0.mk (blk_below B4.out hb); have n2_ := Aside0.mk (Kd.R_below HX.out hb); have B5 := Aside0.mk hbox; have G5 := Aside0.mk (by rw [hg]; exact below_size HB.out : w.heap.size ≤ g5); have NB := Aside0.mk (by rw [hg]; exact Nat.ne_of_lt (blk_lt B4.out) : g4 ≠ g5); have NC := Aside0.mk (by rw [hg]; exact Nat.ne_of_gt (blk_lt B4.out) : g5 ≠ g4); clear HB B4 HX; have HB := n0_; have B4 := n1_; have HX := n2_; clear n0_ n1_ n2_ hb hbox hg; have hcz5_0 : w6.cell? ⟨g5, 0, none⟩ = some (.int .i64 0) := (blk_cell B5.out 0).trans rfl; have hcz5_1 : w6.cell? ⟨g5, 1, none⟩ = some (.slice none 0 0) := (blk_cell B5.out 1).trans rfl; have hfz5_0 := blk_frozen B5.out 0; have hfz5_1 := blk_frozen B5.out 1; obtain ⟨A5, c5, e5⟩ := Kd.R_slice HX.out; subst e5))
  go_loopg [11] k (fun kq v11 w' => ∃ (x11_1 : Int) (rows : List Int) (A : Option Addr) (c : Nat), v11 = .int .i64 x11_1 ∧ Aside0 (made_.l0 is t1 kq x11_1 rows = some R) ∧ Aside0 (kq ≤ k) ∧ Aside0 (Kd.R (Kd.int .i64) 2 w' w.heap.size (fun _ => True) (.slice A rows.length c) rows) ∧ Aside0 (w'.heap[g4]? = some (.cells #[.int .i64 0, (.slice none 0 0)] 26 (0, 0))) ∧ Aside0 (w'.heap[g5]? = some (.cells #[.int .i64 t1, .slice A rows.length c] 26 (0, 0))) ∧ Aside0 (Below w.heap.size w w'))
  case atStart => exact ⟨0, t2, A5, c5, rfl, H', ⟨Nat.le_refl _⟩, ⟨Kd.R_mono (Kd.R_far (p := ⟨g5, 1, none⟩) (Kd.R_far (p := ⟨g5, 0, none⟩) (Kd.R_types HX.out B5.out (by decide)) (fun _ hk => hk.2) (.int .i64 t1)) (fun _ hk => hk.2) (.slice A5 t2.length c5)) (fun _ _ => trivial)⟩, ⟨by refine blk_far ?_ NB.out _; refine blk_far ?_ NB.out _; exact B4.out⟩, ⟨by refine blk_put (cs := #[.int .i64 t1, .slice none 0 0]) ?_ 1 _ rfl; refine blk_put (cs := #[.int .i64 0, .slice none 0 0]) ?_ 0 _ rfl; exact B5.out⟩, ⟨below_set (below_set HB.out G5.out) G5.out⟩⟩
  case round =>
    clear H' hcz5_0 hcz5_1 hfz5_0 hfz5_1 B4 B5 HX HB
    obtain ⟨x11_1, rows, A, c, rfl, HA, HK1, HX, B4, B5, HB⟩ := hrel
    cases gk with
    | zero => exact absurd HA.out (by simp [made_.l0])
    | succ k1 =>
      have H := HA.out
      clear HA
      rw [made_.l0.eq_2] at H
      by_cases c10 : x11_1 < t1
      · rw [if_pos c10] at H
        have c10b0 : decide (x11_1 < t1) = true := decide_eq_true c10
        clear c10
        obtain ⟨R1, A10, H⟩ := Option.bind_eq_some_iff.mp H
        have H' := Aside0.mk H
        have I' := Aside0.mk A10
        clear H A10
        go_wp2
        go_loopg [7] k1 (fun kq v7 w' => ∃ (x7_1 : Int) (rows1 : List Int) (A1 : Option Addr) (c1 : Nat), v7 = .int .i64 x7_1 ∧ Aside0 (made_.l1 is t1 x11_1 kq x7_1 rows1 = some R1) ∧ Aside0 (kq ≤ k1) ∧ Aside0 (Kd.R (Kd.int .i64) 2 w' w.heap.size (fun _ => True) (.slice A1 rows1.length c1) rows1) ∧ Aside0 (w'.heap[g4]? = some (.cells #[.int .i64 0, (.slice none 0 0)] 26 (0, 0))) ∧ Aside0 (w'.heap[g5]? = some (.cells #[.int .i64 t1, .slice A1 rows1.length c1] 26 (0, 0))) ∧ Aside0 (Below w.heap.size w w'))
        case atStart => exact ⟨_, rows, A, c, (by first | rfl | (simp; done)), I', ⟨Nat.le_refl _⟩, HX, B4, B5, HB⟩
        case round =>
          clear I' HX B4 B5 HB
          obtain ⟨x7_1, rows1, A1, c1, rfl, HA, HK2, HX, B4, B5, HB⟩ := hrel
          cases gk with
          | zero => exact absurd HA.out (by simp [made_.l1])
          | succ k2 =>
            have H := HA.out
            clear HA
            rw [made_.l1.eq_2] at H
            by_cases c11 : x7_1 < t1
            · rw [if_pos c11] at H
              have c11b0 : decide (x7_1 < t1) = true := decide_eq_true c11
              clear c11
              obtain ⟨t, A11, H⟩ := Option.bind_eq_some_iff.mp H
              have A12 := Aside0.mk A11
              clear A11
              have HD := Aside0.mk (HC.out x11_1 x7_1 t wr HB.out A12.out)
              by_cases ct : t = true
              · subst ct
                rw [if_pos rfl] at H
                obtain ⟨R2, A13, H⟩ := Option.bind_eq_some_iff.mp H
                have I2 := Aside0.mk H
                have A14 := Aside0.mk A13
                clear H A13
                go_wp2_with fail
                rw [enters_ hf1 hn1 hb1]
                refine HD.out.mono ?_
                rintro e w5 ⟨rfl, hb⟩
                have n0_ := Aside0.mk (Kd.R_below HX.out hb)
                have n1_ := Aside0.mk (blk_below B4.out hb)
                have n2_ := Aside0.mk (blk_below B5.out hb)
                have n3_ := Aside0.mk (below_step HB.out hb)
                clear HX B4 B5 HB hb HD
                have HX := n0_
                have B4 := n1_
                have B5 := n2_
                have HB := n3_
                clear n0_ n1_ n2_ n3_
                have hcz5_0 : w5.cell? ⟨g5, 0, none⟩ = some (.int .i64 t1) := (blk_cell B5.out 0).trans rfl
                have hcz5_1 : w5.cell? ⟨g5, 1, none⟩ = some (.slice A1 rows1.length c1) := (blk_cell B5.out 1).trans rfl
                go_wp2_with (first | ((with_reducible refine gate_callee (f := 58) rfl ?_); refine goesL_ (some 28) rfl rfl Tryd.func58 (by kernel_rfl) rfl #[.agg #[.int .i64 t1, .slice A1 rows1.length c1], .int .i64 x11_1, .int .i64 x7_1] rfl (by (try simp only [List.map_toArray, List.map_cons, List.map_nil]); first | done | rfl) ?_; (with_reducible refine (impl_Graph_put.calls t1 (fun k_ => some k_ = (.slice A1 rows1.length c1 : Value).ownBlock) (.slice A1 rows1.length c1) rows1 x11_1 x7_1 R2 w _ ?side1 ?side2 A14.out).mono ?_); (case side1 => exact HB.out); (case side2 => exact Kd.R_tight rfl HX.out); rintro e w6 ⟨rfl, hy0, hb, hkp⟩; refine ⟨_, rfl, ?_⟩; have n0_ := Aside0.mk (Kd.R_reok (ok := fun _ => True) rfl hy0 (fun _ _ => trivial)); have n1_ := Aside0.mk (blk_kept B4.out hkp (fun hs_ => (Kd.R_ne HX.out B4.out (by decide)) hs_)); have n2_ := Aside0.mk (blk_kept B5.out hkp (fun hs_ => (Kd.R_ne HX.out B5.out (by decide)) hs_)); have n3_ := Aside0.mk hb; clear HX B4 B5 HB hb hkp hy0 hcz5_0 hcz5_1; have HX := n0_; have B4 := n1_; have B5 := n2_; have HB := n3_; clear n0_ n1_ n2_ n3_))
                obtain ⟨Aq, cq, eq_⟩ := Kd.R_slice HX.out
                injection eq_ with eq1 eq2 eq3
                subst eq1 eq3
                go_roundg k2
                case measure => have := HK1.out; have := HK2.out; omega
                case rel => exact ⟨_, R2, _, _, (by first | rfl | (simp; done)), I2, ⟨by have := HK2.out; omega⟩, ⟨by rw [← eq2]; exact HX.out⟩, B4, ⟨by rw [← eq2]; exact B5.out⟩, HB⟩
              · have tf : t = false := Bool.eq_false_iff.mpr ct
                subst tf
                rw [if_neg (by decide)] at H
                have I2 := Aside0.mk H
                clear H ct
                go_wp2_with fail
                rw [enters_ hf1 hn1 hb1]
                refine HD.out.mono ?_
                rintro e w5 ⟨rfl, hb⟩
                have n0_ := Aside0.mk (Kd.R_below HX.out hb)
                have n1_ := Aside0.mk (blk_below B4.out hb)
                have n2_ := Aside0.mk (blk_below B5.out hb)
                have n3_ := Aside0.mk (below_step HB.out hb)
                clear HX B4 B5 HB hb HD
                have HX := n0_
                have B4 := n1_
                have B5 := n2_
                have HB := n3_
                clear n0_ n1_ n2_ n3_
                go_wp2
                go_roundg k2
                case measure => have := HK1.out; have := HK2.out; omega
                case rel => exact ⟨_, rows1, A1, c1, (by first | rfl | (simp; done)), I2, ⟨by have := HK2.out; omega⟩, HX, B4, B5, HB⟩
            · rw [if_neg c11] at H
              have c11b0 : decide (x7_1 < t1) = false := decide_eq_false c11
              clear c11
              obtain rfl := Option.some.inj H
              clear H
              go_wp2
              go_roundg k1
              case measure => have := HK1.out; omega
              case rel => exact ⟨_, rows1, A1, c1, (by first | rfl | (simp; done)), H', ⟨by have := HK1.out; omega⟩, HX, B4, B5, HB⟩
      · rw [if_neg c10] at H
        have c10b0 : decide (x11_1 < t1) = false := decide_eq_false c10
        clear c10
        obtain rfl := Option.some.inj H
        clear H
        have hnb := NB.out
        have hnc := NC.out
        have hcz5_0 : wr.cell? ⟨g5, 0, none⟩ = some (.int .i64 t1) := (blk_cell B5.out 0).trans rfl
        have hcz5_1 : wr.cell? ⟨g5, 1, none⟩ = some (.slice A rows.length c) := (blk_cell B5.out 1).trans rfl
        have hfz5_0 := blk_frozen B5.out 0
        have hfz5_1 := blk_frozen B5.out 1
        have hcz4_0 : wr.cell? ⟨g4, 0, none⟩ = some (.int .i64 0) := (blk_cell B4.out 0).trans rfl
        have hcz4_1 : wr.cell? ⟨g4, 1, none⟩ = some (.slice none 0 0) := (blk_cell B4.out 1).trans rfl
        have hfz4_0 := blk_frozen B4.out 0
        have hfz4_1 := blk_frozen B4.out 1
        go_wp2
        refine bodyPost_ret (results_cell_row rfl _ _ g4 26 #[.int .i64 t1, .slice A rows.length c] (0, 0) _ rfl (by refine blk_put (cs := #[.int .i64 t1, .slice none 0 0]) ?_ 1 _ rfl; refine blk_put (cs := #[.int .i64 0, .slice none 0 0]) ?_ 0 _ rfl; exact B4.out) Tryd.underlying26 rfl (by kernel_rfl)) rfl ?_
        exact ⟨_, rfl, Kd.R_mono (Kd.R_far (p := ⟨g4, 1, none⟩) (Kd.R_far (p := ⟨g4, 0, none⟩) (Kd.R_types HX.out B4.out (by decide)) (fun _ hk => hk.2) (.int .i64 t1)) (fun _ hk => hk.2) (.slice A rows.length c)) (fun _ _ => trivial), below_set (below_set HB.out G4.out) G4.out⟩
/-! ### the order of the sets -/
def laySF__ren : Go.Shelf.Ren := ⟨fun | 6 => 71 | 15 => 96 | 14 => 95 | 28 => 124 | 29 => 125 | 20 => 116 | 21 => 117 | 22 => 118 | 23 => 119 | 24 => 120 | 25 => 121 | 26 => 122 | 27 => 123 | 46 => 144 | 47 => 145 | 48 => 146 | 49 => 147 | 50 => 148 | 57 => 158 | n => n, fun | 22 => 24 | 24 => 2 | 25 => 85 | 3 => 3 | 39 => 107 | 0 => 0 | 53 => 129 | 55 => 90 | 4 => 4 | 46 => 122 | 45 => 121 | 50 => 126 | 5 => 5 | 9 => 9 | 66 => 152 | 70 => 156 | 76 => 165 | 77 => 166 | n => n, fun | n => n⟩
theorem laySF_ : Go.Proofs.SlLaysF.n6 Tryd.prog laySF__ren := {
  mixed := by kernel_rfl
  f6 := ⟨Tryd.f71.name, by decide, Tryd.func71.trans (congrArg some (by kernel_rfl))⟩
  f14 := ⟨Tryd.f95.name, by decide, Tryd.func95.trans (congrArg some (by kernel_rfl))⟩
  f15 := Tryd.func96.trans (congrArg some (by kernel_rfl))
  f20 := ⟨Tryd.f116.name, by decide, Tryd.func116.trans (congrArg some (by kernel_rfl))⟩
  f21 := ⟨Tryd.f117.name, by decide, Tryd.func117.trans (congrArg some (by kernel_rfl))⟩
  f22 := ⟨Tryd.f118.name, by decide, Tryd.func118.trans (congrArg some (by kernel_rfl))⟩
  f23 := ⟨Tryd.f119.name, by decide, Tryd.func119.trans (congrArg some (by kernel_rfl))⟩
  f24 := ⟨Tryd.f120.name, by decide, Tryd.func120.trans (congrArg some (by kernel_rfl))⟩
  f25 := ⟨Tryd.f121.name, by decide, Tryd.func121.trans (congrArg some (by kernel_rfl))⟩
  f26 := ⟨Tryd.f122.name, by decide, Tryd.func122.trans (congrArg some (by kernel_rfl))⟩
  f27 := ⟨Tryd.f123.name, by decide, Tryd.func123.trans (congrArg some (by kernel_rfl))⟩
  f28 := Tryd.func124.trans (congrArg some (by kernel_rfl))
  f29 := Tryd.func125.trans (congrArg some (by kernel_rfl))
  f46 := ⟨Tryd.f144.name, by decide, Tryd.func144.trans (congrArg some (by kernel_rfl))⟩
  f47 := Tryd.func145.trans (congrArg some (by kernel_rfl))
  f48 := Tryd.func146.trans (congrArg some (by kernel_rfl))
  f49 := ⟨Tryd.f147.name, by decide, Tryd.func147.trans (congrArg some (by kernel_rfl))⟩
  f50 := ⟨Tryd.f148.name, by decide, Tryd.func148.trans (congrArg some (by kernel_rfl))⟩
  f57 := ⟨Tryd.f158.name, by decide, Tryd.func158.trans (congrArg some (by kernel_rfl))⟩
  t0 := Tryd.underlying0
  a0 := Tryd.isAgg0
  z0 := Tryd.sizeOf0
  v0 := Tryd.zeroValue0
  t3 := Tryd.underlying3
  a3 := Tryd.isAgg3
  z3 := Tryd.sizeOf3
  v3 := Tryd.zeroValue3
  t4 := Tryd.underlying4
  a4 := Tryd.isAgg4
  z4 := Tryd.sizeOf4
  v4 := Tryd.zeroValue4
  t5 := Tryd.underlying5
  a5 := Tryd.isAgg5
  z5 := Tryd.sizeOf5
  v5 := Tryd.zeroValue5
  t9 := Tryd.underlying9
  a9 := Tryd.isAgg9
  z9 := Tryd.sizeOf9
  v9 := Tryd.zeroValue9
  t22 := Tryd.underlying24
  a22 := Tryd.isAgg24
  z22 := Tryd.sizeOf24
  v22 := Tryd.zeroValue24
  a24 := Tryd.isAgg2
  z24 := Tryd.sizeOf2
  t25 := Tryd.underlying85
  a25 := Tryd.isAgg85
  z25 := Tryd.sizeOf85
  v25 := Tryd.zeroValue85
  t39 := Tryd.underlying107
  a39 := Tryd.isAgg107
  z39 := Tryd.sizeOf107
  v39 := Tryd.zeroValue107
  t45 := Tryd.underlying121
  a45 := Tryd.isAgg121
  z45 := Tryd.sizeOf121
  v45 := Tryd.zeroValue121
  t46 := Tryd.underlying122
  a46 := Tryd.isAgg122
  z46 := Tryd.sizeOf122
  v46 := Tryd.zeroValue122
  t50 := Tryd.underlying126
  a50 := Tryd.isAgg126
  z50 := Tryd.sizeOf126
  v50 := Tryd.zeroValue126
  t53 := Tryd.underlying129
  a53 := Tryd.isAgg129
  z53 := Tryd.sizeOf129
  v53 := Tryd.zeroValue129
  t55 := Tryd.underlying90
  a55 := Tryd.isAgg90
  z55 := Tryd.sizeOf90
  v55 := Tryd.zeroValue90
  t66 := Tryd.underlying152
  a66 := Tryd.isAgg152
  z66 := Tryd.sizeOf152
  v66 := Tryd.zeroValue152
  t70 := Tryd.underlying156
  a70 := Tryd.isAgg156
  z70 := Tryd.sizeOf156
  v70 := Tryd.zeroValue156
  t76 := Tryd.underlying165
  a76 := Tryd.isAgg165
  z76 := Tryd.sizeOf165
  v76 := Tryd.zeroValue165
  t77 := Tryd.underlying166
  a77 := Tryd.isAgg166
  z77 := Tryd.sizeOf166
  v77 := Tryd.zeroValue166 }
/-- The numbers of a set below 128, ascending; a number by which their lists are ordered. -/
def odk (n : Nat) : List Int := ((List.range 7).filter fun i => n.testBit i).map Int.ofNat
def keyO (n : Nat) : Nat := ((odk n).map (fun i : Int => i.toNat + 1) ++ List.replicate (7 - (odk n).length) 0).foldl (fun a d => a * 8 + d) 0
def cfO (x y : Fin 128) : Int := if keyO x.val < keyO y.val then -1 else if keyO y.val < keyO x.val then 1 else 0
theorem odk_list : ∀ n : Fin 128, impl_list.f 20 (n.val : Int) = some (odk n.val) := by decide +kernel
theorem cf_compare : ∀ x y : Fin 128, slices_Compare_int64_int64.f 40 (odk x.val) (odk y.val) = some (cfO x y) := by decide +kernel
theorem keyO_inj : ∀ x y : Fin 128, keyO x.val = keyO y.val → x = y := by decide +kernel
theorem cfO_lt (x y : Fin 128) : ltOf cfO x y = decide (keyO x.val < keyO y.val) := by
  unfold ltOf cfO
  by_cases h : keyO x.val < keyO y.val
  · simp [h]
  · by_cases h2 : keyO y.val < keyO x.val <;> simp [h, h2]
theorem swoO : Sort.SWO (ltOf cfO) where
  irrefl x := by rw [cfO_lt]; simp
  trans x y z h1 h2 := by rw [cfO_lt, decide_eq_true_eq] at h1 h2 ⊢; omega
  ntrans x y z h1 h2 := by rw [cfO_lt, decide_eq_false_iff_not] at h1 h2 ⊢; omega
def insO (x : Fin 128) : List (Fin 128) → List (Fin 128)
  | [] => [x]
  | y :: l => if keyO y.val < keyO x.val then y :: insO x l else x :: y :: l
def srtO : List (Fin 128) → List (Fin 128)
  | [] => []
  | x :: l => insO x (srtO l)
theorem insO_perm (x : Fin 128) : ∀ l, (insO x l).Perm (x :: l)
  | [] => List.Perm.refl _
  | y :: l => by
    unfold insO
    split
    · exact ((insO_perm x l).cons y).trans (List.Perm.swap x y l)
    · exact List.Perm.refl _
theorem srtO_perm : ∀ l, (srtO l).Perm l
  | [] => List.Perm.refl _
  | x :: l => (insO_perm x (srtO l)).trans ((srtO_perm l).cons x)
theorem insO_pw (x : Fin 128) : ∀ l : List (Fin 128), l.Pairwise (fun a b => keyO a.val ≤ keyO b.val) → (insO x l).Pairwise (fun a b => keyO a.val ≤ keyO b.val)
  | [], _ => by simp [insO]
  | y :: l, h => by
    obtain ⟨h1, h2⟩ := List.pairwise_cons.1 h
    unfold insO
    split
    · rename_i c
      refine List.pairwise_cons.2 ⟨fun a ha => ?_, insO_pw x l h2⟩
      rcases List.mem_cons.1 ((insO_perm x l).mem_iff.1 ha) with rfl | ha
      · omega
      · exact h1 a ha
    · rename_i c
      refine List.pairwise_cons.2 ⟨fun a ha => ?_, h⟩
      rcases List.mem_cons.1 ha with rfl | ha
      · omega
      · have := h1 a ha; omega
theorem srtO_pw : ∀ l, (srtO l).Pairwise (fun a b => keyO a.val ≤ keyO b.val)
  | [] => List.Pairwise.nil
  | x :: l => insO_pw x _ (srtO_pw l)
theorem srtO_eq (l : List (Fin 128)) : (l.mergeSort fun x y => !(ltOf cfO) y x) = srtO l := by
  refine List.Perm.eq_of_pairwise (le := fun x y => keyO x.val ≤ keyO y.val) ?_ ?_ (srtO_pw l) ((List.mergeSort_perm _ _).trans (srtO_perm l).symm)
  · intro a b _ _ h1 h2
    exact keyO_inj a b (by omega)
  · have h := List.pairwise_mergeSort (le := fun x y => !(ltOf cfO) y x) (fun a b c h1 h2 => ?_) (fun a b => ?_) l
    · refine h.imp fun {a b} hab => ?_
      rw [cfO_lt] at hab
      simpa using hab
    · rw [cfO_lt] at h1 h2 ⊢
      simp at h1 h2 ⊢
      omega
    · rw [cfO_lt, cfO_lt]
      simp
      omega
/-- What grew and drew no fewer. -/
theorem grow_of {W w' : World} (hb : Below W.heap.size W w') (hd : W.drawn ≤ w'.drawn) : ∃ q os', w' = Sort.grow (W.drewN q) os' := by
  obtain ⟨p, hp⟩ := regrown_of_below hb
  have hpd : p.d = w'.drawn := by rw [hp]; rfl
  refine ⟨p.d - W.drawn, p.os, ?_⟩
  rw [hp]
  unfold redrawn World.drewN
  congr 2
  omega
set_option maxHeartbeats 8000000 in
set_option maxRecDepth 100000 in
theorem odd_cmp (x y : Fin 128) (W : World) (ht : Tab W) :
    Calls Tryd.prog 72 #[.int .i64 (x.val : Int), .int .i64 (y.val : Int)] W fun e w' => e = .returned (.int .i64 (cfO x y)) ∧ ∃ q os', w' = Sort.grow (W.drewN q) os' := by
  have HT := Aside0.mk ht
  have HB := Aside0.mk (Below.refl W.heap.size W)
  have HD := Aside0.mk (Nat.le_refl W.drawn)
  have L1 := Aside0.mk (odk_list x)
  have L2 := Aside0.mk (odk_list y)
  have C1 := Aside0.mk (cf_compare x y)
  clear ht
  generalize odk x.val = lx at L1 C1
  generalize odk y.val = ly at L2 C1
  generalize (x.val : Int) = xi at L1 ⊢
  generalize (y.val : Int) = yi at L2 ⊢
  generalize cfO x y = r at C1 ⊢
  go_enter Tryd.func72, Tryd.ntmps72
  go_wp2_with (first
    | ((with_reducible refine gate_dst (N := 6) rfl ?_); refine goesL_ (some 6) rfl rfl Tryd.func74 (by kernel_rfl) rfl #[.int .i64 xi] rfl (by (try simp only [List.map_toArray, List.map_cons, List.map_nil]); first | done | rfl) ?_; (refine (impl_list.callsD 20 xi lx _ HT.out L1.out).mono ?_); rintro e w1 ⟨v1, rfl, ho, hb, hd⟩; refine ⟨_, rfl, ?_⟩; have HX := Aside0.mk (Kd.R_lower ho (below_size HB.out)); have n1_ := Aside0.mk (below_step HB.out hb); have n2_ := Aside0.mk (Nat.le_trans HD.out hd); clear HB HD ho hb hd; have HB := n1_; have HD := n2_; clear n1_ n2_; obtain ⟨A1, c1, e_⟩ := Kd.R_slice HX.out; subst e_)
    | ((with_reducible refine gate_dst (N := 8) rfl ?_); refine goesL_ (some 8) rfl rfl Tryd.func74 (by kernel_rfl) rfl #[.int .i64 yi] rfl (by (try simp only [List.map_toArray, List.map_cons, List.map_nil]); first | done | rfl) ?_; (refine (impl_list.callsD 20 yi ly _ (Tab.below HT.out HB.out) L2.out).mono ?_); rintro e w2 ⟨v2, rfl, ho, hb, hd⟩; refine ⟨_, rfl, ?_⟩; have HY := Aside0.mk (Kd.R_lower ho (below_size HB.out)); have n0_ := Aside0.mk (Kd.R_below HX.out hb); have n1_ := Aside0.mk (below_step HB.out hb); have n2_ := Aside0.mk (Nat.le_trans HD.out hd); clear HX HB HD ho hb hd; have HX := n0_; have HB := n1_; have HD := n2_; clear n0_ n1_ n2_; obtain ⟨A2, c2, e_⟩ := Kd.R_slice HY.out; subst e_)
    | ((with_reducible refine gate_dst (N := 9) rfl ?_); refine goesL_ (some 9) rfl rfl Tryd.func73 (by kernel_rfl) rfl #[.slice A1 lx.length c1, .slice A2 ly.length c2] rfl (by (try simp only [List.map_toArray, List.map_cons, List.map_nil]); first | done | rfl) ?_; (refine (slices_Compare_int64_int64.calls 40 _ _ lx _ _ ly r _ (Kd.R_reads' HX.out).2.2 (Kd.R_reads' HX.out).2.1 (Kd.R_reads' HY.out).2.2 (Kd.R_reads' HY.out).2.1 C1.out).mono ?_); rintro e w3 ⟨rfl, hn⟩; refine ⟨_, rfl, ?_⟩; have hd : w2.drawn ≤ w3.drawn := (by obtain ⟨nd, e_⟩ := hn.out; rw [e_]; exact Nat.le_add_right _ _); have n1_ := Aside0.mk (below_step HB.out hn.below); have n2_ := Aside0.mk (Nat.le_trans HD.out hd); clear HX HY HB HD hn hd; have HB := n1_; have HD := n2_; clear n1_ n2_))
  go_ret
  exact ⟨rfl, grow_of HB.out HD.out⟩
/-! ### the sort -/
def encO (d : Fin 128) : Value := .int .i64 (d.val : Int)
theorem so_ne (w : World) (enc : Fin 128 → Value) (m g : Nat) (a : Array (Fin 128)) (os : Array Obj) (k : Nat) (hk : k < w.heap.size) (hn : k ≠ g) : (sortWorld enc w g 0 m a os).heap[k]? = w.heap[k]? := by
  unfold sortWorld
  rw [Sort.heap_grow_old _ _ (by show k < (Array.modify w.heap g _).size; rw [Array.size_modify]; exact hk)]
  show (Array.modify w.heap g _)[k]? = _
  rw [Array.getElem?_modify, if_neg (Ne.symm hn)]
theorem so_eq (w : World) (enc : Fin 128 → Value) (m g : Nat) (a : Array (Fin 128)) (os : Array Obj) (cur : Array Value) (t : TypeId) (hg : w.heap[g]? = some (.cells cur t (0, 0))) : (sortWorld enc w g 0 m a os).heap[g]? = some (.cells (Sort.putCells enc 0 a cur) t (0, 0)) := by
  have hk : g < w.heap.size := (Array.getElem?_eq_some_iff.1 hg).1
  unfold sortWorld
  rw [Sort.heap_grow_old _ _ (by show g < (Array.modify w.heap g _).size; rw [Array.size_modify]; exact hk)]
  show (Array.modify w.heap g _)[g]? = _
  rw [Array.getElem?_modify, if_pos rfl, hg]
  rfl
theorem so_size (w : World) (enc : Fin 128 → Value) (m g : Nat) (a : Array (Fin 128)) (os : Array Obj) : w.heap.size ≤ (sortWorld enc w g 0 m a os).heap.size := by
  unfold sortWorld Sort.grow
  show w.heap.size ≤ ((Array.modify w.heap g _) ++ os).size
  rw [Array.size_append, Array.size_modify]
  exact Nat.le_add_right _ _
def toI (l : List (Fin 128)) : List Int := l.map fun d => (d.val : Int)
set_option maxHeartbeats 4000000 in
set_option maxRecDepth 100000 in
theorem odd_sort {w0 w : World} (v : Value) (l : List (Fin 128)) (hB : Below w0.heap.size w0 w) (ht : Tab w0) (hR : (Kd.int .i64).R 2 w w0.heap.size (fun _ => True) v (toI l)) (hpos : 0 < l.length) (hlt : l.length ≤ 1000) :
    Calls Tryd.prog 71 #[v, .func (.func 72) #[] #[]] w fun e w' => e = .returned (.tuple #[]) ∧ (Kd.int .i64).R 2 w' w0.heap.size (fun _ => True) v (toI (srtO l)) ∧ Below w0.heap.size w0 w' ∧ Kept w w' (fun k => some k = v.ownBlock) := by
  have hl : (toI l).length = l.length := by simp [toI]
  obtain ⟨g, cap, rfl, hgb, hgl, _⟩ := Kd.R_form hR (by omega)
  have hbig := hR
  obtain ⟨hok, inner, ⟨hil, how⟩, hr⟩ := hR
  rcases how with ⟨e, _⟩ | ⟨g', cap', cur, e, hb, hh, hc1, hc2, hc3, hc4⟩
  · cases e
  injection e with e e2 e3
  injection e with e
  injection e with e _ _
  subst e e3
  have hsz1 : (Kd.int .i64).sz = 1 := rfl
  rw [hsz1] at hil hc3 hc4
  have hH : Sort.Holds encO w g 0 l.toArray := fun j hj => by
    have hj2 : j < l.length := by simpa using hj
    obtain ⟨hx, hf⟩ := Kd.R_celln 0 hbig (j : Int) (by omega) (by omega)
    refine ⟨?_, by simpa using hf⟩
    have e : rd (toI l) (j : Int) = ((l.toArray[j]!).val : Int) := by simp [rd, toI, hj2]
    rw [Nat.zero_add]
    show _ = some (Value.int .i64 ((l.toArray[j]!).val : Int))
    rw [← e]
    rw [Int.toNat_natCast] at hx
    exact hx
  have hO : OneCell encO := fun _ => rfl
  have g0 : 0 < w0.heap.size := by
    have h1 := ht 0 (by decide)
    by_cases z : 0 < w0.heap.size
    · exact z
    · exfalso
      have h2 := World.block_lt_of_cell? w0 _ h1
      omega
  have hcmp : CmpLays1 Tryd.prog 72 #[] encO cfO g 0 l.toArray.size w := fun m os dk _ x y => by
    refine odd_cmp x y _ (fun j hj => ?_)
    have h1 := ht j hj
    have h2 : (sortWorld encO w g 0 m dk os).heap[0]? = w0.heap[0]? := (so_ne w encO m g dk os 0 (by have := hB.size; omega) (by omega)).trans (hB.block 0 g0)
    simp only [World.cell?, h2] at h1 ⊢
    exact h1
  have hcon := Any.slices_SortFunc_total laySF_ encO hO cfO swoO 72 #[] g 0 cap l.toArray w (enters_of Tryd.func72 (by kernel_rfl) rfl) hcmp hH hgl (by simp; omega) (fun x y h1 h2 => keyO_inj x y (by rw [cfO_lt, decide_eq_false_iff_not] at h1 h2; omega))
  change Calls Tryd.prog 71 _ _ _ at hcon
  have es : l.toArray.size = (toI l).length := by simp [toI]
  rw [es] at hcon
  refine hcon.mono ?_
  rintro e w' ⟨rfl, n, os, rfl⟩
  have hs : l.toArray.toList.mergeSort (fun x y => !(ltOf cfO) y x) = srtO l := srtO_eq l
  rw [hs]
  have hsl : (srtO l).length = l.length := (srtO_perm l).length_eq
  have hsl2 : (toI (srtO l)).length = (toI l).length := by simp [toI, hsl]
  refine ⟨rfl, ?_, ⟨hB.os, hB.tape, hB.output, Nat.le_trans hB.size (so_size w encO n g _ os), fun k hk => (so_ne w encO n g _ os k (Nat.lt_of_lt_of_le hk hB.size) (by omega)).trans (hB.block k hk)⟩, ⟨so_size w encO n g _ os, fun k hk hn => so_ne w encO n g _ os k hk (fun e => hn (by rw [e]; rfl))⟩⟩
  rw [← hsl2]
  refine Kd.R_of_own (enc := Value.int .i64) (h1 := fun _ => rfl) ⟨?_, .inr ⟨g, cap, Sort.putCells encO 0 (srtO l).toArray cur, rfl, hb, so_eq w encO n g _ os cur 2 hh, by omega, hc2, ?_, ?_⟩⟩ (fun _ _ => trivial)
  · simp [encs]
  · unfold Sort.putCells; rw [Array.size_mapIdx]; exact hc3
  · rw [hsl2, Nat.mul_one]
    refine List.ext_getElem? fun j => ?_
    rw [List.getElem?_take]
    by_cases hj : j < (toI l).length
    · rw [if_pos hj]
      have hj2 : j < (srtO l).length := by omega
      unfold Sort.putCells encs toI
      rw [Array.getElem?_toList, Array.getElem?_mapIdx, Array.getElem?_eq_getElem (by omega), List.getElem?_map, List.getElem?_map, List.getElem?_eq_getElem hj2]
      simp [hj2, encO]
    · rw [if_neg hj]
      unfold encs
      rw [List.getElem?_eq_none (by rw [List.length_map]; omega)]
/-! ### impl.OddGraph -/
def odd_is (l : List Int) (a b : Int) : Option Bool := if 0 ≤ a then (if a < (l.length : Int) then (if 0 ≤ b then (if b < (l.length : Int) then some (Go.bits .and .i64 (rd l a) (rd l b) == 0) else none) else none) else none) else none
set_option maxHeartbeats 8000000 in
set_option maxRecDepth 100000 in
theorem odd_calls (l : List Int) (g4 : Nat) (A : Option Addr) (c : Nat) (a b : Int) (r : Bool) (W : World) (hl : W.heap[g4]? = some (.cells #[.slice A l.length c] 24 (0, 0))) (hC : Kd.C (Kd.int .i64) W A l.length l) (h : odd_is l a b = some r) :
    Calls Tryd.prog 76 #[.int .i64 a, .int .i64 b, .pointer (some ⟨g4, 0, none⟩)] W fun e w' => e = .returned (.bool r) ∧ Below W.heap.size W w' := by
  unfold odd_is at h
  split at h
  case isFalse => cases h
  rename_i p0
  split at h
  case isFalse => cases h
  rename_i p1
  split at h
  case isFalse => cases h
  rename_i p2
  split at h
  case isFalse => cases h
  rename_i p3
  injection h with h
  subst h
  obtain ⟨ad1, e1, hx1⟩ := Kd.at_int hC a p0 p1
  cases e1
  obtain ⟨ad2, e2, hx2⟩ := Kd.at_int hC b p2 p3
  cases e2
  have hcl : W.cell? ⟨g4, 0, none⟩ = some (.slice (some ad1) l.length c) := (blk_cell hl 0).trans rfl
  clear hl hC
  generalize rd l a = xa at hx1 ⊢
  generalize rd l b = xb at hx2 ⊢
  replace p0 := eq_true p0
  replace p1 := eq_true p1
  replace p2 := eq_true p2
  replace p3 := eq_true p3
  go_enter Tryd.func76, Tryd.ntmps76
  go_wp2
  go_quiet (fail)
  go_wp2
  go_ret
  exact ⟨rfl, pw_below_drewN (Below.refl _ _) _⟩
def odd_.l0 (k1 n : Int) : Nat → Int → List Int → Option (List Int)
  | 0, _, _ => none
  | k + 1, x, xs => if x < n then ((impl_size.f x).bind fun s => if s = k1 then (if xs.length < 1000 then odd_.l0 k1 n k (wrap64 (x + 1)) (xs ++ [x]) else none) else odd_.l0 k1 n k (wrap64 (x + 1)) xs) else some xs
theorem odd_.mono (k1 n : Int) : ∀ k, ∀ y0 y1, LeO (odd_.l0 k1 n k y0 y1) (odd_.l0 k1 n (k + 1) y0 y1)
  | 0 => fun _ _ r h => by simp [odd_.l0] at h
  | k + 1 => by
    have ih := odd_.mono k1 n k
    intro y0 y1
    rw [odd_.l0.eq_2, odd_.l0.eq_2]
    refine LeO.ite (LeO.bind (LeO.refl _) (fun _ => LeO.ite (LeO.ite (ih _ _) (LeO.refl _)) (ih _ _))) (LeO.refl _)
/-- Numbers of 0 to 127 as such. -/
def toF (l : List Int) : List (Fin 128) := l.map fun x => ⟨x.toNat % 128, Nat.mod_lt _ (by decide)⟩
def odd_.g (k1 n : Int) (k : Nat) : Option (Int × List Int × Int) := (odd_.l0 k1 n k 0 []).bind fun xs => if toI (toF xs) = xs then (if 0 < xs.length then (if xs.length ≤ 1000 then (made_.f (odd_is (toI (srtO (toF xs)))) k (xs.length : Int)).bind fun t => some (t.1, t.2, 0) else none) else none) else none
theorem odd_.gmono (k1 n : Int) (k : Nat) : LeO (odd_.g k1 n k) (odd_.g k1 n (k + 1)) := by
  unfold odd_.g
  refine LeO.bind (odd_.mono _ _ _ _ _) (fun _ => ?_)
  refine LeO.ite (LeO.ite (LeO.ite ?_ (LeO.refl _)) (LeO.refl _)) (LeO.refl _)
  exact LeO.bind (made_.mono _ _ _) (fun _ => LeO.refl _)
def impl_OddGraph.f (k : Nat) (a0 : Int) : Option (Int × List Int × Int) := if a0 < 2 then some (0, [], 2) else if a0 > 4 then some (0, [], 2) else if a0 = 2 then odd_.g 1 8 k else if a0 = 3 then odd_.g 2 32 k else odd_.g 3 128 k
theorem impl_OddGraph.mono : ∀ a0 k, LeO (impl_OddGraph.f k a0) (impl_OddGraph.f (k + 1) a0) := by
  intro a0 k
  unfold impl_OddGraph.f
  refine LeO.ite (LeO.refl _) (LeO.ite (LeO.refl _) (LeO.ite (odd_.gmono _ _ _) (LeO.ite (odd_.gmono _ _ _) (odd_.gmono _ _ _))))
set_option maxHeartbeats 8000000 in
set_option maxRecDepth 100000 in
theorem odd_zero (a0 : Int) (w : World) (h : a0 < 2 ∨ 4 < a0) : Calls Tryd.prog 34 #[.int .i64 a0] w fun e w' => e = .returned (.tuple #[.agg #[.int .i64 0, .slice none 0 0], .int .i64 2]) ∧ Below w.heap.size w w' := by
  have hu34 := Tryd.underlying26
  have HB := Aside0.mk (Below.refl w.heap.size w)
  by_cases c0 : a0 < 2
  · have d0 : decide (a0 < 2) = true := decide_eq_true c0
    clear h c0
    go_enter Tryd.func34, Tryd.ntmps34
    go_wp2_with (first | ((with_reducible refine gate_dst (N := 2) rfl ?_); refine box_event ?hg (N := 2) ?hd (cs := #[.int .i64 0, .slice none 0 0]) (t := 26) ?hr ?_; (case hd => rfl); (case hg => rfl); (case hr => first | (go_simp; done) | (go_simp; rfl)); intro g2 hg w1 hbox hb; have n0_ := Aside0.mk (hbox); have n1_ := Aside0.mk ((by rw [hg]; exact below_size HB.out : w.heap.size ≤ g2)); have n2_ := Aside0.mk (below_step HB.out hb); clear HB; have B2 := n0_; have G2 := n1_; have HB := n2_; clear n0_ n1_ n2_; clear hb hbox hg; have hcz2_0 : w1.cell? ⟨g2, 0, none⟩ = some (.int .i64 0) := (blk_cell B2.out 0).trans rfl; have hfz2_0 := blk_frozen B2.out 0; have hcz2_1 : w1.cell? ⟨g2, 1, none⟩ = some (.slice none 0 0) := (blk_cell B2.out 1).trans rfl; have hfz2_1 := blk_frozen B2.out 1))
    refine bodyPost_ret (results_ct rfl _ _ g2 26 #[.int .i64 0, .slice none 0 0] (0, 0) _ rfl (by refine blk_put (cs := #[.int .i64 0, .slice none 0 0]) ?_ 1 _ rfl; refine blk_put (cs := #[.int .i64 0, .slice none 0 0]) ?_ 0 _ rfl; exact B2.out) Tryd.underlying26 rfl (by kernel_rfl)) rfl ?_
    exact ⟨rfl, below_set (below_set HB.out G2.out) G2.out⟩
  · have d0 : decide (a0 < 2) = false := decide_eq_false c0
    have d1 : decide (4 < a0) = true := decide_eq_true (by omega)
    clear h c0
    go_enter Tryd.func34, Tryd.ntmps34
    go_wp2_with (first | ((with_reducible refine gate_dst (N := 2) rfl ?_); refine box_event ?hg (N := 2) ?hd (cs := #[.int .i64 0, .slice none 0 0]) (t := 26) ?hr ?_; (case hd => rfl); (case hg => rfl); (case hr => first | (go_simp; done) | (go_simp; rfl)); intro g2 hg w1 hbox hb; have n0_ := Aside0.mk (hbox); have n1_ := Aside0.mk ((by rw [hg]; exact below_size HB.out : w.heap.size ≤ g2)); have n2_ := Aside0.mk (below_step HB.out hb); clear HB; have B2 := n0_; have G2 := n1_; have HB := n2_; clear n0_ n1_ n2_; clear hb hbox hg; have hcz2_0 : w1.cell? ⟨g2, 0, none⟩ = some (.int .i64 0) := (blk_cell B2.out 0).trans rfl; have hfz2_0 := blk_frozen B2.out 0; have hcz2_1 : w1.cell? ⟨g2, 1, none⟩ = some (.slice none 0 0) := (blk_cell B2.out 1).trans rfl; have hfz2_1 := blk_frozen B2.out 1))
    refine bodyPost_ret (results_ct rfl _ _ g2 26 #[.int .i64 0, .slice none 0 0] (0, 0) _ rfl (by refine blk_put (cs := #[.int .i64 0, .slice none 0 0]) ?_ 1 _ rfl; refine blk_put (cs := #[.int .i64 0, .slice none 0 0]) ?_ 0 _ rfl; exact B2.out) Tryd.underlying26 rfl (by kernel_rfl)) rfl ?_
    exact ⟨rfl, below_set (below_set HB.out G2.out) G2.out⟩
set_option maxHeartbeats 8000000 in
set_option maxRecDepth 100000 in
theorem odd_way2 (k : Nat) (r1 : Int) (r2 : List Int) (r3 : Int) (w : World) (ht : Tab w) (h : odd_.g 1 8 k = some (r1, r2, r3)) : Calls Tryd.prog 34 #[.int .i64 2] w fun e w' => ∃ v1_ : Value, e = .returned (.tuple #[.agg #[.int .i64 r1, v1_], .int .i64 r3]) ∧ Kd.R (Kd.int .i64) 2 w' w.heap.size (fun _ => True) v1_ r2 ∧ Below w.heap.size w w' := by
  have hu34 := Tryd.underlying26
  have HB := Aside0.mk (Below.refl w.heap.size w)
  have HT := Aside0.mk ht
  clear ht
  unfold odd_.g at h
  obtain ⟨XS, A1, h⟩ := Option.bind_eq_some_iff.mp h
  split at h
  case isFalse => cases h
  rename_i hxs
  split at h
  case isFalse => cases h
  rename_i hpos
  split at h
  case isFalse => cases h
  rename_i hle
  obtain ⟨⟨t1, t2⟩, A2, h⟩ := Option.bind_eq_some_iff.mp h
  simp only [Option.some.injEq, Prod.mk.injEq] at h
  obtain ⟨rfl, rfl, rfl⟩ := h
  have H' := Aside0.mk A1
  have H2 := Aside0.mk A2
  have HX1 := Aside0.mk hxs
  have HP := Aside0.mk hpos
  have HL := Aside0.mk hle
  clear A1 A2 hxs hpos hle
  go_enter Tryd.func34, Tryd.ntmps34
  go_wp2_with (first | ((with_reducible refine gate_dst (N := 2) rfl ?_); refine box_event ?hg (N := 2) ?hd (cs := #[.int .i64 0, .slice none 0 0]) (t := 26) ?hr ?_; (case hd => rfl); (case hg => rfl); (case hr => first | (go_simp; done) | (go_simp; rfl)); intro g2 hg w1 hbox hb; have n0_ := Aside0.mk (hbox); have n1_ := Aside0.mk ((by rw [hg]; exact below_size HB.out : w.heap.size ≤ g2)); have n2_ := Aside0.mk (below_step HB.out hb); clear HB; have B2 := n0_; have G2 := n1_; have HB := n2_; clear n0_ n1_ n2_; clear hb hbox hg; have hcz2_0 : w1.cell? ⟨g2, 0, none⟩ = some (.int .i64 0) := (blk_cell B2.out 0).trans rfl; have hfz2_0 := blk_frozen B2.out 0; have hcz2_1 : w1.cell? ⟨g2, 1, none⟩ = some (.slice none 0 0) := (blk_cell B2.out 1).trans rfl; have hfz2_1 := blk_frozen B2.out 1) | ((with_reducible refine gate_dst (N := 13) rfl ?_); refine Kd.R_lit (Kd.int .i64) _ 2 ?hg (N := 13) ?hd (xs := ([] : List Int)) (inner := []) (ok := fun _ => True) (okp := fun _ => True) ?hr ?hp (fun _ hk => hk) trivial (Below.refl _ _) (Nat.le_refl _) (by simp) ?_; (case hd => rfl); (case hg => rfl); (case hr => first | (go_simp; done) | (go_simp; rfl)); (case hp => exact (Reps.none _ _)); intro v13 w2 ho hb hg_ hnew_; clear hg_ hnew_; clear hcz2_0 hfz2_0 hcz2_1 hfz2_1; have n0_ := Aside0.mk (Kd.R_lower ho (below_size HB.out)); have n1_ := Aside0.mk (blk_below B2.out hb); have n2_ := Aside0.mk (below_step HB.out hb); clear B2 HB ho hb; have HX := n0_; have B2 := n1_; have HB := n2_; clear n0_ n1_ n2_; obtain ⟨A, c, e_⟩ := Kd.R_slice HX.out; subst e_) | ((with_reducible refine gate_dst (N := 4) rfl ?_); refine box_event ?hg (N := 4) ?hd (cs := #[.slice none 0 0]) (t := 24) ?hr ?_; (case hd => rfl); (case hg => rfl); (case hr => first | (go_simp; done) | (go_simp; rfl)); intro g4 hg w3 hbox hb; have B4 := Aside0.mk hbox; have G4 := Aside0.mk (by rw [hg]; exact below_size HB.out : w.heap.size ≤ g4); have N24 := Aside0.mk (by rw [hg]; exact Nat.ne_of_lt (blk_lt B2.out) : g2 ≠ g4); have n0_ := Aside0.mk (Kd.R_below HX.out hb); have n1_ := Aside0.mk (blk_below B2.out hb); have n2_ := Aside0.mk (below_step HB.out hb); clear HX B2 HB hb hbox hg; have HX := n0_; have B2 := n1_; have HB := n2_; clear n0_ n1_ n2_; have hcz4_0 : w3.cell? ⟨g4, 0, none⟩ = some (.slice none 0 0) := (blk_cell B4.out 0).trans rfl; have hfz4_0 := blk_frozen B4.out 0) | ((with_reducible refine gate_store (t := 24) (p := 4) rfl ?_); refine store_event (t := 24) (p := 4) (v := .tmp 13) (w1 := (w3.setCell ⟨g4, 0, none⟩ (.slice A ([] : List Int).length c))) rfl rfl rfl ?hr ?_; (case hr => first | (go_simp; done) | (go_simp; rfl)); intro w4 hw; have n0_ := Aside0.mk (by rw [hw]; exact Kd.R_set HX.out B4.out (by decide) 0 _ : Kd.R (Kd.int .i64) 2 w4 w.heap.size (fun _ => True) (.slice A ([] : List Int).length c) _); have n1_ := Aside0.mk (by rw [hw]; exact blk_far B2.out N24.out _ : w4.heap[g2]? = some (.cells #[.int .i64 0, (.slice none 0 0)] 26 (0, 0))); have n2_ := Aside0.mk (by rw [hw]; exact below_set HB.out G4.out : Below w.heap.size w w4); have n3_ := Aside0.mk (by rw [hw]; exact blk_put (cs := #[.slice none 0 0]) B4.out 0 _ rfl : w4.heap[g4]? = some (.cells #[.slice A ([] : List Int).length c] 24 (0, 0))); clear HX B2 HB B4 hw hcz4_0 hfz4_0; have HX := n0_; have B2 := n1_; have HB := n2_; have B4 := n3_; clear n0_ n1_ n2_ n3_))
  go_loopg [18] k (fun kq v18 w' => ∃ (x : Int) (xs : List Int) (A1 : Option Addr) (c1 : Nat), v18 = .int .i64 x ∧ Aside0 (odd_.l0 1 8 kq x xs = some XS) ∧ Aside0 (kq ≤ k) ∧ Aside0 (Kd.R (Kd.int .i64) 2 w' w.heap.size (fun _ => True) (.slice A1 xs.length c1) xs) ∧ Aside0 (w'.heap[g4]? = some (.cells #[.slice A1 xs.length c1] 24 (0, 0))) ∧ Aside0 (w'.heap[g2]? = some (.cells #[.int .i64 0, (.slice none 0 0)] 26 (0, 0))) ∧ Aside0 (Below w.heap.size w w'))
  case atStart => exact ⟨0, [], A, c, rfl, H', ⟨Nat.le_refl _⟩, HX, B4, B2, HB⟩
  case round =>
    clear H' HX B4 B2 HB
    obtain ⟨x, xs, A1, c1, rfl, HA, HK1, HX, B4, B2, HB⟩ := hrel
    cases gk with
    | zero => exact absurd HA.out (by simp [odd_.l0])
    | succ k1_ =>
      have H := HA.out
      clear HA
      rw [odd_.l0.eq_2] at H
      by_cases c10 : x < 8
      · rw [if_pos c10] at H
        have c10b0 : decide (x < 8) = true := decide_eq_true c10
        clear c10
        obtain ⟨s, A3, H⟩ := Option.bind_eq_some_iff.mp H
        have A4 := Aside0.mk A3
        clear A3
        by_cases cs : s = 1
        · subst cs
          rw [if_pos rfl] at H
          split at H
          case isFalse => cases H
          rename_i hm
          have LM := Aside0.mk hm
          clear hm
          have H' := Aside0.mk H
          clear H
          go_wp2_with (first | (go_at_call 70; (refine (impl_size.calls x 1 _ A4.out).mono ?_); rintro e w5 ⟨rfl, hn⟩; have hb := hn.below; clear hn; have n0_ := Aside0.mk (Kd.R_below HX.out hb); have n1_ := Aside0.mk (blk_below B4.out hb); have n2_ := Aside0.mk (blk_below B2.out hb); have n3_ := Aside0.mk (below_step HB.out hb); clear HX B4 B2 HB hb; have HX := n0_; have B4 := n1_; have B2 := n2_; have HB := n3_; clear n0_ n1_ n2_ n3_; have hcz4_0 : w5.cell? ⟨g4, 0, none⟩ = some (.slice A1 xs.length c1) := (blk_cell B4.out 0).trans rfl; have hfz4_0 := blk_frozen B4.out 0) | ((with_reducible refine gate_builtin (b := .append) (xs := #[.tmp 26, .tmp 28]) rfl ?_); at_builtin; refine Kd.R_append (Kd.int .i64) (w0 := w) (W := w5) w.heap.size rfl (.tmp 26) (.tmp 28) 24 2 (.int .i64 0) 8 rfl Tryd.underlying24 info2 rfl (by decide) (by omega) (.slice A1 xs.length c1) xs x [.int .i64 x] (fun _ => True) (fun _ => False) rfl rfl ?aP (fun _ hk => hk.elim) ?aF ?aO ?aB ?aS ?aL ?_; (case aP => exact rfl); (case aB => exact HB.out); (case aF => exact (fun _ _ => trivial)); (case aO => exact HX.out); (case aS => exact (below_size HB.out)); (case aL => have := LM.out; omega); intro v29 w6 ho hb hg hat; have n0_ := Aside0.mk ho; have n1_ := Aside0.mk (blk_grown B4.out hg (Kd.R_ne HX.out B4.out (by decide))); have n2_ := Aside0.mk (blk_grown B2.out hg (Kd.R_ne HX.out B2.out (by decide))); have n3_ := Aside0.mk hb; clear HX B4 B2 HB ho hb hg hat hcz4_0 hfz4_0; have HX := n0_; have B4 := n1_; have B2 := n2_; have HB := n3_; clear n0_ n1_ n2_ n3_; have hcz4_0 : w6.cell? ⟨g4, 0, none⟩ = some (.slice A1 xs.length c1) := (blk_cell B4.out 0).trans rfl; have hfz4_0 := blk_frozen B4.out 0; obtain ⟨A7, c7, e7⟩ := Kd.R_slice HX.out; subst e7) | ((with_reducible refine gate_store (t := 24) (p := 4) rfl ?_); refine store_event (t := 24) (p := 4) (v := .tmp 29) (w1 := (w6.setCell ⟨g4, 0, none⟩ (.slice A7 (xs ++ [x]).length c7))) rfl rfl rfl ?hr ?_; (case hr => first | (go_simp; done) | (go_simp; rfl)); intro w7 hw; have n0_ := Aside0.mk (by rw [hw]; exact Kd.R_set HX.out B4.out (by decide) 0 _ : Kd.R (Kd.int .i64) 2 w7 w.heap.size (fun _ => True) (.slice A7 (xs ++ [x]).length c7) _); have n1_ := Aside0.mk (by rw [hw]; exact blk_far B2.out N24.out _ : w7.heap[g2]? = some (.cells #[.int .i64 0, (.slice none 0 0)] 26 (0, 0))); have n2_ := Aside0.mk (by rw [hw]; exact below_set HB.out G4.out : Below w.heap.size w w7); have n3_ := Aside0.mk (by rw [hw]; exact blk_put (cs := #[.slice A1 xs.length c1]) B4.out 0 _ rfl : w7.heap[g4]? = some (.cells #[.slice A7 (xs ++ [x]).length c7] 24 (0, 0))); clear HX B2 HB B4 hw hcz4_0 hfz4_0; have HX := n0_; have B2 := n1_; have HB := n2_; have B4 := n3_; clear n0_ n1_ n2_ n3_))
          go_roundg k1_
          case measure => have := HK1.out; omega
          case rel => exact ⟨_, (xs ++ [x]), A7, c7, (by first | rfl | (simp; done)), H', ⟨by have := HK1.out; omega⟩, HX, B4, B2, HB⟩
        · rw [if_neg cs] at H
          have csb : (s == 1) = false := beq_eq_false_iff_ne.mpr cs
          have H' := Aside0.mk H
          clear H cs
          go_wp2_with (first | (go_at_call 70; (refine (impl_size.calls x s _ A4.out).mono ?_); rintro e w5 ⟨rfl, hn⟩; have hb := hn.below; clear hn; have n0_ := Aside0.mk (Kd.R_below HX.out hb); have n1_ := Aside0.mk (blk_below B4.out hb); have n2_ := Aside0.mk (blk_below B2.out hb); have n3_ := Aside0.mk (below_step HB.out hb); clear HX B4 B2 HB hb; have HX := n0_; have B4 := n1_; have B2 := n2_; have HB := n3_; clear n0_ n1_ n2_ n3_; have hcz4_0 : w5.cell? ⟨g4, 0, none⟩ = some (.slice A1 xs.length c1) := (blk_cell B4.out 0).trans rfl; have hfz4_0 := blk_frozen B4.out 0))
          go_roundg k1_
          case measure => have := HK1.out; omega
          case rel => exact ⟨_, xs, A1, c1, (by first | rfl | (simp; done)), H', ⟨by have := HK1.out; omega⟩, HX, B4, B2, HB⟩
      · rw [if_neg c10] at H
        have c10b0 : decide (x < 8) = false := decide_eq_false c10
        clear c10
        obtain rfl := Option.some.inj H
        clear H
        have hcz4_0 : wr.cell? ⟨g4, 0, none⟩ = some (.slice A1 xs.length c1) := (blk_cell B4.out 0).trans rfl
        have hfz4_0 := blk_frozen B4.out 0
        obtain ⟨ys, hys⟩ : ∃ ys : List Int, ys = toI (srtO (toF xs)) := ⟨_, rfl⟩
        have HY := Aside0.mk hys
        have YL := Aside0.mk (show ys.length = xs.length by rw [hys]; unfold toI; rw [List.length_map, (srtO_perm (toF xs)).length_eq]; simp [toF])
        clear hys
        have FL := Aside0.mk (show (toF xs).length = xs.length by simp [toF])
        go_wp2_with (first | ((with_reducible refine gate_callee (f := 71) rfl ?_); refine goesL_ (some 32) rfl rfl Tryd.func71 (by kernel_rfl) rfl #[.slice A1 xs.length c1, .func (.func 72) #[] #[]] rfl (by (try simp only [List.map_toArray, List.map_cons, List.map_nil]); first | done | rfl) ?_; (refine (odd_sort (w0 := w) (.slice A1 xs.length c1) (toF xs) HB.out HT.out (by rw [HX1.out]; exact HX.out) (by rw [FL.out]; exact HP.out) (by rw [FL.out]; exact HL.out)).mono ?_); rintro e w5 ⟨rfl, ho, hb, hkp⟩; refine ⟨_, rfl, ?_⟩; rw [← HY.out] at ho; have n0_ := Aside0.mk ho; have n1_ := Aside0.mk (blk_kept (o := .cells #[_] _ (0, 0)) B4.out hkp (fun hs_ => Kd.R_ne HX.out B4.out (by decide) hs_)); have n2_ := Aside0.mk (blk_kept (o := .cells #[_, _] _ (0, 0)) B2.out hkp (fun hs_ => Kd.R_ne HX.out B2.out (by decide) hs_)); have n3_ := Aside0.mk hb; clear HX B4 B2 HB ho hb hkp hcz4_0 hfz4_0; have HX := n0_; have B4 := n1_; have B2 := n2_; have HB := n3_; clear n0_ n1_ n2_ n3_; have hcz4_0 : w5.cell? ⟨g4, 0, none⟩ = some (.slice A1 xs.length c1) := (blk_cell B4.out 0).trans rfl; have hfz4_0 := blk_frozen B4.out 0) | ((with_reducible refine gate_callee (f := 75) rfl ?_); refine goesL_ (some 36) rfl rfl Tryd.func75 (by kernel_rfl) rfl #[.int .i64 (xs.length : Int), .func (.func 76) #[] #[.pointer (some ⟨g4, 0, none⟩)]] rfl (by (try simp only [List.map_toArray, List.map_cons, List.map_nil]); first | done | rfl) ?_; (refine (made_.calls 76 _ Tryd.func76 rfl rfl (odd_is ys) k (xs.length : Int) t1 t2 (.pointer (some ⟨g4, 0, none⟩)) _ ?side1 (by rw [HY.out]; exact H2.out)).mono ?_); (case side1 => exact fun a b r W hW h_ => odd_calls ys g4 A1 c1 a b r W (by rw [YL.out]; exact blk_below B4.out hW) (Kd.C_below (Kd.R_reads' HX.out).2.2 hW) h_); rintro e w9 ⟨v9, rfl, ho, hb⟩; refine ⟨_, rfl, ?_⟩; have n0_ := Aside0.mk (Kd.R_lower ho (below_size HB.out)); have n1_ := Aside0.mk (blk_below B2.out hb); have n2_ := Aside0.mk (below_step HB.out hb); clear HX B2 HB B4 ho hb hcz4_0 hfz4_0; have HX := n0_; have B2 := n1_; have HB := n2_; clear n0_ n1_ n2_; obtain ⟨A9, c9, e9⟩ := Kd.R_slice HX.out; subst e9; have hcz2_0 : w9.cell? ⟨g2, 0, none⟩ = some (.int .i64 0) := (blk_cell B2.out 0).trans rfl; have hcz2_1 : w9.cell? ⟨g2, 1, none⟩ = some (.slice none 0 0) := (blk_cell B2.out 1).trans rfl; have hfz2_0 := blk_frozen B2.out 0; have hfz2_1 := blk_frozen B2.out 1))
        refine bodyPost_ret (results_ct rfl _ _ g2 26 #[.int .i64 t1, .slice A9 t2.length c9] (0, 0) _ rfl (by refine blk_put (cs := #[.int .i64 t1, .slice none 0 0]) ?_ 1 _ rfl; refine blk_put (cs := #[.int .i64 0, .slice none 0 0]) ?_ 0 _ rfl; exact B2.out) Tryd.underlying26 rfl (by kernel_rfl)) rfl ?_
        exact ⟨_, rfl, Kd.R_mono (Kd.R_far (p := ⟨g2, 1, none⟩) (Kd.R_far (p := ⟨g2, 0, none⟩) (Kd.R_types HX.out B2.out (by decide)) (fun _ hk => hk.2) (.int .i64 t1)) (fun _ hk => hk.2) (.slice A9 t2.length c9)) (fun _ _ => trivial), below_set (below_set HB.out G2.out) G2.out⟩
set_option maxHeartbeats 8000000 in
set_option maxRecDepth 100000 in
theorem odd_way3 (k : Nat) (r1 : Int) (r2 : List Int) (r3 : Int) (w : World) (ht : Tab w) (h : odd_.g 2 32 k = some (r1, r2, r3)) : Calls Tryd.prog 34 #[.int .i64 3] w fun e w' => ∃ v1_ : Value, e = .returned (.tuple #[.agg #[.int .i64 r1, v1_], .int .i64 r3]) ∧ Kd.R (Kd.int .i64) 2 w' w.heap.size (fun _ => True) v1_ r2 ∧ Below w.heap.size w w' := by
  have hu34 := Tryd.underlying26
  have HB := Aside0.mk (Below.refl w.heap.size w)
  have HT := Aside0.mk ht
  clear ht
  unfold odd_.g at h
  obtain ⟨XS, A1, h⟩ := Option.bind_eq_some_iff.mp h
  split at h
  case isFalse => cases h
  rename_i hxs
  split at h
  case isFalse => cases h
  rename_i hpos
  split at h
  case isFalse => cases h
  rename_i hle
  obtain ⟨⟨t1, t2⟩, A2, h⟩ := Option.bind_eq_some_iff.mp h
  simp only [Option.some.injEq, Prod.mk.injEq] at h
  obtain ⟨rfl, rfl, rfl⟩ := h
  have H' := Aside0.mk A1
  have H2 := Aside0.mk A2
  have HX1 := Aside0.mk hxs
  have HP := Aside0.mk hpos
  have HL := Aside0.mk hle
  clear A1 A2 hxs hpos hle
  go_enter Tryd.func34, Tryd.ntmps34
  go_wp2_with (first | ((with_reducible refine gate_dst (N := 2) rfl ?_); refine box_event ?hg (N := 2) ?hd (cs := #[.int .i64 0, .slice none 0 0]) (t := 26) ?hr ?_; (case hd => rfl); (case hg => rfl); (case hr => first | (go_simp; done) | (go_simp; rfl)); intro g2 hg w1 hbox hb; have n0_ := Aside0.mk (hbox); have n1_ := Aside0.mk ((by rw [hg]; exact below_size HB.out : w.heap.size ≤ g2)); have n2_ := Aside0.mk (below_step HB.out hb); clear HB; have B2 := n0_; have G2 := n1_; have HB := n2_; clear n0_ n1_ n2_; clear hb hbox hg; have hcz2_0 : w1.cell? ⟨g2, 0, none⟩ = some (.int .i64 0) := (blk_cell B2.out 0).trans rfl; have hfz2_0 := blk_frozen B2.out 0; have hcz2_1 : w1.cell? ⟨g2, 1, none⟩ = some (.slice none 0 0) := (blk_cell B2.out 1).trans rfl; have hfz2_1 := blk_frozen B2.out 1) | ((with_reducible refine gate_dst (N := 13) rfl ?_); refine Kd.R_lit (Kd.int .i64) _ 2 ?hg (N := 13) ?hd (xs := ([] : List Int)) (inner := []) (ok := fun _ => True) (okp := fun _ => True) ?hr ?hp (fun _ hk => hk) trivial (Below.refl _ _) (Nat.le_refl _) (by simp) ?_; (case hd => rfl); (case hg => rfl); (case hr => first | (go_simp; done) | (go_simp; rfl)); (case hp => exact (Reps.none _ _)); intro v13 w2 ho hb hg_ hnew_; clear hg_ hnew_; clear hcz2_0 hfz2_0 hcz2_1 hfz2_1; have n0_ := Aside0.mk (Kd.R_lower ho (below_size HB.out)); have n1_ := Aside0.mk (blk_below B2.out hb); have n2_ := Aside0.mk (below_step HB.out hb); clear B2 HB ho hb; have HX := n0_; have B2 := n1_; have HB := n2_; clear n0_ n1_ n2_; obtain ⟨A, c, e_⟩ := Kd.R_slice HX.out; subst e_) | ((with_reducible refine gate_dst (N := 4) rfl ?_); refine box_event ?hg (N := 4) ?hd (cs := #[.slice none 0 0]) (t := 24) ?hr ?_; (case hd => rfl); (case hg => rfl); (case hr => first | (go_simp; done) | (go_simp; rfl)); intro g4 hg w3 hbox hb; have B4 := Aside0.mk hbox; have G4 := Aside0.mk (by rw [hg]; exact below_size HB.out : w.heap.size ≤ g4); have N24 := Aside0.mk (by rw [hg]; exact Nat.ne_of_lt (blk_lt B2.out) : g2 ≠ g4); have n0_ := Aside0.mk (Kd.R_below HX.out hb); have n1_ := Aside0.mk (blk_below B2.out hb); have n2_ := Aside0.mk (below_step HB.out hb); clear HX B2 HB hb hbox hg; have HX := n0_; have B2 := n1_; have HB := n2_; clear n0_ n1_ n2_; have hcz4_0 : w3.cell? ⟨g4, 0, none⟩ = some (.slice none 0 0) := (blk_cell B4.out 0).trans rfl; have hfz4_0 := blk_frozen B4.out 0) | ((with_reducible refine gate_store (t := 24) (p := 4) rfl ?_); refine store_event (t := 24) (p := 4) (v := .tmp 13) (w1 := (w3.setCell ⟨g4, 0, none⟩ (.slice A ([] : List Int).length c))) rfl rfl rfl ?hr ?_; (case hr => first | (go_simp; done) | (go_simp; rfl)); intro w4 hw; have n0_ := Aside0.mk (by rw [hw]; exact Kd.R_set HX.out B4.out (by decide) 0 _ : Kd.R (Kd.int .i64) 2 w4 w.heap.size (fun _ => True) (.slice A ([] : List Int).length c) _); have n1_ := Aside0.mk (by rw [hw]; exact blk_far B2.out N24.out _ : w4.heap[g2]? = some (.cells #[.int .i64 0, (.slice none 0 0)] 26 (0, 0))); have n2_ := Aside0.mk (by rw [hw]; exact below_set HB.out G4.out : Below w.heap.size w w4); have n3_ := Aside0.mk (by rw [hw]; exact blk_put (cs := #[.slice none 0 0]) B4.out 0 _ rfl : w4.heap[g4]? = some (.cells #[.slice A ([] : List Int).length c] 24 (0, 0))); clear HX B2 HB B4 hw hcz4_0 hfz4_0; have HX := n0_; have B2 := n1_; have HB := n2_; have B4 := n3_; clear n0_ n1_ n2_ n3_))
  go_loopg [18] k (fun kq v18 w' => ∃ (x : Int) (xs : List Int) (A1 : Option Addr) (c1 : Nat), v18 = .int .i64 x ∧ Aside0 (odd_.l0 2 32 kq x xs = some XS) ∧ Aside0 (kq ≤ k) ∧ Aside0 (Kd.R (Kd.int .i64) 2 w' w.heap.size (fun _ => True) (.slice A1 xs.length c1) xs) ∧ Aside0 (w'.heap[g4]? = some (.cells #[.slice A1 xs.length c1] 24 (0, 0))) ∧ Aside0 (w'.heap[g2]? = some (.cells #[.int .i64 0, (.slice none 0 0)] 26 (0, 0))) ∧ Aside0 (Below w.heap.size w w'))
  case atStart => exact ⟨0, [], A, c, rfl, H', ⟨Nat.le_refl _⟩, HX, B4, B2, HB⟩
  case round =>
    clear H' HX B4 B2 HB
    obtain ⟨x, xs, A1, c1, rfl, HA, HK1, HX, B4, B2, HB⟩ := hrel
    cases gk with
    | zero => exact absurd HA.out (by simp [odd_.l0])
    | succ k1_ =>
      have H := HA.out
      clear HA
      rw [odd_.l0.eq_2] at H
      by_cases c10 : x < 32
      · rw [if_pos c10] at H
        have c10b0 : decide (x < 32) = true := decide_eq_true c10
        clear c10
        obtain ⟨s, A3, H⟩ := Option.bind_eq_some_iff.mp H
        have A4 := Aside0.mk A3
        clear A3
        by_cases cs : s = 2
        · subst cs
          rw [if_pos rfl] at H
          split at H
          case isFalse => cases H
          rename_i hm
          have LM := Aside0.mk hm
          clear hm
          have H' := Aside0.mk H
          clear H
          go_wp2_with (first | (go_at_call 70; (refine (impl_size.calls x 2 _ A4.out).mono ?_); rintro e w5 ⟨rfl, hn⟩; have hb := hn.below; clear hn; have n0_ := Aside0.mk (Kd.R_below HX.out hb); have n1_ := Aside0.mk (blk_below B4.out hb); have n2_ := Aside0.mk (blk_below B2.out hb); have n3_ := Aside0.mk (below_step HB.out hb); clear HX B4 B2 HB hb; have HX := n0_; have B4 := n1_; have B2 := n2_; have HB := n3_; clear n0_ n1_ n2_ n3_; have hcz4_0 : w5.cell? ⟨g4, 0, none⟩ = some (.slice A1 xs.length c1) := (blk_cell B4.out 0).trans rfl; have hfz4_0 := blk_frozen B4.out 0) | ((with_reducible refine gate_builtin (b := .append) (xs := #[.tmp 26, .tmp 28]) rfl ?_); at_builtin; refine Kd.R_append (Kd.int .i64) (w0 := w) (W := w5) w.heap.size rfl (.tmp 26) (.tmp 28) 24 2 (.int .i64 0) 8 rfl Tryd.underlying24 info2 rfl (by decide) (by omega) (.slice A1 xs.length c1) xs x [.int .i64 x] (fun _ => True) (fun _ => False) rfl rfl ?aP (fun _ hk => hk.elim) ?aF ?aO ?aB ?aS ?aL ?_; (case aP => exact rfl); (case aB => exact HB.out); (case aF => exact (fun _ _ => trivial)); (case aO => exact HX.out); (case aS => exact (below_size HB.out)); (case aL => have := LM.out; omega); intro v29 w6 ho hb hg hat; have n0_ := Aside0.mk ho; have n1_ := Aside0.mk (blk_grown B4.out hg (Kd.R_ne HX.out B4.out (by decide))); have n2_ := Aside0.mk (blk_grown B2.out hg (Kd.R_ne HX.out B2.out (by decide))); have n3_ := Aside0.mk hb; clear HX B4 B2 HB ho hb hg hat hcz4_0 hfz4_0; have HX := n0_; have B4 := n1_; have B2 := n2_; have HB := n3_; clear n0_ n1_ n2_ n3_; have hcz4_0 : w6.cell? ⟨g4, 0, none⟩ = some (.slice A1 xs.length c1) := (blk_cell B4.out 0).trans rfl; have hfz4_0 := blk_frozen B4.out 0; obtain ⟨A7, c7, e7⟩ := Kd.R_slice HX.out; subst e7) | ((with_reducible refine gate_store (t := 24) (p := 4) rfl ?_); refine store_event (t := 24) (p := 4) (v := .tmp 29) (w1 := (w6.setCell ⟨g4, 0, none⟩ (.slice A7 (xs ++ [x]).length c7))) rfl rfl rfl ?hr ?_; (case hr => first | (go_simp; done) | (go_simp; rfl)); intro w7 hw; have n0_ := Aside0.mk (by rw [hw]; exact Kd.R_set HX.out B4.out (by decide) 0 _ : Kd.R (Kd.int .i64) 2 w7 w.heap.size (fun _ => True) (.slice A7 (xs ++ [x]).length c7) _); have n1_ := Aside0.mk (by rw [hw]; exact blk_far B2.out N24.out _ : w7.heap[g2]? = some (.cells #[.int .i64 0, (.slice none 0 0)] 26 (0, 0))); have n2_ := Aside0.mk (by rw [hw]; exact below_set HB.out G4.out : Below w.heap.size w w7); have n3_ := Aside0.mk (by rw [hw]; exact blk_put (cs := #[.slice A1 xs.length c1]) B4.out 0 _ rfl : w7.heap[g4]? = some (.cells #[.slice A7 (xs ++ [x]).length c7] 24 (0, 0))); clear HX B2 HB B4 hw hcz4_0 hfz4_0; have HX := n0_; have B2 := n1_; have HB := n2_; have B4 := n3_; clear n0_ n1_ n2_ n3_))
          go_roundg k1_
          case measure => have := HK1.out; omega
          case rel => exact ⟨_, (xs ++ [x]), A7, c7, (by first | rfl | (simp; done)), H', ⟨by have := HK1.out; omega⟩, HX, B4, B2, HB⟩
        · rw [if_neg cs] at H
          have csb : (s == 2) = false := beq_eq_false_iff_ne.mpr cs
          have H' := Aside0.mk H
          clear H cs
          go_wp2_with (first | (go_at_call 70; (refine (impl_size.calls x s _ A4.out).mono ?_); rintro e w5 ⟨rfl, hn⟩; have hb := hn.below; clear hn; have n0_ := Aside0.mk (Kd.R_below HX.out hb); have n1_ := Aside0.mk (blk_below B4.out hb); have n2_ := Aside0.mk (blk_below B2.out hb); have n3_ := Aside0.mk (below_step HB.out hb); clear HX B4 B2 HB hb; have HX := n0_; have B4 := n1_; have B2 := n2_; have HB := n3_; clear n0_ n1_ n2_ n3_; have hcz4_0 : w5.cell? ⟨g4, 0, none⟩ = some (.slice A1 xs.length c1) := (blk_cell B4.out 0).trans rfl; have hfz4_0 := blk_frozen B4.out 0))
          go_roundg k1_
          case measure => have := HK1.out; omega
          case rel => exact ⟨_, xs, A1, c1, (by first | rfl | (simp; done)), H', ⟨by have := HK1.out; omega⟩, HX, B4, B2, HB⟩
      · rw [if_neg c10] at H
        have c10b0 : decide (x < 32) = false := decide_eq_false c10
        clear c10
        obtain rfl := Option.some.inj H
        clear H
        have hcz4_0 : wr.cell? ⟨g4, 0, none⟩ = some (.slice A1 xs.length c1) := (blk_cell B4.out 0).trans rfl
        have hfz4_0 := blk_frozen B4.out 0
        obtain ⟨ys, hys⟩ : ∃ ys : List Int, ys = toI (srtO (toF xs)) := ⟨_, rfl⟩
        have HY := Aside0.mk hys
        have YL := Aside0.mk (show ys.length = xs.length by rw [hys]; unfold toI; rw [List.length_map, (srtO_perm (toF xs)).length_eq]; simp [toF])
        clear hys
        have FL := Aside0.mk (show (toF xs).length = xs.length by simp [toF])
        go_wp2_with (first | ((with_reducible refine gate_callee (f := 71) rfl ?_); refine goesL_ (some 32) rfl rfl Tryd.func71 (by kernel_rfl) rfl #[.slice A1 xs.length c1, .func (.func 72) #[] #[]] rfl (by (try simp only [List.map_toArray, List.map_cons, List.map_nil]); first | done | rfl) ?_; (refine (odd_sort (w0 := w) (.slice A1 xs.length c1) (toF xs) HB.out HT.out (by rw [HX1.out]; exact HX.out) (by rw [FL.out]; exact HP.out) (by rw [FL.out]; exact HL.out)).mono ?_); rintro e w5 ⟨rfl, ho, hb, hkp⟩; refine ⟨_, rfl, ?_⟩; rw [← HY.out] at ho; have n0_ := Aside0.mk ho; have n1_ := Aside0.mk (blk_kept (o := .cells #[_] _ (0, 0)) B4.out hkp (fun hs_ => Kd.R_ne HX.out B4.out (by decide) hs_)); have n2_ := Aside0.mk (blk_kept (o := .cells #[_, _] _ (0, 0)) B2.out hkp (fun hs_ => Kd.R_ne HX.out B2.out (by decide) hs_)); have n3_ := Aside0.mk hb; clear HX B4 B2 HB ho hb hkp hcz4_0 hfz4_0; have HX := n0_; have B4 := n1_; have B2 := n2_; have HB := n3_; clear n0_ n1_ n2_ n3_; have hcz4_0 : w5.cell? ⟨g4, 0, none⟩ = some (.slice A1 xs.length c1) := (blk_cell B4.out 0).trans rfl; have hfz4_0 := blk_frozen B4.out 0) | ((with_reducible refine gate_callee (f := 75) rfl ?_); refine goesL_ (some 36) rfl rfl Tryd.func75 (by kernel_rfl) rfl #[.int .i64 (xs.length : Int), .func (.func 76) #[] #[.pointer (some ⟨g4, 0, none⟩)]] rfl (by (try simp only [List.map_toArray, List.map_cons, List.map_nil]); first | done | rfl) ?_; (refine (made_.calls 76 _ Tryd.func76 rfl rfl (odd_is ys) k (xs.length : Int) t1 t2 (.pointer (some ⟨g4, 0, none⟩)) _ ?side1 (by rw [HY.out]; exact H2.out)).mono ?_); (case side1 => exact fun a b r W hW h_ => odd_calls ys g4 A1 c1 a b r W (by rw [YL.out]; exact blk_below B4.out hW) (Kd.C_below (Kd.R_reads' HX.out).2.2 hW) h_); rintro e w9 ⟨v9, rfl, ho, hb⟩; refine ⟨_, rfl, ?_⟩; have n0_ := Aside0.mk (Kd.R_lower ho (below_size HB.out)); have n1_ := Aside0.mk (blk_below B2.out hb); have n2_ := Aside0.mk (below_step HB.out hb); clear HX B2 HB B4 ho hb hcz4_0 hfz4_0; have HX := n0_; have B2 := n1_; have HB := n2_; clear n0_ n1_ n2_; obtain ⟨A9, c9, e9⟩ := Kd.R_slice HX.out; subst e9; have hcz2_0 : w9.cell? ⟨g2, 0, none⟩ = some (.int .i64 0) := (blk_cell B2.out 0).trans rfl; have hcz2_1 : w9.cell? ⟨g2, 1, none⟩ = some (.slice none 0 0) := (blk_cell B2.out 1).trans rfl; have hfz2_0 := blk_frozen B2.out 0; have hfz2_1 := blk_frozen B2.out 1))
        refine bodyPost_ret (results_ct rfl _ _ g2 26 #[.int .i64 t1, .slice A9 t2.length c9] (0, 0) _ rfl (by refine blk_put (cs := #[.int .i64 t1, .slice none 0 0]) ?_ 1 _ rfl; refine blk_put (cs := #[.int .i64 0, .slice none 0 0]) ?_ 0 _ rfl; exact B2.out) Tryd.underlying26 rfl (by kernel_rfl)) rfl ?_
        exact ⟨_, rfl, Kd.R_mono (Kd.R_far (p := ⟨g2, 1, none⟩) (Kd.R_far (p := ⟨g2, 0, none⟩) (Kd.R_types HX.out B2.out (by decide)) (fun _ hk => hk.2) (.int .i64 t1)) (fun _ hk => hk.2) (.slice A9 t2.length c9)) (fun _ _ => trivial), below_set (below_set HB.out G2.out) G2.out⟩
set_option maxHeartbeats 8000000 in
set_option maxRecDepth 100000 in
theorem odd_way4 (k : Nat) (r1 : Int) (r2 : List Int) (r3 : Int) (w : World) (ht : Tab w) (h : odd_.g 3 128 k = some (r1, r2, r3)) : Calls Tryd.prog 34 #[.int .i64 4] w fun e w' => ∃ v1_ : Value, e = .returned (.tuple #[.agg #[.int .i64 r1, v1_], .int .i64 r3]) ∧ Kd.R (Kd.int .i64) 2 w' w.heap.size (fun _ => True) v1_ r2 ∧ Below w.heap.size w w' := by
  have hu34 := Tryd.underlying26
  have HB := Aside0.mk (Below.refl w.heap.size w)
  have HT := Aside0.mk ht
  clear ht
  unfold odd_.g at h
  obtain ⟨XS, A1, h⟩ := Option.bind_eq_some_iff.mp h
  split at h
  case isFalse => cases h
  rename_i hxs
  split at h
  case isFalse => cases h
  rename_i hpos
  split at h
  case isFalse => cases h
  rename_i hle
  obtain ⟨⟨t1, t2⟩, A2, h⟩ := Option.bind_eq_some_iff.mp h
  simp only [Option.some.injEq, Prod.mk.injEq] at h
  obtain ⟨rfl, rfl, rfl⟩ := h
  have H' := Aside0.mk A1
  have H2 := Aside0.mk A2
  have HX1 := Aside0.mk hxs
  have HP := Aside0.mk hpos
  have HL := Aside0.mk hle
  clear A1 A2 hxs hpos hle
  go_enter Tryd.func34, Tryd.ntmps34
  go_wp2_with (first | ((with_reducible refine gate_dst (N := 2) rfl ?_); refine box_event ?hg (N := 2) ?hd (cs := #[.int .i64 0, .slice none 0 0]) (t := 26) ?hr ?_; (case hd => rfl); (case hg => rfl); (case hr => first | (go_simp; done) | (go_simp; rfl)); intro g2 hg w1 hbox hb; have n0_ := Aside0.mk (hbox); have n1_ := Aside0.mk ((by rw [hg]; exact below_size HB.out : w.heap.size ≤ g2)); have n2_ := Aside0.mk (below_step HB.out hb); clear HB; have B2 := n0_; have G2 := n1_; have HB := n2_; clear n0_ n1_ n2_; clear hb hbox hg; have hcz2_0 : w1.cell? ⟨g2, 0, none⟩ = some (.int .i64 0) := (blk_cell B2.out 0).trans rfl; have hfz2_0 := blk_frozen B2.out 0; have hcz2_1 : w1.cell? ⟨g2, 1, none⟩ = some (.slice none 0 0) := (blk_cell B2.out 1).trans rfl; have hfz2_1 := blk_frozen B2.out 1) | ((with_reducible refine gate_dst (N := 13) rfl ?_); refine Kd.R_lit (Kd.int .i64) _ 2 ?hg (N := 13) ?hd (xs := ([] : List Int)) (inner := []) (ok := fun _ => True) (okp := fun _ => True) ?hr ?hp (fun _ hk => hk) trivial (Below.refl _ _) (Nat.le_refl _) (by simp) ?_; (case hd => rfl); (case hg => rfl); (case hr => first | (go_simp; done) | (go_simp; rfl)); (case hp => exact (Reps.none _ _)); intro v13 w2 ho hb hg_ hnew_; clear hg_ hnew_; clear hcz2_0 hfz2_0 hcz2_1 hfz2_1; have n0_ := Aside0.mk (Kd.R_lower ho (below_size HB.out)); have n1_ := Aside0.mk (blk_below B2.out hb); have n2_ := Aside0.mk (below_step HB.out hb); clear B2 HB ho hb; have HX := n0_; have B2 := n1_; have HB := n2_; clear n0_ n1_ n2_; obtain ⟨A, c, e_⟩ := Kd.R_slice HX.out; subst e_) | ((with_reducible refine gate_dst (N := 4) rfl ?_); refine box_event ?hg (N := 4) ?hd (cs := #[.slice none 0 0]) (t := 24) ?hr ?_; (case hd => rfl); (case hg => rfl); (case hr => first | (go_simp; done) | (go_simp; rfl)); intro g4 hg w3 hbox hb; have B4 := Aside0.mk hbox; have G4 := Aside0.mk (by rw [hg]; exact below_size HB.out : w.heap.size ≤ g4); have N24 := Aside0.mk (by rw [hg]; exact Nat.ne_of_lt (blk_lt B2.out) : g2 ≠ g4); have n0_ := Aside0.mk (Kd.R_below HX.out hb); have n1_ := Aside0.mk (blk_below B2.out hb); have n2_ := Aside0.mk (below_step HB.out hb); clear HX B2 HB hb hbox hg; have HX := n0_; have B2 := n1_; have HB := n2_; clear n0_ n1_ n2_; have hcz4_0 : w3.cell? ⟨g4, 0, none⟩ = some (.slice none 0 0) := (blk_cell B4.out 0).trans rfl; have hfz4_0 := blk_frozen B4.out 0) | ((with_reducible refine gate_store (t := 24) (p := 4) rfl ?_); refine store_event (t := 24) (p := 4) (v := .tmp 13) (w1 := (w3.setCell ⟨g4, 0, none⟩ (.slice A ([] : List Int).length c))) rfl rfl rfl ?hr ?_; (case hr => first | (go_simp; done) | (go_simp; rfl)); intro w4 hw; have n0_ := Aside0.mk (by rw [hw]; exact Kd.R_set HX.out B4.out (by decide) 0 _ : Kd.R (Kd.int .i64) 2 w4 w.heap.size (fun _ => True) (.slice A ([] : List Int).length c) _); have n1_ := Aside0.mk (by rw [hw]; exact blk_far B2.out N24.out _ : w4.heap[g2]? = some (.cells #[.int .i64 0, (.slice none 0 0)] 26 (0, 0))); have n2_ := Aside0.mk (by rw [hw]; exact below_set HB.out G4.out : Below w.heap.size w w4); have n3_ := Aside0.mk (by rw [hw]; exact blk_put (cs := #[.slice none 0 0]) B4.out 0 _ rfl : w4.heap[g4]? = some (.cells #[.slice A ([] : List Int).length c] 24 (0, 0))); clear HX B2 HB B4 hw hcz4_0 hfz4_0; have HX := n0_; have B2 := n1_; have HB := n2_; have B4 := n3_; clear n0_ n1_ n2_ n3_))
  go_loopg [18] k (fun kq v18 w' => ∃ (x : Int) (xs : List Int) (A1 : Option Addr) (c1 : Nat), v18 = .int .i64 x ∧ Aside0 (odd_.l0 3 128 kq x xs = some XS) ∧ Aside0 (kq ≤ k) ∧ Aside0 (Kd.R (Kd.int .i64) 2 w' w.heap.size (fun _ => True) (.slice A1 xs.length c1) xs) ∧ Aside0 (w'.heap[g4]? = some (.cells #[.slice A1 xs.length c1] 24 (0, 0))) ∧ Aside0 (w'.heap[g2]? = some (.cells #[.int .i64 0, (.slice none 0 0)] 26 (0, 0))) ∧ Aside0 (Below w.heap.size w w'))
  case atStart => exact ⟨0, [], A, c, rfl, H', ⟨Nat.le_refl _⟩, HX, B4, B2, HB⟩
  case round =>
    clear H' HX B4 B2 HB
    obtain ⟨x, xs, A1, c1, rfl, HA, HK1, HX, B4, B2, HB⟩ := hrel
    cases gk with
    | zero => exact absurd HA.out (by simp [odd_.l0])
    | succ k1_ =>
      have H := HA.out
      clear HA
      rw [odd_.l0.eq_2] at H
      by_cases c10 : x < 128
      · rw [if_pos c10] at H
        have c10b0 : decide (x < 128) = true := decide_eq_true c10
        clear c10
        obtain ⟨s, A3, H⟩ := Option.bind_eq_some_iff.mp H
        have A4 := Aside0.mk A3
        clear A3
        by_cases cs : s = 3
        · subst cs
          rw [if_pos rfl] at H
          split at H
          case isFalse => cases H
          rename_i hm
          have LM := Aside0.mk hm
          clear hm
          have H' := Aside0.mk H
          clear H
          go_wp2_with (first | (go_at_call 70; (refine (impl_size.calls x 3 _ A4.out).mono ?_); rintro e w5 ⟨rfl, hn⟩; have hb := hn.below; clear hn; have n0_ := Aside0.mk (Kd.R_below HX.out hb); have n1_ := Aside0.mk (blk_below B4.out hb); have n2_ := Aside0.mk (blk_below B2.out hb); have n3_ := Aside0.mk (below_step HB.out hb); clear HX B4 B2 HB hb; have HX := n0_; have B4 := n1_; have B2 := n2_; have HB := n3_; clear n0_ n1_ n2_ n3_; have hcz4_0 : w5.cell? ⟨g4, 0, none⟩ = some (.slice A1 xs.length c1) := (blk_cell B4.out 0).trans rfl; have hfz4_0 := blk_frozen B4.out 0) | ((with_reducible refine gate_builtin (b := .append) (xs := #[.tmp 26, .tmp 28]) rfl ?_); at_builtin; refine Kd.R_append (Kd.int .i64) (w0 := w) (W := w5) w.heap.size rfl (.tmp 26) (.tmp 28) 24 2 (.int .i64 0) 8 rfl Tryd.underlying24 info2 rfl (by decide) (by omega) (.slice A1 xs.length c1) xs x [.int .i64 x] (fun _ => True) (fun _ => False) rfl rfl ?aP (fun _ hk => hk.elim) ?aF ?aO ?aB ?aS ?aL ?_; (case aP => exact rfl); (case aB => exact HB.out); (case aF => exact (fun _ _ => trivial)); (case aO => exact HX.out); (case aS => exact (below_size HB.out)); (case aL => have := LM.out; omega); intro v29 w6 ho hb hg hat; have n0_ := Aside0.mk ho; have n1_ := Aside0.mk (blk_grown B4.out hg (Kd.R_ne HX.out B4.out (by decide))); have n2_ := Aside0.mk (blk_grown B2.out hg (Kd.R_ne HX.out B2.out (by decide))); have n3_ := Aside0.mk hb; clear HX B4 B2 HB ho hb hg hat hcz4_0 hfz4_0; have HX := n0_; have B4 := n1_; have B2 := n2_; have HB := n3_; clear n0_ n1_ n2_ n3_; have hcz4_0 : w6.cell? ⟨g4, 0, none⟩ = some (.slice A1 xs.length c1) := (blk_cell B4.out 0).trans rfl; have hfz4_0 := blk_frozen B4.out 0; obtain ⟨A7, c7, e7⟩ := Kd.R_slice HX.out; subst e7) | ((with_reducible refine gate_store (t := 24) (p := 4) rfl ?_); refine store_event (t := 24) (p := 4) (v := .tmp 29) (w1 := (w6.setCell ⟨g4, 0, none⟩ (.slice A7 (xs ++ [x]).length c7))) rfl rfl rfl ?hr ?_; (case hr => first | (go_simp; done) | (go_simp; rfl)); intro w7 hw; have n0_ := Aside0.mk (by rw [hw]; exact Kd.R_set HX.out B4.out (by decide) 0 _ : Kd.R (Kd.int .i64) 2 w7 w.heap.size (fun _ => True) (.slice A7 (xs ++ [x]).length c7) _); have n1_ := Aside0.mk (by rw [hw]; exact blk_far B2.out N24.out _ : w7.heap[g2]? = some (.cells #[.int .i64 0, (.slice none 0 0)] 26 (0, 0))); have n2_ := Aside0.mk (by rw [hw]; exact below_set HB.out G4.out : Below w.heap.size w w7); have n3_ := Aside0.mk (by rw [hw]; exact blk_put (cs := #[.slice A1 xs.length c1]) B4.out 0 _ rfl : w7.heap[g4]? = some (.cells #[.slice A7 (xs ++ [x]).length c7] 24 (0, 0))); clear HX B2 HB B4 hw hcz4_0 hfz4_0; have HX := n0_; have B2 := n1_; have HB := n2_; have B4 := n3_; clear n0_ n1_ n2_ n3_))
          go_roundg k1_
          case measure => have := HK1.out; omega
          case rel => exact ⟨_, (xs ++ [x]), A7, c7, (by first | rfl | (simp; done)), H', ⟨by have := HK1.out; omega⟩, HX, B4, B2, HB⟩
        · rw [if_neg cs] at H
          have csb : (s == 3) = false := beq_eq_false_iff_ne.mpr cs
          have H' := Aside0.mk H
          clear H cs
          go_wp2_with (first | (go_at_call 70; (refine (impl_size.calls x s _ A4.out).mono ?_); rintro e w5 ⟨rfl, hn⟩; have hb := hn.below; clear hn; have n0_ := Aside0.mk (Kd.R_below HX.out hb); have n1_ := Aside0.mk (blk_below B4.out hb); have n2_ := Aside0.mk (blk_below B2.out hb); have n3_ := Aside0.mk (below_step HB.out hb); clear HX B4 B2 HB hb; have HX := n0_; have B4 := n1_; have B2 := n2_; have HB := n3_; clear n0_ n1_ n2_ n3_; have hcz4_0 : w5.cell? ⟨g4, 0, none⟩ = some (.slice A1 xs.length c1) := (blk_cell B4.out 0).trans rfl; have hfz4_0 := blk_frozen B4.out 0))
          go_roundg k1_
          case measure => have := HK1.out; omega
          case rel => exact ⟨_, xs, A1, c1, (by first | rfl | (simp; done)), H', ⟨by have := HK1.out; omega⟩, HX, B4, B2, HB⟩
      · rw [if_neg c10] at H
        have c10b0 : decide (x < 128) = false := decide_eq_false c10
        clear c10
        obtain rfl := Option.some.inj H
        clear H
        have hcz4_0 : wr.cell? ⟨g4, 0, none⟩ = some (.slice A1 xs.length c1) := (blk_cell B4.out 0).trans rfl
        have hfz4_0 := blk_frozen B4.out 0
        obtain ⟨ys, hys⟩ : ∃ ys : List Int, ys = toI (srtO (toF xs)) := ⟨_, rfl⟩
        have HY := Aside0.mk hys
        have YL := Aside0.mk (show ys.length = xs.length by rw [hys]; unfold toI; rw [List.length_map, (srtO_perm (toF xs)).length_eq]; simp [toF])
        clear hys
        have FL := Aside0.mk (show (toF xs).length = xs.length by simp [toF])
        go_wp2_with (first | ((with_reducible refine gate_callee (f := 71) rfl ?_); refine goesL_ (some 32) rfl rfl Tryd.func71 (by kernel_rfl) rfl #[.slice A1 xs.length c1, .func (.func 72) #[] #[]] rfl (by (try simp only [List.map_toArray, List.map_cons, List.map_nil]); first | done | rfl) ?_; (refine (odd_sort (w0 := w) (.slice A1 xs.length c1) (toF xs) HB.out HT.out (by rw [HX1.out]; exact HX.out) (by rw [FL.out]; exact HP.out) (by rw [FL.out]; exact HL.out)).mono ?_); rintro e w5 ⟨rfl, ho, hb, hkp⟩; refine ⟨_, rfl, ?_⟩; rw [← HY.out] at ho; have n0_ := Aside0.mk ho; have n1_ := Aside0.mk (blk_kept (o := .cells #[_] _ (0, 0)) B4.out hkp (fun hs_ => Kd.R_ne HX.out B4.out (by decide) hs_)); have n2_ := Aside0.mk (blk_kept (o := .cells #[_, _] _ (0, 0)) B2.out hkp (fun hs_ => Kd.R_ne HX.out B2.out (by decide) hs_)); have n3_ := Aside0.mk hb; clear HX B4 B2 HB ho hb hkp hcz4_0 hfz4_0; have HX := n0_; have B4 := n1_; have B2 := n2_; have HB := n3_; clear n0_ n1_ n2_ n3_; have hcz4_0 : w5.cell? ⟨g4, 0, none⟩ = some (.slice A1 xs.length c1) := (blk_cell B4.out 0).trans rfl; have hfz4_0 := blk_frozen B4.out 0) | ((with_reducible refine gate_callee (f := 75) rfl ?_); refine goesL_ (some 36) rfl rfl Tryd.func75 (by kernel_rfl) rfl #[.int .i64 (xs.length : Int), .func (.func 76) #[] #[.pointer (some ⟨g4, 0, none⟩)]] rfl (by (try simp only [List.map_toArray, List.map_cons, List.map_nil]); first | done | rfl) ?_; (refine (made_.calls 76 _ Tryd.func76 rfl rfl (odd_is ys) k (xs.length : Int) t1 t2 (.pointer (some ⟨g4, 0, none⟩)) _ ?side1 (by rw [HY.out]; exact H2.out)).mono ?_); (case side1 => exact fun a b r W hW h_ => odd_calls ys g4 A1 c1 a b r W (by rw [YL.out]; exact blk_below B4.out hW) (Kd.C_below (Kd.R_reads' HX.out).2.2 hW) h_); rintro e w9 ⟨v9, rfl, ho, hb⟩; refine ⟨_, rfl, ?_⟩; have n0_ := Aside0.mk (Kd.R_lower ho (below_size HB.out)); have n1_ := Aside0.mk (blk_below B2.out hb); have n2_ := Aside0.mk (below_step HB.out hb); clear HX B2 HB B4 ho hb hcz4_0 hfz4_0; have HX := n0_; have B2 := n1_; have HB := n2_; clear n0_ n1_ n2_; obtain ⟨A9, c9, e9⟩ := Kd.R_slice HX.out; subst e9; have hcz2_0 : w9.cell? ⟨g2, 0, none⟩ = some (.int .i64 0) := (blk_cell B2.out 0).trans rfl; have hcz2_1 : w9.cell? ⟨g2, 1, none⟩ = some (.slice none 0 0) := (blk_cell B2.out 1).trans rfl; have hfz2_0 := blk_frozen B2.out 0; have hfz2_1 := blk_frozen B2.out 1))
        refine bodyPost_ret (results_ct rfl _ _ g2 26 #[.int .i64 t1, .slice A9 t2.length c9] (0, 0) _ rfl (by refine blk_put (cs := #[.int .i64 t1, .slice none 0 0]) ?_ 1 _ rfl; refine blk_put (cs := #[.int .i64 0, .slice none 0 0]) ?_ 0 _ rfl; exact B2.out) Tryd.underlying26 rfl (by kernel_rfl)) rfl ?_
        exact ⟨_, rfl, Kd.R_mono (Kd.R_far (p := ⟨g2, 1, none⟩) (Kd.R_far (p := ⟨g2, 0, none⟩) (Kd.R_types HX.out B2.out (by decide)) (fun _ hk => hk.2) (.int .i64 t1)) (fun _ hk => hk.2) (.slice A9 t2.length c9)) (fun _ _ => trivial), below_set (below_set HB.out G2.out) G2.out⟩
theorem impl_OddGraph.calls (k : Nat) (a0 : Int) (r1 : Int) (r2 : List Int) (r3 : Int) (w : World) (ht : Tab w) (h : impl_OddGraph.f k a0 = some (r1, r2, r3)) :
    Calls Tryd.prog 34 #[.int .i64 a0] w fun e w' => ∃ v1_ : Value, e = .returned (.tuple #[.agg #[.int .i64 r1, v1_], .int .i64 r3]) ∧ Kd.R (Kd.int .i64) 2 w' w.heap.size (fun _ => True) v1_ r2 ∧ Below w.heap.size w w' := by
  unfold impl_OddGraph.f at h
  have z : ∀ (_ : a0 < 2 ∨ 4 < a0) (_ : (0, ([] : List Int), (2 : Int)) = (r1, r2, r3)), Calls Tryd.prog 34 #[.int .i64 a0] w fun e w' => ∃ v1_ : Value, e = .returned (.tuple #[.agg #[.int .i64 r1, v1_], .int .i64 r3]) ∧ Kd.R (Kd.int .i64) 2 w' w.heap.size (fun _ => True) v1_ r2 ∧ Below w.heap.size w w' := by
    intro h1 h2
    simp only [Prod.mk.injEq] at h2
    obtain ⟨rfl, rfl, rfl⟩ := h2
    refine (odd_zero a0 w h1).mono ?_
    rintro e w' ⟨rfl, hb⟩
    exact ⟨_, rfl, Kd.R_nil _ _ _ _ _, hb⟩
  split at h
  · exact z (by omega) (Option.some.inj h)
  split at h
  · exact z (by omega) (Option.some.inj h)
  split at h
  · rename_i e; subst e; exact odd_way2 k r1 r2 r3 w ht h
  split at h
  · rename_i e; subst e; exact odd_way3 k r1 r2 r3 w ht h
  · have e : a0 = 4 := by omega
    subst e; exact odd_way4 k r1 r2 r3 w ht h

end Go.Proofs.YtockngphfpedkaaDoor.XFnExactOddGraph
