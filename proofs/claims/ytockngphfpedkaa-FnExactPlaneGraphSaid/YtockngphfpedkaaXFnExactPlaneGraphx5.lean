-- Written by this project's own program (mprint.py) by means of the kit's printer: with contracts of its own for the functions that the printer leaves out.
import Derived.Test.YtockngphfpedkaaXFnExactPlaneGraphx0
import Derived.Test.YtockngphfpedkaaXFnExactPlaneGraphx1
import Derived.Test.YtockngphfpedkaaXFnExactPlaneGraphx3
import Derived.Test.YtockngphfpedkaaXFnExactPlaneGraphx4
namespace Go.Proofs.Ytockngphfpedkaa.XFnExactPlaneGraph
open Go.RowKit Go.Proofs.YtockngphfpedkaaW.PrintWords Go.Proofs.YtockngphfpedkaaW.PrintLast Go.Proofs.YtockngphfpedkaaW.PrintMore
attribute [local go_sem] max2_int min2_int max_two min_two max_three min_three max_four min_four   -- for this text's walks alone
set_option linter.unusedVariables false
set_option linter.unusedSimpArgs false

/-! ### impl.made: by hand (it calls what it is handed) -/
def made_.l1 (is : Int → Int → Option Bool) (n a : Int) : Nat → Int → List Int → Option (List Int)
  | 0, _, _ => none
  | k + 1, b, rows => if b < n then ((is a b).bind fun t => if t = true then ((impl_Graph_put.f n rows a b).bind fun r => made_.l1 is n a k (wrap64 (b + 1)) r) else made_.l1 is n a k (wrap64 (b + 1)) rows) else some rows
def made_.l0 (is : Int → Int → Option Bool) (n : Int) : Nat → Int → List Int → Option (List Int)
  | 0, _, _ => none
  | k + 1, a, rows => if a < n then ((made_.l1 is n a k (wrap64 (a + 1)) rows).bind fun r => made_.l0 is n k (wrap64 (a + 1)) r) else some rows
def made_.f (is : Int → Int → Option Bool) (k : Nat) (n : Int) : Option (Int × List Int) := (impl_empty.f n).bind fun e => (made_.l0 is e.1 k 0 e.2).bind fun r => some (e.1, r)
theorem made_.mono1 (is : Int → Int → Option Bool) (n a : Int) : ∀ k, ∀ y0 y1, LeO (made_.l1 is n a k y0 y1) (made_.l1 is n a (k + 1) y0 y1)
  | 0 => fun _ _ r h => by simp [made_.l1] at h
  | k + 1 => by
    have ih0 := made_.mono1 is n a k
    intro y0 y1
    rw [made_.l1.eq_2, made_.l1.eq_2]
    repeat' first
      | (with_reducible exact ih0 _ _)
      | (with_reducible exact LeO.refl _)
      | (with_reducible refine LeO.ite ?_ ?_)
      | (with_reducible refine LeO.bind ?_ (fun _ => ?_))
      | exact ih0 _ _
      | refine LeO.ite ?_ ?_
      | refine LeO.bind ?_ (fun _ => ?_)
theorem made_.mono0 (is : Int → Int → Option Bool) (n : Int) : ∀ k, ∀ y0 y1, LeO (made_.l0 is n k y0 y1) (made_.l0 is n (k + 1) y0 y1)
  | 0 => fun _ _ r h => by simp [made_.l0] at h
  | k + 1 => by
    have ih0 := made_.mono0 is n k
    intro y0 y1
    rw [made_.l0.eq_2, made_.l0.eq_2]
    repeat' first
      | (with_reducible exact ih0 _ _)
      | (with_reducible exact made_.mono1 is n _ _ _ _)
      | (with_reducible exact LeO.refl _)
      | (with_reducible refine LeO.ite ?_ ?_)
      | (with_reducible refine LeO.bind ?_ (fun _ => ?_))
      | exact ih0 _ _
      | exact made_.mono1 is n _ _ _ _
      | refine LeO.ite ?_ ?_
      | refine LeO.bind ?_ (fun _ => ?_)
theorem made_.mono (is : Int → Int → Option Bool) : ∀ a0 k, LeO (made_.f is k a0) (made_.f is (k + 1) a0) := by
  intro a0 k
  unfold made_.f
  repeat' first
      | (with_reducible exact made_.mono0 is _ _ _ _)
      | (with_reducible exact LeO.refl _)
      | (with_reducible refine LeO.bind ?_ (fun _ => ?_))
      | exact made_.mono0 is _ _ _ _
      | refine LeO.bind ?_ (fun _ => ?_)
set_option maxHeartbeats 8000000 in
set_option maxRecDepth 100000 in
theorem made_.calls (F1 : FuncId) (fn1 : Func) (hf1 : Try.prog.funcs[F1]? = some fn1) (hn1 : (fn1.name == "runtime.NumGoroutine") = false) (hb1 : fn1.body.isSome = true) (is : Int → Int → Option Bool) (k : Nat) (n : Int) (r1 : Int) (r2 : List Int) (b0_ b1_ b2_ : Value) (w : World) (hcall : ∀ (a b : Int) (r : Bool) (W : World), Below w.heap.size w W → is a b = some r → Calls Try.prog F1 #[.int .i64 a, .int .i64 b, b0_, b1_, b2_] W fun e w' => e = .returned (.bool r) ∧ Below W.heap.size W w') (h : made_.f is k n = some (r1, r2)) :
    Calls Try.prog 38 #[.int .i64 n, .func (.func F1) #[] #[b0_, b1_, b2_]] w fun e w' => ∃ v1_ : Value, e = .returned (.agg #[.int .i64 r1, v1_]) ∧ Kd.R (Kd.int .i64) 2 w' w.heap.size (fun _ => True) v1_ r2 ∧ Below w.heap.size w w' := by
  have hu34 := Try.underlying34
  have HB := Aside0.mk (Below.refl w.heap.size w)
  have HC := Aside0.mk hcall
  clear hcall
  unfold made_.f at h
  obtain ⟨⟨t1, t2⟩, A1, h⟩ := Option.bind_eq_some_iff.mp h
  obtain ⟨R, A2, h⟩ := Option.bind_eq_some_iff.mp h
  simp only [Option.some.injEq, Prod.mk.injEq] at h
  obtain ⟨rfl, rfl⟩ := h
  have tn : t1 = n := by
    unfold impl_empty.f at A1
    repeat' (split at A1)
    all_goals first | (cases A1; done) | (simp only [Option.some.injEq, Prod.mk.injEq] at A1; exact A1.1.symm)
  subst tn
  have A3 := Aside0.mk A1
  have H' := Aside0.mk (show made_.l0 is t1 k 0 t2 = some R from A2)
  clear A1 A2
  go_enter Try.func38, Try.ntmps38
  go_wp2_with (first
    | ((with_reducible refine gate_dst (N := 4) rfl ?_); refine box_event ?hg (N := 4) ?hd (cs := #[.int .i64 0, .slice none 0 0]) (t := 34) ?hr ?_; (case hd => rfl); (case hg => rfl); (case hr => first | (go_simp; done) | (go_simp; rfl)); intro g4 hg w4 hbox hb; have n0_ := Aside0.mk (below_step HB.out hb); have B4 := Aside0.mk hbox; have G4 := Aside0.mk (by rw [hg]; exact below_size HB.out : w.heap.size ≤ g4); clear HB; have HB := n0_; clear n0_ hb hbox hg)
    | ((with_reducible refine gate_callee (f := 48) rfl ?_); refine goesL_ (some 9) rfl rfl Try.func48 (by kernel_rfl) rfl #[.int .i64 t1] rfl (by (try simp only [List.map_toArray, List.map_cons, List.map_nil]); first | done | rfl) ?_; (with_reducible refine (impl_empty.calls t1 t1 t2 _ A3.out).mono ?_); rintro e w5 ⟨v5, rfl, ho0, hb⟩; refine ⟨_, rfl, ?_⟩; have n0_ := Aside0.mk (Kd.R_lower ho0 (below_size HB.out)); have n1_ := Aside0.mk (blk_below B4.out hb); have n2_ := Aside0.mk (below_step HB.out hb); clear HB B4 hb ho0; have HX := n0_; have B4 := n1_; have HB := n2_; clear n0_ n1_ n2_)
    | ((with_reducible refine gate_dst (N := 5) rfl ?_); refine box_event ?hg (N := 5) ?hd (cs := #[.int .i64 0, .slice none 0 0]) (t := 34) ?hr ?_; (case hd => rfl); (case hg => rfl); (case hr => first | (go_simp; done) | (go_simp; rfl)); intro g5 hg w6 hbox hb; have n0_ := Aside0.mk (below_step HB.out hb); have n1_ := Aside0.mk (blk_below B4.out hb); have n2_ := Aside0.mk (Kd.R_below HX.out hb); have B5 := Aside0.mk hbox; have G5 := Aside0.mk (by rw [hg]; exact below_size HB.out : w.heap.size ≤ g5); have NB := Aside0.mk (by rw [hg]; exact Nat.ne_of_lt (blk_lt B4.out) : g4 ≠ g5); have NC := Aside0.mk (by rw [hg]; exact Nat.ne_of_gt (blk_lt B4.out) : g5 ≠ g4); clear HB B4 HX; have HB := n0_; have B4 := n1_; have HX := n2_; clear n0_ n1_ n2_ hb hbox hg; have hcz5_0 : w6.cell? ⟨g5, 0, none⟩ = some (.int .i64 0) := (blk_cell B5.out 0).trans rfl; have hcz5_1 : w6.cell? ⟨g5, 1, none⟩ = some (.slice none 0 0) := (blk_cell B5.out 1).trans rfl; have hfz5_0 := blk_frozen B5.out 0; have hfz5_1 := blk_frozen B5.out 1; obtain ⟨A5, c5, e5⟩ := Kd.R_slice HX.out; subst e5))
  go_loopg [11] k (fun kq v11 w' => ∃ (x11_1 : Int) (rows : List Int) (A : Option Addr) (c : Nat), v11 = .int .i64 x11_1 ∧ Aside0 (made_.l0 is t1 kq x11_1 rows = some R) ∧ Aside0 (kq ≤ k) ∧ Aside0 (Kd.R (Kd.int .i64) 2 w' w.heap.size (fun _ => True) (.slice A rows.length c) rows) ∧ Aside0 (w'.heap[g4]? = some (.cells #[.int .i64 0, (.slice none 0 0)] 34 (0, 0))) ∧ Aside0 (w'.heap[g5]? = some (.cells #[.int .i64 t1, .slice A rows.length c] 34 (0, 0))) ∧ Aside0 (Below w.heap.size w w'))
  case atStart => exact ⟨0, t2, A5, c5, rfl, H', ⟨Nat.le_refl _⟩, ⟨Kd.R_mono (Kd.R_far (p := ⟨g5, 1, none⟩) (Kd.R_far (p := ⟨g5, 0, none⟩) (Kd.R_types HX.out B5.out (by decide)) (fun _ hk => hk.2) (.int .i64 t1)) (fun _ hk => hk.2) (.slice A5 t2.length c5)) (fun _ _ => trivial)⟩, ⟨by refine blk_far ?_ NB.out _; refine blk_far ?_ NB.out _; exact B4.out⟩, ⟨by refine blk_put (cs := #[.int .i64 t1, .slice none 0 0]) ?_ 1 _ rfl; refine blk_put (cs := #[.int .i64 0, .slice none 0 0]) ?_ 0 _ rfl; exact B5.out⟩, ⟨below_set (below_set HB.out G5.out) G5.out⟩⟩
  case round =>
    clear H' hcz5_0 hcz5_1 hfz5_0 hfz5_1 B4 B5 HX HB
    obtain ⟨x11_1, rows, A, c, rfl, HA, HK1, HX, B4, B5, HB⟩ := hrel
    cases gk with
    | zero => exact absurd HA.out (by simp [made_.l0])
    | succ k1 =>
      have H := HA.out
      clear HA
      rw [made_.l0.eq_2] at H
      by_cases c10 : x11_1 < t1
      · rw [if_pos c10] at H
        have c10b0 : decide (x11_1 < t1) = true := decide_eq_true c10
        clear c10
        obtain ⟨R1, A10, H⟩ := Option.bind_eq_some_iff.mp H
        have H' := Aside0.mk H
        have I' := Aside0.mk A10
        clear H A10
        go_wp2
        go_loopg [7] k1 (fun kq v7 w' => ∃ (x7_1 : Int) (rows1 : List Int) (A1 : Option Addr) (c1 : Nat), v7 = .int .i64 x7_1 ∧ Aside0 (made_.l1 is t1 x11_1 kq x7_1 rows1 = some R1) ∧ Aside0 (kq ≤ k1) ∧ Aside0 (Kd.R (Kd.int .i64) 2 w' w.heap.size (fun _ => True) (.slice A1 rows1.length c1) rows1) ∧ Aside0 (w'.heap[g4]? = some (.cells #[.int .i64 0, (.slice none 0 0)] 34 (0, 0))) ∧ Aside0 (w'.heap[g5]? = some (.cells #[.int .i64 t1, .slice A1 rows1.length c1] 34 (0, 0))) ∧ Aside0 (Below w.heap.size w w'))
        case atStart => exact ⟨_, rows, A, c, (by first | rfl | (simp; done)), I', ⟨Nat.le_refl _⟩, HX, B4, B5, HB⟩
        case round =>
          clear I' HX B4 B5 HB
          obtain ⟨x7_1, rows1, A1, c1, rfl, HA, HK2, HX, B4, B5, HB⟩ := hrel
          cases gk with
          | zero => exact absurd HA.out (by simp [made_.l1])
          | succ k2 =>
            have H := HA.out
            clear HA
            rw [made_.l1.eq_2] at H
            by_cases c11 : x7_1 < t1
            · rw [if_pos c11] at H
              have c11b0 : decide (x7_1 < t1) = true := decide_eq_true c11
              clear c11
              obtain ⟨t, A11, H⟩ := Option.bind_eq_some_iff.mp H
              have A12 := Aside0.mk A11
              clear A11
              have HD := Aside0.mk (HC.out x11_1 x7_1 t wr HB.out A12.out)
              by_cases ct : t = true
              · subst ct
                rw [if_pos rfl] at H
                obtain ⟨R2, A13, H⟩ := Option.bind_eq_some_iff.mp H
                have I2 := Aside0.mk H
                have A14 := Aside0.mk A13
                clear H A13
                go_wp2_with fail
                rw [enters_ hf1 hn1 hb1]
                refine HD.out.mono ?_
                rintro e w5 ⟨rfl, hb⟩
                have n0_ := Aside0.mk (Kd.R_below HX.out hb)
                have n1_ := Aside0.mk (blk_below B4.out hb)
                have n2_ := Aside0.mk (blk_below B5.out hb)
                have n3_ := Aside0.mk (below_step HB.out hb)
                clear HX B4 B5 HB hb HD
                have HX := n0_
                have B4 := n1_
                have B5 := n2_
                have HB := n3_
                clear n0_ n1_ n2_ n3_
                have hcz5_0 : w5.cell? ⟨g5, 0, none⟩ = some (.int .i64 t1) := (blk_cell B5.out 0).trans rfl
                have hcz5_1 : w5.cell? ⟨g5, 1, none⟩ = some (.slice A1 rows1.length c1) := (blk_cell B5.out 1).trans rfl
                go_wp2_with (first | ((with_reducible refine gate_callee (f := 49) rfl ?_); refine goesL_ (some 28) rfl rfl Try.func49 (by kernel_rfl) rfl #[.agg #[.int .i64 t1, .slice A1 rows1.length c1], .int .i64 x11_1, .int .i64 x7_1] rfl (by (try simp only [List.map_toArray, List.map_cons, List.map_nil]); first | done | rfl) ?_; (with_reducible refine (impl_Graph_put.calls t1 (fun k_ => some k_ = (.slice A1 rows1.length c1 : Value).ownBlock) (.slice A1 rows1.length c1) rows1 x11_1 x7_1 R2 w _ ?side1 ?side2 A14.out).mono ?_); (case side1 => exact HB.out); (case side2 => exact Kd.R_tight rfl HX.out); rintro e w6 ⟨rfl, hy0, hb, hkp⟩; refine ⟨_, rfl, ?_⟩; have n0_ := Aside0.mk (Kd.R_reok (ok := fun _ => True) rfl hy0 (fun _ _ => trivial)); have n1_ := Aside0.mk (blk_kept B4.out hkp (fun hs_ => (Kd.R_ne HX.out B4.out (by decide)) hs_)); have n2_ := Aside0.mk (blk_kept B5.out hkp (fun hs_ => (Kd.R_ne HX.out B5.out (by decide)) hs_)); have n3_ := Aside0.mk hb; clear HX B4 B5 HB hb hkp hy0 hcz5_0 hcz5_1; have HX := n0_; have B4 := n1_; have B5 := n2_; have HB := n3_; clear n0_ n1_ n2_ n3_))
                obtain ⟨Aq, cq, eq_⟩ := Kd.R_slice HX.out
                injection eq_ with eq1 eq2 eq3
                subst eq1 eq3
                go_roundg k2
                case measure => have := HK1.out; have := HK2.out; omega
                case rel => exact ⟨_, R2, _, _, (by first | rfl | (simp; done)), I2, ⟨by have := HK2.out; omega⟩, ⟨by rw [← eq2]; exact HX.out⟩, B4, ⟨by rw [← eq2]; exact B5.out⟩, HB⟩
              · have tf : t = false := Bool.eq_false_iff.mpr ct
                subst tf
                rw [if_neg (by decide)] at H
                have I2 := Aside0.mk H
                clear H ct
                go_wp2_with fail
                rw [enters_ hf1 hn1 hb1]
                refine HD.out.mono ?_
                rintro e w5 ⟨rfl, hb⟩
                have n0_ := Aside0.mk (Kd.R_below HX.out hb)
                have n1_ := Aside0.mk (blk_below B4.out hb)
                have n2_ := Aside0.mk (blk_below B5.out hb)
                have n3_ := Aside0.mk (below_step HB.out hb)
                clear HX B4 B5 HB hb HD
                have HX := n0_
                have B4 := n1_
                have B5 := n2_
                have HB := n3_
                clear n0_ n1_ n2_ n3_
                go_wp2
                go_roundg k2
                case measure => have := HK1.out; have := HK2.out; omega
                case rel => exact ⟨_, rows1, A1, c1, (by first | rfl | (simp; done)), I2, ⟨by have := HK2.out; omega⟩, HX, B4, B5, HB⟩
            · rw [if_neg c11] at H
              have c11b0 : decide (x7_1 < t1) = false := decide_eq_false c11
              clear c11
              obtain rfl := Option.some.inj H
              clear H
              go_wp2
              go_roundg k1
              case measure => have := HK1.out; omega
              case rel => exact ⟨_, rows1, A1, c1, (by first | rfl | (simp; done)), H', ⟨by have := HK1.out; omega⟩, HX, B4, B5, HB⟩
      · rw [if_neg c10] at H
        have c10b0 : decide (x11_1 < t1) = false := decide_eq_false c10
        clear c10
        obtain rfl := Option.some.inj H
        clear H
        have hnb := NB.out
        have hnc := NC.out
        have hcz5_0 : wr.cell? ⟨g5, 0, none⟩ = some (.int .i64 t1) := (blk_cell B5.out 0).trans rfl
        have hcz5_1 : wr.cell? ⟨g5, 1, none⟩ = some (.slice A rows.length c) := (blk_cell B5.out 1).trans rfl
        have hfz5_0 := blk_frozen B5.out 0
        have hfz5_1 := blk_frozen B5.out 1
        have hcz4_0 : wr.cell? ⟨g4, 0, none⟩ = some (.int .i64 0) := (blk_cell B4.out 0).trans rfl
        have hcz4_1 : wr.cell? ⟨g4, 1, none⟩ = some (.slice none 0 0) := (blk_cell B4.out 1).trans rfl
        have hfz4_0 := blk_frozen B4.out 0
        have hfz4_1 := blk_frozen B4.out 1
        go_wp2
        refine bodyPost_ret (results_cell_row rfl _ _ g4 34 #[.int .i64 t1, .slice A rows.length c] (0, 0) _ rfl (by refine blk_put (cs := #[.int .i64 t1, .slice none 0 0]) ?_ 1 _ rfl; refine blk_put (cs := #[.int .i64 0, .slice none 0 0]) ?_ 0 _ rfl; exact B4.out) Try.underlying34 rfl (by kernel_rfl)) rfl ?_
        exact ⟨_, rfl, Kd.R_mono (Kd.R_far (p := ⟨g4, 1, none⟩) (Kd.R_far (p := ⟨g4, 0, none⟩) (Kd.R_types HX.out B4.out (by decide)) (fun _ hk => hk.2) (.int .i64 t1)) (fun _ hk => hk.2) (.slice A rows.length c)) (fun _ _ => trivial), below_set (below_set HB.out G4.out) G4.out⟩
/-! ### impl.PlaneGraph: by hand -/
def pl_is (q : Int) (l : List (List Int)) (a b : Int) : Option Bool := if a < (l.length : Int) then (if (l.length : Int) ≤ b then (if 0 ≤ a then (if b - (l.length : Int) < (l.length : Int) then impl_isOn.f q (rd_L1 l a) (rd_L1 l (b - (l.length : Int))) else none) else none) else some false) else some false
set_option maxHeartbeats 8000000 in
set_option maxRecDepth 100000 in
theorem pl_calls (q : Int) (l : List (List Int)) (gn gq gl : Nat) (A : Option Addr) (c : Nat) (a b : Int) (r : Bool) (W : World) (hm : l.length ≤ 1000) (hn : W.heap[gn]? = some (.cells #[.int .i64 (l.length : Int)] 2 (0, 0))) (hq : W.heap[gq]? = some (.cells #[.int .i64 q] 2 (0, 0))) (hl : W.heap[gl]? = some (.cells #[.slice A l.length c] 28 (0, 0))) (hC : Kd.C (Kd.slice 2 (Kd.int .i64)) W A l.length l) (h : pl_is q l a b = some r) :
    Calls Try.prog 42 #[.int .i64 a, .int .i64 b, .pointer (some ⟨gn, 0, none⟩), .pointer (some ⟨gq, 0, none⟩), .pointer (some ⟨gl, 0, none⟩)] W fun e w' => e = .returned (.bool r) ∧ Below W.heap.size W w' := by
  have hcn : W.cell? ⟨gn, 0, none⟩ = some (.int .i64 (l.length : Int)) := (blk_cell hn 0).trans rfl
  unfold pl_is at h
  by_cases c1 : a < (l.length : Int)
  case neg =>
    rw [if_neg c1] at h
    obtain rfl := Option.some.inj h
    have d1 : decide (a < (l.length : Int)) = false := decide_eq_false c1
    clear h c1 hn hq hl hC
    go_enter Try.func42, Try.ntmps42
    go_wp2
    go_quiet (fail)
    go_wp2
    go_ret
    exact ⟨rfl, pw_below_drewN (Below.refl _ _) _⟩
  rw [if_pos c1] at h
  have d1 : decide (a < (l.length : Int)) = true := decide_eq_true c1
  by_cases c2 : (l.length : Int) ≤ b
  case neg =>
    rw [if_neg c2] at h
    obtain rfl := Option.some.inj h
    have d2 : decide ((l.length : Int) ≤ b) = false := decide_eq_false c2
    clear h c1 c2 hn hq hl hC
    go_enter Try.func42, Try.ntmps42
    go_wp2
    go_quiet (fail)
    go_wp2
    go_ret
    exact ⟨rfl, pw_below_drewN (Below.refl _ _) _⟩
  rw [if_pos c2] at h
  have d2 : decide ((l.length : Int) ≤ b) = true := decide_eq_true c2
  split at h
  case isFalse => cases h
  rename_i p0
  split at h
  case isFalse => cases h
  rename_i p3
  obtain ⟨ad1, A1, c1_, e1, hx1, hl1, hi1⟩ := at_L1 hC a p0 c1
  cases e1
  have p2 : 0 ≤ b - (l.length : Int) := by omega
  obtain ⟨ad2, A2, c2_, e2, hx2, hl2, hi2⟩ := at_L1 hC (b - (l.length : Int)) p2 p3
  cases e2
  have hcq : W.cell? ⟨gq, 0, none⟩ = some (.int .i64 q) := (blk_cell hq 0).trans rfl
  have hcl : W.cell? ⟨gl, 0, none⟩ = some (.slice (some ad1) l.length c) := (blk_cell hl 0).trans rfl
  obtain ⟨j, hj⟩ : ∃ j, j = b - (l.length : Int) := ⟨_, rfl⟩
  rw [← hj] at h hx2 hl2 hi2 p2 p3
  have ew : IntKind.i64.wrap (b - (l.length : Int)) = j := by rw [IntKind.wrap_i64]; omega
  have ew2 : wrap64 (b - (l.length : Int)) = j := by unfold wrap64; omega
  have H1 := Aside0.mk h
  have L1 := Aside0.mk hl1
  have L2 := Aside0.mk hl2
  have I1 := Aside0.mk hi1
  have I2 := Aside0.mk hi2
  have p1 : a < (l.length : Int) := c1
  clear h hl1 hl2 hi1 hi2 hq hl hC hn c1 c2 hj hm
  replace p0 := eq_true p0
  replace p1 := eq_true p1
  replace p2 := eq_true p2
  replace p3 := eq_true p3
  go_enter Try.func42, Try.ntmps42
  go_wp2
  go_quiet ((go_at_call 32; exact Calls.quiet_of ((impl_isOn.calls q A1 c1_ _ A2 c2_ _ r _ (Kd.C_drewN I1.out _) L1.out (Kd.C_drewN I2.out _) L2.out H1.out).mono fun _ _ h_ => ⟨h_.1, h_.2.out⟩)))
  go_wp2
  go_ret
  exact ⟨rfl, pw_below_drewN (Below.refl _ _) _⟩
def impl_PlaneGraph.f (k : Nat) (a0 : Int) : Option (Int × List Int × Int) := (impl_isPrime.f a0).bind fun t => if t = true then ((impl_points.f k a0).bind fun l => if l.length ≤ 1000 then (if 2 * (l.length : Int) > 62 then some (0, [], 3) else (made_.f (pl_is a0 l) k (2 * (l.length : Int))).bind fun t => some (t.1, t.2, 0)) else none) else some (0, [], 2)
theorem impl_PlaneGraph.mono : ∀ a0 k, LeO (impl_PlaneGraph.f k a0) (impl_PlaneGraph.f (k + 1) a0) := by
  intro a0 k
  unfold impl_PlaneGraph.f
  refine LeO.bind (LeO.refl _) (fun t => ?_)
  refine LeO.ite ?_ (LeO.refl _)
  refine LeO.bind (impl_points.mono _ _) (fun _ => ?_)
  refine LeO.ite ?_ (LeO.refl _)
  refine LeO.ite (LeO.refl _) ?_
  exact LeO.bind (made_.mono _ _ _) (fun _ => LeO.refl _)
set_option maxHeartbeats 8000000 in
set_option maxRecDepth 100000 in
theorem impl_PlaneGraph.calls (k : Nat) (a0 : Int) (r1 : Int) (r2 : List Int) (r3 : Int) (w : World) (h : impl_PlaneGraph.f k a0 = some (r1, r2, r3)) :
    Calls Try.prog 26 #[.int .i64 a0] w fun e w' => ∃ v1_ : Value, e = .returned (.tuple #[.agg #[.int .i64 r1, v1_], .int .i64 r3]) ∧ Kd.R (Kd.int .i64) 2 w' w.heap.size (fun _ => True) v1_ r2 ∧ Below w.heap.size w w' := by
  have hu34 := Try.underlying34
  have HB := Aside0.mk (Below.refl w.heap.size w)
  unfold impl_PlaneGraph.f at h
  obtain ⟨pr, P0, h⟩ := Option.bind_eq_some_iff.mp h
  have HP := Aside0.mk P0
  clear P0
  cases pr with
  | false =>
    rw [if_neg (by decide)] at h
    simp only [Option.some.injEq, Prod.mk.injEq] at h
    obtain ⟨rfl, rfl, rfl⟩ := h
    go_enter Try.func26, Try.ntmps26
    go_wp2_with (first | ((with_reducible refine gate_dst (N := 1) rfl ?_); refine box_event ?hg (N := 1) ?hd (cs := #[.int .i64 a0]) (t := 2) ?hr ?_; (case hd => rfl); (case hg => rfl); (case hr => first | (go_simp; done) | (go_simp; rfl)); intro g1 hg w1 hbox hb; have n0_ := Aside0.mk (hbox); have n1_ := Aside0.mk ((by rw [hg]; exact below_size HB.out : w.heap.size ≤ g1)); have n2_ := Aside0.mk (below_step HB.out hb); clear HB; have B1 := n0_; have G1 := n1_; have HB := n2_; clear n0_ n1_ n2_; clear hb hbox hg; have hcz1_0 : w1.cell? ⟨g1, 0, none⟩ = some (.int .i64 a0) := (blk_cell B1.out 0).trans rfl; have hfz1_0 := blk_frozen B1.out 0) | ((with_reducible refine gate_dst (N := 2) rfl ?_); refine box_event ?hg (N := 2) ?hd (cs := #[.int .i64 0, .slice none 0 0]) (t := 34) ?hr ?_; (case hd => rfl); (case hg => rfl); (case hr => first | (go_simp; done) | (go_simp; rfl)); intro g2 hg w2 hbox hb; clear hcz1_0 hfz1_0; have n0_ := Aside0.mk (hbox); have n1_ := Aside0.mk ((by rw [hg]; exact below_size HB.out : w.heap.size ≤ g2)); have n2_ := Aside0.mk ((by rw [hg]; exact Nat.ne_of_lt (blk_lt B1.out) : g1 ≠ g2)); have n3_ := Aside0.mk (below_step HB.out hb); have n4_ := Aside0.mk (blk_below B1.out hb); clear HB B1; have B2 := n0_; have G2 := n1_; have N1_2 := n2_; have HB := n3_; have B1 := n4_; clear n0_ n1_ n2_ n3_ n4_; clear hb hbox hg; have hcz1_0 : w2.cell? ⟨g1, 0, none⟩ = some (.int .i64 a0) := (blk_cell B1.out 0).trans rfl; have hfz1_0 := blk_frozen B1.out 0; have hcz2_0 : w2.cell? ⟨g2, 0, none⟩ = some (.int .i64 0) := (blk_cell B2.out 0).trans rfl; have hfz2_0 := blk_frozen B2.out 0; have hcz2_1 : w2.cell? ⟨g2, 1, none⟩ = some (.slice none 0 0) := (blk_cell B2.out 1).trans rfl; have hfz2_1 := blk_frozen B2.out 1) | ((with_reducible refine gate_callee (f := 30) rfl ?_); refine goesL_ (some 7) rfl rfl Try.func30 (by kernel_rfl) rfl #[.int .i64 a0] rfl (by (try simp only [List.map_toArray, List.map_cons, List.map_nil]); first | done | rfl) ?_; (refine (impl_isPrime.calls a0 false _ HP.out).mono ?_); rintro e w3 ⟨rfl, hd⟩; refine ⟨_, rfl, ?_⟩; clear hcz1_0 hfz1_0 hcz2_0 hfz2_0 hcz2_1 hfz2_1; have hb := hd.below; clear hd; have n0_ := Aside0.mk (below_step HB.out hb); have n1_ := Aside0.mk (blk_below B1.out hb); have n2_ := Aside0.mk (blk_below B2.out hb); clear HB B1 B2; have HB := n0_; have B1 := n1_; have B2 := n2_; clear n0_ n1_ n2_; clear hb; have hcz1_0 : w3.cell? ⟨g1, 0, none⟩ = some (.int .i64 a0) := (blk_cell B1.out 0).trans rfl; have hfz1_0 := blk_frozen B1.out 0; have hcz2_0 : w3.cell? ⟨g2, 0, none⟩ = some (.int .i64 0) := (blk_cell B2.out 0).trans rfl; have hfz2_0 := blk_frozen B2.out 0; have hcz2_1 : w3.cell? ⟨g2, 1, none⟩ = some (.slice none 0 0) := (blk_cell B2.out 1).trans rfl; have hfz2_1 := blk_frozen B2.out 1))
    refine bodyPost_ret (results_ct rfl _ _ g2 34 #[.int .i64 0, .slice none 0 0] (0, 0) _ rfl (by refine blk_put (cs := #[.int .i64 0, .slice none 0 0]) ?_ 1 _ rfl; refine blk_put (cs := #[.int .i64 0, .slice none 0 0]) ?_ 0 _ rfl; exact B2.out) Try.underlying34 rfl (by kernel_rfl)) rfl ?_
    exact ⟨_, rfl, Kd.R_nil _ _ _ _ _, below_set (below_set HB.out G2.out) G2.out⟩
  | true =>
    rw [if_pos rfl] at h
    obtain ⟨l, A1, h⟩ := Option.bind_eq_some_iff.mp h
    have H1 := Aside0.mk A1
    clear A1
    split at h
    case isFalse => cases h
    rename_i hm
    have HM := Aside0.mk hm
    have m0 : (0 : Int) ≤ (l.length : Int) := by omega
    have m1 : (l.length : Int) ≤ 1000 := by omega
    clear hm
    by_cases c5 : 2 * (l.length : Int) > 62
    · rw [if_pos c5] at h
      have d5 : decide (62 < 2 * (l.length : Int)) = true := decide_eq_true c5
      clear c5
      simp only [Option.some.injEq, Prod.mk.injEq] at h
      obtain ⟨rfl, rfl, rfl⟩ := h
      go_enter Try.func26, Try.ntmps26
      go_wp2_with (first | ((with_reducible refine gate_dst (N := 1) rfl ?_); refine box_event ?hg (N := 1) ?hd (cs := #[.int .i64 a0]) (t := 2) ?hr ?_; (case hd => rfl); (case hg => rfl); (case hr => first | (go_simp; done) | (go_simp; rfl)); intro g1 hg w1 hbox hb; have n0_ := Aside0.mk (hbox); have n1_ := Aside0.mk ((by rw [hg]; exact below_size HB.out : w.heap.size ≤ g1)); have n2_ := Aside0.mk (below_step HB.out hb); clear HB; have B1 := n0_; have G1 := n1_; have HB := n2_; clear n0_ n1_ n2_; clear hb hbox hg; have hcz1_0 : w1.cell? ⟨g1, 0, none⟩ = some (.int .i64 a0) := (blk_cell B1.out 0).trans rfl; have hfz1_0 := blk_frozen B1.out 0) | ((with_reducible refine gate_dst (N := 2) rfl ?_); refine box_event ?hg (N := 2) ?hd (cs := #[.int .i64 0, .slice none 0 0]) (t := 34) ?hr ?_; (case hd => rfl); (case hg => rfl); (case hr => first | (go_simp; done) | (go_simp; rfl)); intro g2 hg w2 hbox hb; clear hcz1_0 hfz1_0; have n0_ := Aside0.mk (hbox); have n1_ := Aside0.mk ((by rw [hg]; exact below_size HB.out : w.heap.size ≤ g2)); have n2_ := Aside0.mk ((by rw [hg]; exact Nat.ne_of_lt (blk_lt B1.out) : g1 ≠ g2)); have n3_ := Aside0.mk (below_step HB.out hb); have n4_ := Aside0.mk (blk_below B1.out hb); clear HB B1; have B2 := n0_; have G2 := n1_; have N1_2 := n2_; have HB := n3_; have B1 := n4_; clear n0_ n1_ n2_ n3_ n4_; clear hb hbox hg; have hcz1_0 : w2.cell? ⟨g1, 0, none⟩ = some (.int .i64 a0) := (blk_cell B1.out 0).trans rfl; have hfz1_0 := blk_frozen B1.out 0; have hcz2_0 : w2.cell? ⟨g2, 0, none⟩ = some (.int .i64 0) := (blk_cell B2.out 0).trans rfl; have hfz2_0 := blk_frozen B2.out 0; have hcz2_1 : w2.cell? ⟨g2, 1, none⟩ = some (.slice none 0 0) := (blk_cell B2.out 1).trans rfl; have hfz2_1 := blk_frozen B2.out 1) | ((with_reducible refine gate_callee (f := 30) rfl ?_); refine goesL_ (some 7) rfl rfl Try.func30 (by kernel_rfl) rfl #[.int .i64 a0] rfl (by (try simp only [List.map_toArray, List.map_cons, List.map_nil]); first | done | rfl) ?_; (refine (impl_isPrime.calls a0 true _ HP.out).mono ?_); rintro e w3 ⟨rfl, hd⟩; refine ⟨_, rfl, ?_⟩; clear hcz1_0 hfz1_0 hcz2_0 hfz2_0 hcz2_1 hfz2_1; have hb := hd.below; clear hd; have n0_ := Aside0.mk (below_step HB.out hb); have n1_ := Aside0.mk (blk_below B1.out hb); have n2_ := Aside0.mk (blk_below B2.out hb); clear HB B1 B2; have HB := n0_; have B1 := n1_; have B2 := n2_; clear n0_ n1_ n2_; clear hb; have hcz1_0 : w3.cell? ⟨g1, 0, none⟩ = some (.int .i64 a0) := (blk_cell B1.out 0).trans rfl; have hfz1_0 := blk_frozen B1.out 0; have hcz2_0 : w3.cell? ⟨g2, 0, none⟩ = some (.int .i64 0) := (blk_cell B2.out 0).trans rfl; have hfz2_0 := blk_frozen B2.out 0; have hcz2_1 : w3.cell? ⟨g2, 1, none⟩ = some (.slice none 0 0) := (blk_cell B2.out 1).trans rfl; have hfz2_1 := blk_frozen B2.out 1) | ((with_reducible refine gate_callee (f := 31) rfl ?_); refine goesL_ (some 11) rfl rfl Try.func31 (by kernel_rfl) rfl #[.int .i64 a0] rfl (by (try simp only [List.map_toArray, List.map_cons, List.map_nil]); first | done | rfl) ?_; (refine (impl_points.calls k a0 l _ H1.out).mono ?_); rintro e w4 ⟨v4, rfl, hN, hb⟩; refine ⟨_, rfl, ?_⟩; clear hcz1_0 hfz1_0 hcz2_0 hfz2_0 hcz2_1 hfz2_1; have HN := Aside0.mk (Kd.N_lower hN (below_size HB.out)); clear hN; have n0_ := Aside0.mk (below_step HB.out hb); have n1_ := Aside0.mk (blk_below B1.out hb); have n2_ := Aside0.mk (blk_below B2.out hb); clear HB B1 B2; have HB := n0_; have B1 := n1_; have B2 := n2_; clear n0_ n1_ n2_; clear hb; obtain ⟨A, c, e_⟩ := Kd.N_slice HN.out; subst e_; have hcz1_0 : w4.cell? ⟨g1, 0, none⟩ = some (.int .i64 a0) := (blk_cell B1.out 0).trans rfl; have hfz1_0 := blk_frozen B1.out 0; have hcz2_0 : w4.cell? ⟨g2, 0, none⟩ = some (.int .i64 0) := (blk_cell B2.out 0).trans rfl; have hfz2_0 := blk_frozen B2.out 0; have hcz2_1 : w4.cell? ⟨g2, 1, none⟩ = some (.slice none 0 0) := (blk_cell B2.out 1).trans rfl; have hfz2_1 := blk_frozen B2.out 1) | ((with_reducible refine gate_dst (N := 4) rfl ?_); refine box_event ?hg (N := 4) ?hd (cs := #[.slice none 0 0]) (t := 28) ?hr ?_; (case hd => rfl); (case hg => rfl); (case hr => first | (go_simp; done) | (go_simp; rfl)); intro g4 hg w5 hbox hb; clear hcz1_0 hfz1_0 hcz2_0 hfz2_0 hcz2_1 hfz2_1; have n0_ := Aside0.mk (hbox); have n1_ := Aside0.mk ((by rw [hg]; exact below_size HB.out : w.heap.size ≤ g4)); have n2_ := Aside0.mk ((by rw [hg]; exact Nat.ne_of_lt (blk_lt B1.out) : g1 ≠ g4)); have n3_ := Aside0.mk ((by rw [hg]; exact Nat.ne_of_lt (blk_lt B2.out) : g2 ≠ g4)); have n4_ := Aside0.mk ((by rw [hg]; exact Nat.le_refl _ : w4.heap.size ≤ g4)); have n5_ := Aside0.mk (below_step HB.out hb); have n6_ := Aside0.mk (blk_below B1.out hb); have n7_ := Aside0.mk (blk_below B2.out hb); have n8_ := Aside0.mk (Kd.N_mono (ok' := fun k => k ≠ g4) (Kd.N_old HN.out hb) (fun k hk => by have h_ := hk.2; rw [hg]; exact Nat.ne_of_lt h_)); clear HB B1 B2 HN; have B4 := n0_; have G4 := n1_; have N1_4 := n2_; have N2_4 := n3_; have L4 := n4_; have HB := n5_; have B1 := n6_; have B2 := n7_; have HN := n8_; clear n0_ n1_ n2_ n3_ n4_ n5_ n6_ n7_ n8_; clear hb hbox hg; have hcz1_0 : w5.cell? ⟨g1, 0, none⟩ = some (.int .i64 a0) := (blk_cell B1.out 0).trans rfl; have hfz1_0 := blk_frozen B1.out 0; have hcz2_0 : w5.cell? ⟨g2, 0, none⟩ = some (.int .i64 0) := (blk_cell B2.out 0).trans rfl; have hfz2_0 := blk_frozen B2.out 0; have hcz2_1 : w5.cell? ⟨g2, 1, none⟩ = some (.slice none 0 0) := (blk_cell B2.out 1).trans rfl; have hfz2_1 := blk_frozen B2.out 1; have hcz4_0 : w5.cell? ⟨g4, 0, none⟩ = some (.slice none 0 0) := (blk_cell B4.out 0).trans rfl; have hfz4_0 := blk_frozen B4.out 0) | ((with_reducible refine gate_store (t := 28) (p := 4) rfl ?_); refine store_event (t := 28) (p := 4) (v := .tmp 11) (w1 := (w5.setCell ⟨g4, 0, none⟩ (.slice A l.length c))) rfl rfl rfl ?hr ?_; (case hr => first | (go_simp; done) | (go_simp; rfl)); intro w6 hw; clear hcz1_0 hfz1_0 hcz2_0 hfz2_0 hcz2_1 hfz2_1 hcz4_0 hfz4_0; have n0_ := Aside0.mk ((by rw [hw]; exact below_set HB.out G4.out : Below w.heap.size w w6)); have n1_ := Aside0.mk ((by rw [hw]; exact blk_far B1.out N1_4.out _ : w6.heap[g1]? = some (.cells #[.int .i64 a0] 2 (0, 0)))); have n2_ := Aside0.mk ((by rw [hw]; exact blk_far B2.out N2_4.out _ : w6.heap[g2]? = some (.cells #[.int .i64 0, .slice none 0 0] 34 (0, 0)))); have n3_ := Aside0.mk ((by rw [hw]; exact blk_put (cs := #[.slice none 0 0]) B4.out 0 _ rfl : w6.heap[g4]? = some (.cells #[.slice A l.length c] 28 (0, 0)))); have n4_ := Aside0.mk ((by rw [hw]; exact Kd.N_far HN.out (fun k hk => hk) _ : Kd.N (Kd.slice 2 (Kd.int .i64)) 22 w6 w.heap.size _ (.slice A l.length c) l)); clear HB B1 B2 B4 HN; have HB := n0_; have B1 := n1_; have B2 := n2_; have B4 := n3_; have HN := n4_; clear n0_ n1_ n2_ n3_ n4_; clear hw; have hcz1_0 : w6.cell? ⟨g1, 0, none⟩ = some (.int .i64 a0) := (blk_cell B1.out 0).trans rfl; have hfz1_0 := blk_frozen B1.out 0; have hcz2_0 : w6.cell? ⟨g2, 0, none⟩ = some (.int .i64 0) := (blk_cell B2.out 0).trans rfl; have hfz2_0 := blk_frozen B2.out 0; have hcz2_1 : w6.cell? ⟨g2, 1, none⟩ = some (.slice none 0 0) := (blk_cell B2.out 1).trans rfl; have hfz2_1 := blk_frozen B2.out 1; have hcz4_0 : w6.cell? ⟨g4, 0, none⟩ = some (.slice A l.length c) := (blk_cell B4.out 0).trans rfl; have hfz4_0 := blk_frozen B4.out 0) | ((with_reducible refine gate_dst (N := 5) rfl ?_); refine box_event ?hg (N := 5) ?hd (cs := #[.int .i64 0]) (t := 2) ?hr ?_; (case hd => rfl); (case hg => rfl); (case hr => first | (go_simp; done) | (go_simp; rfl)); intro g5 hg w7 hbox hb; clear hcz1_0 hfz1_0 hcz2_0 hfz2_0 hcz2_1 hfz2_1 hcz4_0 hfz4_0; have n0_ := Aside0.mk (hbox); have n1_ := Aside0.mk ((by rw [hg]; exact below_size HB.out : w.heap.size ≤ g5)); have n2_ := Aside0.mk ((by rw [hg]; exact Nat.ne_of_lt (blk_lt B1.out) : g1 ≠ g5)); have n3_ := Aside0.mk ((by rw [hg]; exact Nat.ne_of_lt (blk_lt B2.out) : g2 ≠ g5)); have n4_ := Aside0.mk ((by rw [hg]; exact Nat.ne_of_lt (blk_lt B4.out) : g4 ≠ g5)); have n5_ := Aside0.mk ((by rw [hg]; exact Nat.le_refl _ : w6.heap.size ≤ g5)); have n6_ := Aside0.mk (below_step HB.out hb); have n7_ := Aside0.mk (blk_below B1.out hb); have n8_ := Aside0.mk (blk_below B2.out hb); have n9_ := Aside0.mk (blk_below B4.out hb); have n10_ := Aside0.mk (Kd.N_mono (ok' := fun k => k ≠ g5) (Kd.N_old HN.out hb) (fun k hk => by have h_ := hk.2; rw [hg]; exact Nat.ne_of_lt h_)); clear HB B1 B2 B4 HN; have B5 := n0_; have G5 := n1_; have N1_5 := n2_; have N2_5 := n3_; have N4_5 := n4_; have L5 := n5_; have HB := n6_; have B1 := n7_; have B2 := n8_; have B4 := n9_; have HN := n10_; clear n0_ n1_ n2_ n3_ n4_ n5_ n6_ n7_ n8_ n9_ n10_; clear hb hbox hg; have hcz1_0 : w7.cell? ⟨g1, 0, none⟩ = some (.int .i64 a0) := (blk_cell B1.out 0).trans rfl; have hfz1_0 := blk_frozen B1.out 0; have hcz2_0 : w7.cell? ⟨g2, 0, none⟩ = some (.int .i64 0) := (blk_cell B2.out 0).trans rfl; have hfz2_0 := blk_frozen B2.out 0; have hcz2_1 : w7.cell? ⟨g2, 1, none⟩ = some (.slice none 0 0) := (blk_cell B2.out 1).trans rfl; have hfz2_1 := blk_frozen B2.out 1; have hcz4_0 : w7.cell? ⟨g4, 0, none⟩ = some (.slice A l.length c) := (blk_cell B4.out 0).trans rfl; have hfz4_0 := blk_frozen B4.out 0; have hcz5_0 : w7.cell? ⟨g5, 0, none⟩ = some (.int .i64 0) := (blk_cell B5.out 0).trans rfl; have hfz5_0 := blk_frozen B5.out 0) | ((with_reducible refine gate_store (t := 2) (p := 5) rfl ?_); refine store_event (t := 2) (p := 5) (v := .tmp 13) (w1 := (w7.setCell ⟨g5, 0, none⟩ (.int .i64 (l.length : Int)))) rfl rfl rfl ?hr ?_; (case hr => first | (go_simp; done) | (go_simp; rfl)); intro w8 hw; clear hcz1_0 hfz1_0 hcz2_0 hfz2_0 hcz2_1 hfz2_1 hcz4_0 hfz4_0 hcz5_0 hfz5_0; have n0_ := Aside0.mk ((by rw [hw]; exact below_set HB.out G5.out : Below w.heap.size w w8)); have n1_ := Aside0.mk ((by rw [hw]; exact blk_far B1.out N1_5.out _ : w8.heap[g1]? = some (.cells #[.int .i64 a0] 2 (0, 0)))); have n2_ := Aside0.mk ((by rw [hw]; exact blk_far B2.out N2_5.out _ : w8.heap[g2]? = some (.cells #[.int .i64 0, .slice none 0 0] 34 (0, 0)))); have n3_ := Aside0.mk ((by rw [hw]; exact blk_far B4.out N4_5.out _ : w8.heap[g4]? = some (.cells #[.slice A l.length c] 28 (0, 0)))); have n4_ := Aside0.mk ((by rw [hw]; exact blk_put (cs := #[.int .i64 0]) B5.out 0 _ rfl : w8.heap[g5]? = some (.cells #[.int .i64 (l.length : Int)] 2 (0, 0)))); have n5_ := Aside0.mk ((by rw [hw]; exact Kd.N_far HN.out (fun k hk => hk) _ : Kd.N (Kd.slice 2 (Kd.int .i64)) 22 w8 w.heap.size _ (.slice A l.length c) l)); clear HB B1 B2 B4 B5 HN; have HB := n0_; have B1 := n1_; have B2 := n2_; have B4 := n3_; have B5 := n4_; have HN := n5_; clear n0_ n1_ n2_ n3_ n4_ n5_; clear hw; have hcz1_0 : w8.cell? ⟨g1, 0, none⟩ = some (.int .i64 a0) := (blk_cell B1.out 0).trans rfl; have hfz1_0 := blk_frozen B1.out 0; have hcz2_0 : w8.cell? ⟨g2, 0, none⟩ = some (.int .i64 0) := (blk_cell B2.out 0).trans rfl; have hfz2_0 := blk_frozen B2.out 0; have hcz2_1 : w8.cell? ⟨g2, 1, none⟩ = some (.slice none 0 0) := (blk_cell B2.out 1).trans rfl; have hfz2_1 := blk_frozen B2.out 1; have hcz4_0 : w8.cell? ⟨g4, 0, none⟩ = some (.slice A l.length c) := (blk_cell B4.out 0).trans rfl; have hfz4_0 := blk_frozen B4.out 0; have hcz5_0 : w8.cell? ⟨g5, 0, none⟩ = some (.int .i64 (l.length : Int)) := (blk_cell B5.out 0).trans rfl; have hfz5_0 := blk_frozen B5.out 0))
      refine bodyPost_ret (results_ct rfl _ _ g2 34 #[.int .i64 0, .slice none 0 0] (0, 0) _ rfl (by refine blk_put (cs := #[.int .i64 0, .slice none 0 0]) ?_ 1 _ rfl; refine blk_put (cs := #[.int .i64 0, .slice none 0 0]) ?_ 0 _ rfl; exact B2.out) Try.underlying34 rfl (by kernel_rfl)) rfl ?_
      exact ⟨_, rfl, Kd.R_nil _ _ _ _ _, below_set (below_set HB.out G2.out) G2.out⟩
    · rw [if_neg c5] at h
      have d5 : decide (62 < 2 * (l.length : Int)) = false := decide_eq_false c5
      clear c5
      obtain ⟨⟨t1, t2⟩, A2, h⟩ := Option.bind_eq_some_iff.mp h
      simp only [Option.some.injEq, Prod.mk.injEq] at h
      obtain ⟨rfl, rfl, rfl⟩ := h
      have H2 := Aside0.mk A2
      clear A2
      go_enter Try.func26, Try.ntmps26
      go_wp2_with (first | ((with_reducible refine gate_dst (N := 1) rfl ?_); refine box_event ?hg (N := 1) ?hd (cs := #[.int .i64 a0]) (t := 2) ?hr ?_; (case hd => rfl); (case hg => rfl); (case hr => first | (go_simp; done) | (go_simp; rfl)); intro g1 hg w1 hbox hb; have n0_ := Aside0.mk (hbox); have n1_ := Aside0.mk ((by rw [hg]; exact below_size HB.out : w.heap.size ≤ g1)); have n2_ := Aside0.mk (below_step HB.out hb); clear HB; have B1 := n0_; have G1 := n1_; have HB := n2_; clear n0_ n1_ n2_; clear hb hbox hg; have hcz1_0 : w1.cell? ⟨g1, 0, none⟩ = some (.int .i64 a0) := (blk_cell B1.out 0).trans rfl; have hfz1_0 := blk_frozen B1.out 0) | ((with_reducible refine gate_dst (N := 2) rfl ?_); refine box_event ?hg (N := 2) ?hd (cs := #[.int .i64 0, .slice none 0 0]) (t := 34) ?hr ?_; (case hd => rfl); (case hg => rfl); (case hr => first | (go_simp; done) | (go_simp; rfl)); intro g2 hg w2 hbox hb; clear hcz1_0 hfz1_0; have n0_ := Aside0.mk (hbox); have n1_ := Aside0.mk ((by rw [hg]; exact below_size HB.out : w.heap.size ≤ g2)); have n2_ := Aside0.mk ((by rw [hg]; exact Nat.ne_of_lt (blk_lt B1.out) : g1 ≠ g2)); have n3_ := Aside0.mk (below_step HB.out hb); have n4_ := Aside0.mk (blk_below B1.out hb); clear HB B1; have B2 := n0_; have G2 := n1_; have N1_2 := n2_; have HB := n3_; have B1 := n4_; clear n0_ n1_ n2_ n3_ n4_; clear hb hbox hg; have hcz1_0 : w2.cell? ⟨g1, 0, none⟩ = some (.int .i64 a0) := (blk_cell B1.out 0).trans rfl; have hfz1_0 := blk_frozen B1.out 0; have hcz2_0 : w2.cell? ⟨g2, 0, none⟩ = some (.int .i64 0) := (blk_cell B2.out 0).trans rfl; have hfz2_0 := blk_frozen B2.out 0; have hcz2_1 : w2.cell? ⟨g2, 1, none⟩ = some (.slice none 0 0) := (blk_cell B2.out 1).trans rfl; have hfz2_1 := blk_frozen B2.out 1) | ((with_reducible refine gate_callee (f := 30) rfl ?_); refine goesL_ (some 7) rfl rfl Try.func30 (by kernel_rfl) rfl #[.int .i64 a0] rfl (by (try simp only [List.map_toArray, List.map_cons, List.map_nil]); first | done | rfl) ?_; (refine (impl_isPrime.calls a0 true _ HP.out).mono ?_); rintro e w3 ⟨rfl, hd⟩; refine ⟨_, rfl, ?_⟩; clear hcz1_0 hfz1_0 hcz2_0 hfz2_0 hcz2_1 hfz2_1; have hb := hd.below; clear hd; have n0_ := Aside0.mk (below_step HB.out hb); have n1_ := Aside0.mk (blk_below B1.out hb); have n2_ := Aside0.mk (blk_below B2.out hb); clear HB B1 B2; have HB := n0_; have B1 := n1_; have B2 := n2_; clear n0_ n1_ n2_; clear hb; have hcz1_0 : w3.cell? ⟨g1, 0, none⟩ = some (.int .i64 a0) := (blk_cell B1.out 0).trans rfl; have hfz1_0 := blk_frozen B1.out 0; have hcz2_0 : w3.cell? ⟨g2, 0, none⟩ = some (.int .i64 0) := (blk_cell B2.out 0).trans rfl; have hfz2_0 := blk_frozen B2.out 0; have hcz2_1 : w3.cell? ⟨g2, 1, none⟩ = some (.slice none 0 0) := (blk_cell B2.out 1).trans rfl; have hfz2_1 := blk_frozen B2.out 1) | ((with_reducible refine gate_callee (f := 31) rfl ?_); refine goesL_ (some 11) rfl rfl Try.func31 (by kernel_rfl) rfl #[.int .i64 a0] rfl (by (try simp only [List.map_toArray, List.map_cons, List.map_nil]); first | done | rfl) ?_; (refine (impl_points.calls k a0 l _ H1.out).mono ?_); rintro e w4 ⟨v4, rfl, hN, hb⟩; refine ⟨_, rfl, ?_⟩; clear hcz1_0 hfz1_0 hcz2_0 hfz2_0 hcz2_1 hfz2_1; have HN := Aside0.mk (Kd.N_lower hN (below_size HB.out)); clear hN; have n0_ := Aside0.mk (below_step HB.out hb); have n1_ := Aside0.mk (blk_below B1.out hb); have n2_ := Aside0.mk (blk_below B2.out hb); clear HB B1 B2; have HB := n0_; have B1 := n1_; have B2 := n2_; clear n0_ n1_ n2_; clear hb; obtain ⟨A, c, e_⟩ := Kd.N_slice HN.out; subst e_; have hcz1_0 : w4.cell? ⟨g1, 0, none⟩ = some (.int .i64 a0) := (blk_cell B1.out 0).trans rfl; have hfz1_0 := blk_frozen B1.out 0; have hcz2_0 : w4.cell? ⟨g2, 0, none⟩ = some (.int .i64 0) := (blk_cell B2.out 0).trans rfl; have hfz2_0 := blk_frozen B2.out 0; have hcz2_1 : w4.cell? ⟨g2, 1, none⟩ = some (.slice none 0 0) := (blk_cell B2.out 1).trans rfl; have hfz2_1 := blk_frozen B2.out 1) | ((with_reducible refine gate_dst (N := 4) rfl ?_); refine box_event ?hg (N := 4) ?hd (cs := #[.slice none 0 0]) (t := 28) ?hr ?_; (case hd => rfl); (case hg => rfl); (case hr => first | (go_simp; done) | (go_simp; rfl)); intro g4 hg w5 hbox hb; clear hcz1_0 hfz1_0 hcz2_0 hfz2_0 hcz2_1 hfz2_1; have n0_ := Aside0.mk (hbox); have n1_ := Aside0.mk ((by rw [hg]; exact below_size HB.out : w.heap.size ≤ g4)); have n2_ := Aside0.mk ((by rw [hg]; exact Nat.ne_of_lt (blk_lt B1.out) : g1 ≠ g4)); have n3_ := Aside0.mk ((by rw [hg]; exact Nat.ne_of_lt (blk_lt B2.out) : g2 ≠ g4)); have n4_ := Aside0.mk ((by rw [hg]; exact Nat.le_refl _ : w4.heap.size ≤ g4)); have n5_ := Aside0.mk (below_step HB.out hb); have n6_ := Aside0.mk (blk_below B1.out hb); have n7_ := Aside0.mk (blk_below B2.out hb); have n8_ := Aside0.mk (Kd.N_mono (ok' := fun k => k ≠ g4) (Kd.N_old HN.out hb) (fun k hk => by have h_ := hk.2; rw [hg]; exact Nat.ne_of_lt h_)); clear HB B1 B2 HN; have B4 := n0_; have G4 := n1_; have N1_4 := n2_; have N2_4 := n3_; have L4 := n4_; have HB := n5_; have B1 := n6_; have B2 := n7_; have HN := n8_; clear n0_ n1_ n2_ n3_ n4_ n5_ n6_ n7_ n8_; clear hb hbox hg; have hcz1_0 : w5.cell? ⟨g1, 0, none⟩ = some (.int .i64 a0) := (blk_cell B1.out 0).trans rfl; have hfz1_0 := blk_frozen B1.out 0; have hcz2_0 : w5.cell? ⟨g2, 0, none⟩ = some (.int .i64 0) := (blk_cell B2.out 0).trans rfl; have hfz2_0 := blk_frozen B2.out 0; have hcz2_1 : w5.cell? ⟨g2, 1, none⟩ = some (.slice none 0 0) := (blk_cell B2.out 1).trans rfl; have hfz2_1 := blk_frozen B2.out 1; have hcz4_0 : w5.cell? ⟨g4, 0, none⟩ = some (.slice none 0 0) := (blk_cell B4.out 0).trans rfl; have hfz4_0 := blk_frozen B4.out 0) | ((with_reducible refine gate_store (t := 28) (p := 4) rfl ?_); refine store_event (t := 28) (p := 4) (v := .tmp 11) (w1 := (w5.setCell ⟨g4, 0, none⟩ (.slice A l.length c))) rfl rfl rfl ?hr ?_; (case hr => first | (go_simp; done) | (go_simp; rfl)); intro w6 hw; clear hcz1_0 hfz1_0 hcz2_0 hfz2_0 hcz2_1 hfz2_1 hcz4_0 hfz4_0; have n0_ := Aside0.mk ((by rw [hw]; exact below_set HB.out G4.out : Below w.heap.size w w6)); have n1_ := Aside0.mk ((by rw [hw]; exact blk_far B1.out N1_4.out _ : w6.heap[g1]? = some (.cells #[.int .i64 a0] 2 (0, 0)))); have n2_ := Aside0.mk ((by rw [hw]; exact blk_far B2.out N2_4.out _ : w6.heap[g2]? = some (.cells #[.int .i64 0, .slice none 0 0] 34 (0, 0)))); have n3_ := Aside0.mk ((by rw [hw]; exact blk_put (cs := #[.slice none 0 0]) B4.out 0 _ rfl : w6.heap[g4]? = some (.cells #[.slice A l.length c] 28 (0, 0)))); have n4_ := Aside0.mk ((by rw [hw]; exact Kd.N_far HN.out (fun k hk => hk) _ : Kd.N (Kd.slice 2 (Kd.int .i64)) 22 w6 w.heap.size _ (.slice A l.length c) l)); clear HB B1 B2 B4 HN; have HB := n0_; have B1 := n1_; have B2 := n2_; have B4 := n3_; have HN := n4_; clear n0_ n1_ n2_ n3_ n4_; clear hw; have hcz1_0 : w6.cell? ⟨g1, 0, none⟩ = some (.int .i64 a0) := (blk_cell B1.out 0).trans rfl; have hfz1_0 := blk_frozen B1.out 0; have hcz2_0 : w6.cell? ⟨g2, 0, none⟩ = some (.int .i64 0) := (blk_cell B2.out 0).trans rfl; have hfz2_0 := blk_frozen B2.out 0; have hcz2_1 : w6.cell? ⟨g2, 1, none⟩ = some (.slice none 0 0) := (blk_cell B2.out 1).trans rfl; have hfz2_1 := blk_frozen B2.out 1; have hcz4_0 : w6.cell? ⟨g4, 0, none⟩ = some (.slice A l.length c) := (blk_cell B4.out 0).trans rfl; have hfz4_0 := blk_frozen B4.out 0) | ((with_reducible refine gate_dst (N := 5) rfl ?_); refine box_event ?hg (N := 5) ?hd (cs := #[.int .i64 0]) (t := 2) ?hr ?_; (case hd => rfl); (case hg => rfl); (case hr => first | (go_simp; done) | (go_simp; rfl)); intro g5 hg w7 hbox hb; clear hcz1_0 hfz1_0 hcz2_0 hfz2_0 hcz2_1 hfz2_1 hcz4_0 hfz4_0; have n0_ := Aside0.mk (hbox); have n1_ := Aside0.mk ((by rw [hg]; exact below_size HB.out : w.heap.size ≤ g5)); have n2_ := Aside0.mk ((by rw [hg]; exact Nat.ne_of_lt (blk_lt B1.out) : g1 ≠ g5)); have n3_ := Aside0.mk ((by rw [hg]; exact Nat.ne_of_lt (blk_lt B2.out) : g2 ≠ g5)); have n4_ := Aside0.mk ((by rw [hg]; exact Nat.ne_of_lt (blk_lt B4.out) : g4 ≠ g5)); have n5_ := Aside0.mk ((by rw [hg]; exact Nat.le_refl _ : w6.heap.size ≤ g5)); have n6_ := Aside0.mk (below_step HB.out hb); have n7_ := Aside0.mk (blk_below B1.out hb); have n8_ := Aside0.mk (blk_below B2.out hb); have n9_ := Aside0.mk (blk_below B4.out hb); have n10_ := Aside0.mk (Kd.N_mono (ok' := fun k => k ≠ g5) (Kd.N_old HN.out hb) (fun k hk => by have h_ := hk.2; rw [hg]; exact Nat.ne_of_lt h_)); clear HB B1 B2 B4 HN; have B5 := n0_; have G5 := n1_; have N1_5 := n2_; have N2_5 := n3_; have N4_5 := n4_; have L5 := n5_; have HB := n6_; have B1 := n7_; have B2 := n8_; have B4 := n9_; have HN := n10_; clear n0_ n1_ n2_ n3_ n4_ n5_ n6_ n7_ n8_ n9_ n10_; clear hb hbox hg; have hcz1_0 : w7.cell? ⟨g1, 0, none⟩ = some (.int .i64 a0) := (blk_cell B1.out 0).trans rfl; have hfz1_0 := blk_frozen B1.out 0; have hcz2_0 : w7.cell? ⟨g2, 0, none⟩ = some (.int .i64 0) := (blk_cell B2.out 0).trans rfl; have hfz2_0 := blk_frozen B2.out 0; have hcz2_1 : w7.cell? ⟨g2, 1, none⟩ = some (.slice none 0 0) := (blk_cell B2.out 1).trans rfl; have hfz2_1 := blk_frozen B2.out 1; have hcz4_0 : w7.cell? ⟨g4, 0, none⟩ = some (.slice A l.length c) := (blk_cell B4.out 0).trans rfl; have hfz4_0 := blk_frozen B4.out 0; have hcz5_0 : w7.cell? ⟨g5, 0, none⟩ = some (.int .i64 0) := (blk_cell B5.out 0).trans rfl; have hfz5_0 := blk_frozen B5.out 0) | ((with_reducible refine gate_store (t := 2) (p := 5) rfl ?_); refine store_event (t := 2) (p := 5) (v := .tmp 13) (w1 := (w7.setCell ⟨g5, 0, none⟩ (.int .i64 (l.length : Int)))) rfl rfl rfl ?hr ?_; (case hr => first | (go_simp; done) | (go_simp; rfl)); intro w8 hw; clear hcz1_0 hfz1_0 hcz2_0 hfz2_0 hcz2_1 hfz2_1 hcz4_0 hfz4_0 hcz5_0 hfz5_0; have n0_ := Aside0.mk ((by rw [hw]; exact below_set HB.out G5.out : Below w.heap.size w w8)); have n1_ := Aside0.mk ((by rw [hw]; exact blk_far B1.out N1_5.out _ : w8.heap[g1]? = some (.cells #[.int .i64 a0] 2 (0, 0)))); have n2_ := Aside0.mk ((by rw [hw]; exact blk_far B2.out N2_5.out _ : w8.heap[g2]? = some (.cells #[.int .i64 0, .slice none 0 0] 34 (0, 0)))); have n3_ := Aside0.mk ((by rw [hw]; exact blk_far B4.out N4_5.out _ : w8.heap[g4]? = some (.cells #[.slice A l.length c] 28 (0, 0)))); have n4_ := Aside0.mk ((by rw [hw]; exact blk_put (cs := #[.int .i64 0]) B5.out 0 _ rfl : w8.heap[g5]? = some (.cells #[.int .i64 (l.length : Int)] 2 (0, 0)))); have n5_ := Aside0.mk ((by rw [hw]; exact Kd.N_far HN.out (fun k hk => hk) _ : Kd.N (Kd.slice 2 (Kd.int .i64)) 22 w8 w.heap.size _ (.slice A l.length c) l)); clear HB B1 B2 B4 B5 HN; have HB := n0_; have B1 := n1_; have B2 := n2_; have B4 := n3_; have B5 := n4_; have HN := n5_; clear n0_ n1_ n2_ n3_ n4_ n5_; clear hw; have hcz1_0 : w8.cell? ⟨g1, 0, none⟩ = some (.int .i64 a0) := (blk_cell B1.out 0).trans rfl; have hfz1_0 := blk_frozen B1.out 0; have hcz2_0 : w8.cell? ⟨g2, 0, none⟩ = some (.int .i64 0) := (blk_cell B2.out 0).trans rfl; have hfz2_0 := blk_frozen B2.out 0; have hcz2_1 : w8.cell? ⟨g2, 1, none⟩ = some (.slice none 0 0) := (blk_cell B2.out 1).trans rfl; have hfz2_1 := blk_frozen B2.out 1; have hcz4_0 : w8.cell? ⟨g4, 0, none⟩ = some (.slice A l.length c) := (blk_cell B4.out 0).trans rfl; have hfz4_0 := blk_frozen B4.out 0; have hcz5_0 : w8.cell? ⟨g5, 0, none⟩ = some (.int .i64 (l.length : Int)) := (blk_cell B5.out 0).trans rfl; have hfz5_0 := blk_frozen B5.out 0) | ((with_reducible refine gate_callee (f := 38) rfl ?_); refine goesL_ (some 21) rfl rfl Try.func38 (by kernel_rfl) rfl #[.int .i64 (2 * (l.length : Int)), .func (.func 42) #[] #[.pointer (some ⟨g5, 0, none⟩), .pointer (some ⟨g1, 0, none⟩), .pointer (some ⟨g4, 0, none⟩)]] rfl (by (try simp only [List.map_toArray, List.map_cons, List.map_nil]); first | done | rfl) ?_; (refine (made_.calls 42 _ Try.func42 rfl rfl (pl_is a0 l) k (2 * (l.length : Int)) t1 t2 (.pointer (some ⟨g5, 0, none⟩)) (.pointer (some ⟨g1, 0, none⟩)) (.pointer (some ⟨g4, 0, none⟩)) _ ?side1 H2.out).mono ?_); (case side1 => exact fun a b r W hW h_ => pl_calls a0 l g5 g1 g4 A c a b r W HM.out (blk_below B5.out hW) (blk_below B1.out hW) (blk_below B4.out hW) (Kd.C_below (Kd.N_reads' HN.out).2.2 hW) h_); rintro e w9 ⟨v9, rfl, ho0, hb⟩; refine ⟨_, rfl, ?_⟩; clear hcz1_0 hfz1_0 hcz2_0 hfz2_0 hcz2_1 hfz2_1 hcz4_0 hfz4_0 hcz5_0 hfz5_0; have HX := Aside0.mk (Kd.R_lower ho0 (below_size HB.out)); have n0_ := Aside0.mk (below_step HB.out hb); have n1_ := Aside0.mk (blk_below B1.out hb); have n2_ := Aside0.mk (blk_below B2.out hb); have n3_ := Aside0.mk (blk_below B4.out hb); have n4_ := Aside0.mk (blk_below B5.out hb); have n5_ := Aside0.mk (Kd.N_below HN.out hb); clear HB B1 B2 B4 B5 HN; have HB := n0_; have B1 := n1_; have B2 := n2_; have B4 := n3_; have B5 := n4_; have HN := n5_; clear n0_ n1_ n2_ n3_ n4_ n5_; clear hb ho0; obtain ⟨A9, c9, e9⟩ := Kd.R_slice HX.out; subst e9; have hcz1_0 : w9.cell? ⟨g1, 0, none⟩ = some (.int .i64 a0) := (blk_cell B1.out 0).trans rfl; have hfz1_0 := blk_frozen B1.out 0; have hcz2_0 : w9.cell? ⟨g2, 0, none⟩ = some (.int .i64 0) := (blk_cell B2.out 0).trans rfl; have hfz2_0 := blk_frozen B2.out 0; have hcz2_1 : w9.cell? ⟨g2, 1, none⟩ = some (.slice none 0 0) := (blk_cell B2.out 1).trans rfl; have hfz2_1 := blk_frozen B2.out 1; have hcz4_0 : w9.cell? ⟨g4, 0, none⟩ = some (.slice A l.length c) := (blk_cell B4.out 0).trans rfl; have hfz4_0 := blk_frozen B4.out 0; have hcz5_0 : w9.cell? ⟨g5, 0, none⟩ = some (.int .i64 (l.length : Int)) := (blk_cell B5.out 0).trans rfl; have hfz5_0 := blk_frozen B5.out 0))
      refine bodyPost_ret (results_ct rfl _ _ g2 34 #[.int .i64 t1, .slice A9 t2.length c9] (0, 0) _ rfl (by refine blk_put (cs := #[.int .i64 t1, .slice none 0 0]) ?_ 1 _ rfl; refine blk_put (cs := #[.int .i64 0, .slice none 0 0]) ?_ 0 _ rfl; exact B2.out) Try.underlying34 rfl (by kernel_rfl)) rfl ?_
      exact ⟨_, rfl, Kd.R_mono (Kd.R_far (p := ⟨g2, 1, none⟩) (Kd.R_far (p := ⟨g2, 0, none⟩) (Kd.R_types HX.out B2.out (by decide)) (fun _ hk => hk.2) (.int .i64 t1)) (fun _ hk => hk.2) (.slice A9 t2.length c9)) (fun _ _ => trivial), below_set (below_set HB.out G2.out) G2.out⟩

/-! ### laws_FnExactPlaneGraph: function 7 -/
mutual
def laws_FnExactPlaneGraph.j0 : Nat → Int → Int → Bool → Int → List Int → Int → List Int → Option (Bool)
  | 0, _, _, _, _, _, _, _ => none
  | k + 1, x0, x4, x29, x185000, x185001, x191000, x191001 => if x29 = true then (some false) else ((laws_markGraph.f k x191000 x191001 1).bind fun bt192 => ((laws_heldGraph.f k x191000 bt192.2 1).bind fun t194 => (if t194 < 0 then (some false) else (if t194 = bt192.1 then ((impl_PlaneGraph.f k x0).bind fun bt195 => ((laws_eqGraph.f k bt195.1 bt195.2.1 x185000 x185001).bind fun t201 => (if t201 = true then (laws_FnExactPlaneGraph.j1 k bt192.1 (bt195.2.2 != x4) x191000 bt192.2) else (laws_FnExactPlaneGraph.j1 k bt192.1 true x191000 bt192.2)))) else (some false)))))
def laws_FnExactPlaneGraph.j1 : Nat → Int → Bool → Int → List Int → Option (Bool)
  | 0, _, _, _, _ => none
  | k + 1, x7, x54, x191000, x191001 => if x54 = true then (some false) else ((laws_heldGraph.f k x191000 x191001 1).bind fun t202 => (if t202 < 0 then (some false) else (if t202 = x7 then (some true) else (some false))))
end
def laws_FnExactPlaneGraph.f (k : Nat) (a0 : Int) : Option (Bool) := (spec_PlaneGraph.f k a0).bind fun bt179 => ((impl_PlaneGraph.f k a0).bind fun bt185 => ((laws_eqGraph.f k bt185.1 bt185.2.1 bt179.1 bt179.2.1).bind fun t191 => (if t191 = true then (laws_FnExactPlaneGraph.j0 k a0 bt179.2.2 (bt185.2.2 != bt179.2.2) bt179.1 bt179.2.1 bt185.1 bt185.2.1) else (laws_FnExactPlaneGraph.j0 k a0 bt179.2.2 true bt179.1 bt179.2.1 bt185.1 bt185.2.1))))
theorem laws_FnExactPlaneGraph.mono_l : ∀ k, (∀ y0 y1 y2 y3 y4 y5 y6, LeO (laws_FnExactPlaneGraph.j0 k y0 y1 y2 y3 y4 y5 y6) (laws_FnExactPlaneGraph.j0 (k + 1) y0 y1 y2 y3 y4 y5 y6)) ∧ (∀ y0 y1 y2 y3, LeO (laws_FnExactPlaneGraph.j1 k y0 y1 y2 y3) (laws_FnExactPlaneGraph.j1 (k + 1) y0 y1 y2 y3))
  | 0 => ⟨fun _ _ _ _ _ _ _ r h => by simp [laws_FnExactPlaneGraph.j0] at h, fun _ _ _ _ r h => by simp [laws_FnExactPlaneGraph.j1] at h⟩
  | k + 1 => by
    obtain ⟨ih0, ih1⟩ := laws_FnExactPlaneGraph.mono_l k
    refine ⟨?_, ?_⟩
    · intro y0 y1 y2 y3 y4 y5 y6
      unfold laws_FnExactPlaneGraph.j0
      repeat' first
      | (with_reducible exact ih0 _ _ _ _ _ _ _)
      | (with_reducible exact ih1 _ _ _ _)
      | (with_reducible exact impl_PlaneGraph.mono _ _)
      | (with_reducible exact laws_eqGraph.mono _ _ _ _ _)
      | (with_reducible exact laws_heldGraph.mono _ _ _ _)
      | (with_reducible exact laws_markGraph.mono _ _ _ _)
      | (with_reducible exact spec_PlaneGraph.mono _ _)
      | (with_reducible exact LeO.refl _)
      | (with_reducible exact LeO.none _)
      | (with_reducible refine LeO.ite ?_ ?_)
      | (with_reducible refine LeO.bind ?_ (fun _ => ?_))
      | exact ih0 _ _ _ _ _ _ _
      | exact ih1 _ _ _ _
      | exact impl_PlaneGraph.mono _ _
      | exact laws_eqGraph.mono _ _ _ _ _
      | exact laws_heldGraph.mono _ _ _ _
      | exact laws_markGraph.mono _ _ _ _
      | exact spec_PlaneGraph.mono _ _
      | exact LeO.none _
      | refine LeO.ite ?_ ?_
      | refine LeO.bind ?_ (fun _ => ?_)
    · intro y0 y1 y2 y3
      unfold laws_FnExactPlaneGraph.j1
      repeat' first
      | (with_reducible exact ih0 _ _ _ _ _ _ _)
      | (with_reducible exact ih1 _ _ _ _)
      | (with_reducible exact impl_PlaneGraph.mono _ _)
      | (with_reducible exact laws_eqGraph.mono _ _ _ _ _)
      | (with_reducible exact laws_heldGraph.mono _ _ _ _)
      | (with_reducible exact laws_markGraph.mono _ _ _ _)
      | (with_reducible exact spec_PlaneGraph.mono _ _)
      | (with_reducible exact LeO.refl _)
      | (with_reducible exact LeO.none _)
      | (with_reducible refine LeO.ite ?_ ?_)
      | (with_reducible refine LeO.bind ?_ (fun _ => ?_))
      | exact ih0 _ _ _ _ _ _ _
      | exact ih1 _ _ _ _
      | exact impl_PlaneGraph.mono _ _
      | exact laws_eqGraph.mono _ _ _ _ _
      | exact laws_heldGraph.mono _ _ _ _
      | exact laws_markGraph.mono _ _ _ _
      | exact spec_PlaneGraph.mono _ _
      | exact LeO.none _
      | refine LeO.ite ?_ ?_
      | refine LeO.bind ?_ (fun _ => ?_)
theorem laws_FnExactPlaneGraph.mono : ∀ a0 k, LeO (laws_FnExactPlaneGraph.f k a0) (laws_FnExactPlaneGraph.f (k + 1) a0) := by
  intro a0 k
  obtain ⟨ih0, ih1⟩ := laws_FnExactPlaneGraph.mono_l k
  unfold laws_FnExactPlaneGraph.f
  repeat' first
      | (with_reducible exact ih0 _ _ _ _ _ _ _)
      | (with_reducible exact ih1 _ _ _ _)
      | (with_reducible exact impl_PlaneGraph.mono _ _)
      | (with_reducible exact laws_eqGraph.mono _ _ _ _ _)
      | (with_reducible exact laws_heldGraph.mono _ _ _ _)
      | (with_reducible exact laws_markGraph.mono _ _ _ _)
      | (with_reducible exact spec_PlaneGraph.mono _ _)
      | (with_reducible exact LeO.refl _)
      | (with_reducible exact LeO.none _)
      | (with_reducible refine LeO.ite ?_ ?_)
      | (with_reducible refine LeO.bind ?_ (fun _ => ?_))
      | exact ih0 _ _ _ _ _ _ _
      | exact ih1 _ _ _ _
      | exact impl_PlaneGraph.mono _ _
      | exact laws_eqGraph.mono _ _ _ _ _
      | exact laws_heldGraph.mono _ _ _ _
      | exact laws_markGraph.mono _ _ _ _
      | exact spec_PlaneGraph.mono _ _
      | exact LeO.none _
      | refine LeO.ite ?_ ?_
      | refine LeO.bind ?_ (fun _ => ?_)
set_option maxHeartbeats 8000000 in
set_option maxRecDepth 100000 in
theorem laws_FnExactPlaneGraph.calls (k : Nat) (a0 : Int) (r : Bool) (w : World) (h : laws_FnExactPlaneGraph.f k a0 = some r) :
    Calls Try.prog 7 #[.int .i64 a0] w fun e w' => e = .returned (.bool r) ∧ Below w.heap.size w w' := by
  have hu34 := Try.underlying34
  have HB := Aside0.mk (Below.refl w.heap.size w)
  have H : ((spec_PlaneGraph.f k a0).bind fun bt179 => ((impl_PlaneGraph.f k a0).bind fun bt185 => ((laws_eqGraph.f k bt185.1 bt185.2.1 bt179.1 bt179.2.1).bind fun t191 => (if t191 = true then (laws_FnExactPlaneGraph.j0 k a0 bt179.2.2 (bt185.2.2 != bt179.2.2) bt179.1 bt179.2.1 bt185.1 bt185.2.1) else (laws_FnExactPlaneGraph.j0 k a0 bt179.2.2 true bt179.1 bt179.2.1 bt185.1 bt185.2.1))))) = some r := h
  clear h
  replace H := Option.bind_eq_some_iff.mp H
  obtain ⟨⟨t179, t180, t183⟩, A20, H⟩ := H
  replace H : ((impl_PlaneGraph.f k a0).bind fun bt185 => ((laws_eqGraph.f k bt185.1 bt185.2.1 t179 t180).bind fun t191 => (if t191 = true then (laws_FnExactPlaneGraph.j0 k a0 t183 (bt185.2.2 != t183) t179 t180 bt185.1 bt185.2.1) else (laws_FnExactPlaneGraph.j0 k a0 t183 true t179 t180 bt185.1 bt185.2.1)))) = some r := H
  have A2 := Aside0.mk A20
  clear A20
  replace H := Option.bind_eq_some_iff.mp H
  obtain ⟨⟨t185, t186, t189⟩, A30, H⟩ := H
  replace H : ((laws_eqGraph.f k t185 t186 t179 t180).bind fun t191 => (if t191 = true then (laws_FnExactPlaneGraph.j0 k a0 t183 (t189 != t183) t179 t180 t185 t186) else (laws_FnExactPlaneGraph.j0 k a0 t183 true t179 t180 t185 t186))) = some r := H
  have A3 := Aside0.mk A30
  clear A30
  have HC4 := Aside0.mk H
  clear H
  go_enter Try.func7, Try.ntmps7
  go_upto_region 3 with (first | ((with_reducible refine gate_callee (f := 25) rfl ?_); refine goesL_ (some 13) rfl rfl Try.func25 (by kernel_rfl) rfl #[.int .i64 a0] rfl (by (try simp only [List.map_toArray, List.map_cons, List.map_nil]); first | done | rfl | (simp only [List.length_drop, List.length_take]; rfl)) ?_; (with_reducible refine (spec_PlaneGraph.calls k a0 t179 t180 t183 _ A2.out).mono ?_); rintro e w5 ⟨v181, rfl, ho0, hb⟩; refine ⟨_, rfl, ?_⟩; have n0_ := Aside0.mk (Kd.R_lower ho0 (below_size (by repeat (first | (with_reducible first | exact HB.out | apply below_alloc | apply pw_below_drewN | apply below_drew1) | exact HB.out)))); have n1_ := Aside0.mk (below_step (by repeat (first | (with_reducible first | exact HB.out | apply below_alloc | apply pw_below_drewN | apply below_drew1) | exact HB.out)) hb); clear HB; have HO182 := n0_; have HB := n1_; clear n0_ n1_; (try clear hb); (try clear hb2); (try clear hk); (try clear hi); (try clear ho0)) | ((with_reducible refine gate_dst (N := 3) rfl ?_); refine box_event ?hg (N := 3) ?hd (cs := #[.int .i64 0, .slice none 0 0]) (t := 34) ?hr ?_; (case hd => rfl); (case hg => rfl); (case hr => first | (go_simp; done) | (go_simp; rfl)); intro gb184 hg w6 hbox hb; have n0_ := Aside0.mk (Kd.R_below (by (with_reducible repeat (first | apply Kd.R_alloc | apply Kd.R_drewN | apply Kd.R_drew)); exact HO182.out) hb); have n1_ := Aside0.mk (below_step (by repeat (first | (with_reducible first | exact HB.out | apply below_alloc | apply pw_below_drewN | apply below_drew1) | exact HB.out)) hb); have n2_ := Aside0.mk (hbox); have n3_ := Aside0.mk ((by rw [hg]; exact (below_size (by repeat (first | (with_reducible first | exact HB.out | apply below_alloc | apply pw_below_drewN | apply below_drew1) | exact HB.out))) : w.heap.size ≤ gb184)); have n4_ := Aside0.mk ((by rw [hg]; exact (below_size (by repeat (first | (with_reducible first | exact HB.out | apply below_alloc | apply pw_below_drewN | apply below_drew1) | exact HB.out))) : w.heap.size ≤ gb184)); clear HO182; clear HB; have HO182 := n0_; have HB := n1_; have BK184 := n2_; have GW184 := n3_; have GE184 := n4_; clear n0_ n1_ n2_ n3_ n4_; clear hb hbox hg; have hcz7_0 : w6.cell? ⟨gb184, 0, none⟩ = some (.int .i64 0) := (blk_cell BK184.out 0).trans rfl; have hcz7_1 : w6.cell? ⟨gb184, 1, none⟩ = some (.slice none 0 0) := (blk_cell BK184.out 1).trans rfl; have hfz7_0 := blk_frozen BK184.out 0; have hfz7_1 := blk_frozen BK184.out 1; obtain ⟨Ao8, co8, eo8⟩ := Kd.R_slice HO182.out; subst eo8) | ((with_reducible refine gate_callee (f := 26) rfl ?_); refine goesL_ (some 18) rfl rfl Try.func26 (by kernel_rfl) rfl #[.int .i64 a0] rfl (by (try simp only [List.map_toArray, List.map_cons, List.map_nil]); first | done | rfl | (simp only [List.length_drop, List.length_take]; rfl)) ?_; (with_reducible refine (impl_PlaneGraph.calls k a0 t185 t186 t189 _ A3.out).mono ?_); rintro e w9 ⟨v187, rfl, ho0, hb⟩; refine ⟨_, rfl, ?_⟩; have n0_ := Aside0.mk (Kd.R_elder' (by (with_reducible repeat (first | apply Kd.R_alloc | apply Kd.R_drewN | apply Kd.R_drew)); exact (Kd.R_mono (Kd.R_far (p := ⟨gb184, 1, none⟩) (Kd.R_far (p := ⟨gb184, 0, none⟩) (Kd.R_types HO182.out BK184.out (by decide)) (fun _ hk => hk.2) (.int .i64 t179)) (fun _ hk => hk.2) (.slice Ao8 t180.length co8)) (fun _ h_ => h_.1))) (Kd.R_base ho0) hb); have n1_ := Aside0.mk (Kd.R_lower (Kd.R_new' ho0 (Kd.R_lt (by (with_reducible repeat (first | apply Kd.R_alloc | apply Kd.R_drewN | apply Kd.R_drew)); exact (Kd.R_mono (Kd.R_far (p := ⟨gb184, 1, none⟩) (Kd.R_far (p := ⟨gb184, 0, none⟩) (Kd.R_types HO182.out BK184.out (by decide)) (fun _ hk => hk.2) (.int .i64 t179)) (fun _ hk => hk.2) (.slice Ao8 t180.length co8)) (fun _ h_ => h_.1))))) (below_size (by repeat (first | (with_reducible first | exact HB.out | apply below_alloc | apply pw_below_drewN | apply below_drew1 | refine below_set ?_ GE184.out) | exact HB.out)))); have n2_ := Aside0.mk (blk_below (g := gb184) (o := .cells #[.int .i64 t179, .slice Ao8 t180.length co8] 34 (0, 0)) (by (with_reducible repeat (first | refine blk_drewN ?_ _ | refine blk_drew ?_ | refine blk_alloc ?_ _)); refine blk_put (cs := #[.int .i64 t179, .slice none 0 0]) ?_ 1 _ rfl; (with_reducible repeat (first | refine blk_drewN ?_ _ | refine blk_drew ?_ | refine blk_alloc ?_ _)); refine blk_put (cs := #[.int .i64 0, .slice none 0 0]) ?_ 0 _ rfl; (with_reducible repeat (first | refine blk_drewN ?_ _ | refine blk_drew ?_ | refine blk_alloc ?_ _)); exact BK184.out) hb); have n3_ := Aside0.mk (below_step (by repeat (first | (with_reducible first | exact HB.out | apply below_alloc | apply pw_below_drewN | apply below_drew1 | refine below_set ?_ GE184.out) | exact HB.out)) hb); clear HO182; clear BK184; clear HB; have HO182 := n0_; have HO188 := n1_; have BK184 := n2_; have HB := n3_; clear n0_ n1_ n2_ n3_; (try clear hb); (try clear hb2); (try clear hk); (try clear hi); (try clear ho0)) | ((with_reducible refine gate_dst (N := 5) rfl ?_); refine box_event ?hg (N := 5) ?hd (cs := #[.int .i64 0, .slice none 0 0]) (t := 34) ?hr ?_; (case hd => rfl); (case hg => rfl); (case hr => first | (go_simp; done) | (go_simp; rfl)); intro gb190 hg w10 hbox hb; have n0_ := Aside0.mk (Kd.R_below (by (with_reducible repeat (first | apply Kd.R_alloc | apply Kd.R_drewN | apply Kd.R_drew)); exact HO182.out) hb); have n1_ := Aside0.mk (Kd.R_below (by (with_reducible repeat (first | apply Kd.R_alloc | apply Kd.R_drewN | apply Kd.R_drew)); exact HO188.out) hb); have n2_ := Aside0.mk (blk_below (g := gb184) (o := .cells #[.int .i64 t179, .slice Ao8 t180.length co8] 34 (0, 0)) (by (with_reducible repeat (first | refine blk_drewN ?_ _ | refine blk_drew ?_ | refine blk_alloc ?_ _)); exact BK184.out) hb); have n3_ := Aside0.mk (below_step (by repeat (first | (with_reducible first | exact HB.out | apply below_alloc | apply pw_below_drewN | apply below_drew1 | refine below_set ?_ GE184.out) | exact HB.out)) hb); have n4_ := Aside0.mk (hbox); have n5_ := Aside0.mk ((by rw [hg]; exact (below_size (by repeat (first | (with_reducible first | exact HB.out | apply below_alloc | apply pw_below_drewN | apply below_drew1 | refine below_set ?_ GE184.out) | exact HB.out))) : w.heap.size ≤ gb190)); have n6_ := Aside0.mk ((by rw [hg]; exact (below_size (by repeat (first | (with_reducible first | exact HB.out | apply below_alloc | apply pw_below_drewN | apply below_drew1 | refine below_set ?_ GE184.out) | exact HB.out))) : w.heap.size ≤ gb190)); have n7_ := Aside0.mk ((by rw [hg]; exact Nat.ne_of_lt (blk_lt (g := gb184) (o := .cells #[.int .i64 t179, .slice Ao8 t180.length co8] 34 (0, 0)) (by (with_reducible repeat (first | refine blk_drewN ?_ _ | refine blk_drew ?_ | refine blk_alloc ?_ _)); exact BK184.out)) : gb184 ≠ gb190)); have n8_ := Aside0.mk ((by rw [hg]; exact Nat.ne_of_gt (blk_lt (g := gb184) (o := .cells #[.int .i64 t179, .slice Ao8 t180.length co8] 34 (0, 0)) (by (with_reducible repeat (first | refine blk_drewN ?_ _ | refine blk_drew ?_ | refine blk_alloc ?_ _)); exact BK184.out)) : gb190 ≠ gb184)); clear HO182; clear HO188; clear BK184; clear HB; have HO182 := n0_; have HO188 := n1_; have BK184 := n2_; have HB := n3_; have BK190 := n4_; have GW190 := n5_; have GE190 := n6_; have NB184_190 := n7_; have NB190_184 := n8_; clear n0_ n1_ n2_ n3_ n4_ n5_ n6_ n7_ n8_; clear hb hbox hg; have hnb11 := NB190_184.out; have hnc11 := NB184_190.out; have hcz12_0 : w10.cell? ⟨gb190, 0, none⟩ = some (.int .i64 0) := (blk_cell BK190.out 0).trans rfl; have hcz12_1 : w10.cell? ⟨gb190, 1, none⟩ = some (.slice none 0 0) := (blk_cell BK190.out 1).trans rfl; have hfz12_0 := blk_frozen BK190.out 0; have hfz12_1 := blk_frozen BK190.out 1; obtain ⟨Ao13, co13, eo13⟩ := Kd.R_slice HO188.out; subst eo13))
  (try simp only [Act.put, List.setIfInBounds_toArray, List.set_cons_zero, List.set_cons_succ])
  go_cut [29] (fun v29 wc => ∃ (kq : Nat) (x29_3 : Bool), v29 = .bool x29_3 ∧ Aside0 (laws_FnExactPlaneGraph.j0 kq a0 t183 x29_3 t179 t180 t185 t186 = some r) ∧ Aside0 (kq ≤ k) ∧ Aside0 (Kd.R (Kd.int .i64) 2 wc w.heap.size (fun k_ => some k_ ≠ ((.slice Ao13 t186.length co13) : Value).ownBlock) (.slice Ao8 t180.length co8) t180) ∧ Aside0 (Kd.R (Kd.int .i64) 2 wc w.heap.size (fun k_ => some k_ ≠ ((.slice Ao8 t180.length co8) : Value).ownBlock) (.slice Ao13 t186.length co13) t186) ∧ Aside0 (wc.heap[gb184]? = some (.cells #[.int .i64 t179, (.slice Ao8 t180.length co8)] 34 (0, 0))) ∧ Aside0 (wc.heap[gb190]? = some (.cells #[.int .i64 t185, (.slice Ao13 t186.length co13)] 34 (0, 0))) ∧ Aside0 (Below w.heap.size w wc))
  case first =>
    have H := HC4.out
    clear HC4
    replace H := Option.bind_eq_some_iff.mp H
    obtain ⟨t191, A140, H⟩ := H
    replace H : (if t191 = true then (laws_FnExactPlaneGraph.j0 k a0 t183 (t189 != t183) t179 t180 t185 t186) else (laws_FnExactPlaneGraph.j0 k a0 t183 true t179 t180 t185 t186)) = some r := H
    have A14 := Aside0.mk A140
    clear A140
    by_cases c15 : t191 = true
    · subst c15
      have H1 : (laws_FnExactPlaneGraph.j0 k a0 t183 (t189 != t183) t179 t180 t185 t186) = some r := by rw [if_pos rfl] at H; exact H
      clear H
      have H := H1
      clear H1
      have H' := Aside0.mk H
      clear H
      have hnb16 := NB190_184.out
      have hnc16 := NB184_190.out
      have hcz17_0 : w10.cell? ⟨gb190, 0, none⟩ = some (.int .i64 0) := (blk_cell BK190.out 0).trans rfl
      have hcz17_1 : w10.cell? ⟨gb190, 1, none⟩ = some (.slice none 0 0) := (blk_cell BK190.out 1).trans rfl
      have hfz17_0 := blk_frozen BK190.out 0
      have hfz17_1 := blk_frozen BK190.out 1
      have hcz18_0 : w10.cell? ⟨gb184, 0, none⟩ = some (.int .i64 t179) := (blk_cell BK184.out 0).trans rfl
      have hcz18_1 : w10.cell? ⟨gb184, 1, none⟩ = some (.slice Ao8 t180.length co8) := (blk_cell BK184.out 1).trans rfl
      have hfz18_0 := blk_frozen BK184.out 0
      have hfz18_1 := blk_frozen BK184.out 1
      go_wp2_with (first | ((with_reducible refine gate_callee (f := 20) rfl ?_); refine goesL_ (some 23) rfl rfl Try.func20 (by kernel_rfl) rfl #[.agg #[.int .i64 t185, .slice Ao13 t186.length co13], .agg #[.int .i64 t179, .slice Ao8 t180.length co8]] rfl (by (try simp only [List.map_toArray, List.map_cons, List.map_nil]); first | done | rfl | (simp only [List.length_drop, List.length_take]; rfl)) ?_; (with_reducible refine (laws_eqGraph.calls k t185 _ _ t186 t179 _ _ t180 true _ ?side1 ?side2 ?side3 ?side4 A14.out).mono ?_); (case side1 => refine (Kd.R_reads' (e := 2) (base := w.heap.size) (ok := fun k_ => (True ∧ some k_ ≠ (.slice Ao8 t180.length co8 : Value).ownBlock)) (n := t186.length) (c := co13) ?_).2.2; exact (by (with_reducible repeat (first | apply Kd.R_alloc | apply Kd.R_drewN | apply Kd.R_drew)); exact (Kd.R_mono (Kd.R_far (p := ⟨gb190, 1, none⟩) (Kd.R_far (p := ⟨gb190, 0, none⟩) (Kd.R_types HO188.out BK190.out (by decide)) (fun _ hk => hk.2) (.int .i64 t185)) (fun _ hk => hk.2) (.slice Ao13 t186.length co13)) (fun _ h_ => h_.1)))); (case side2 => exact (Kd.R_reads' HO188.out).2.1); (case side3 => refine (Kd.R_reads' (e := 2) (base := w.heap.size) (ok := fun k_ => (True ∧ some k_ ≠ (.slice Ao13 t186.length co13 : Value).ownBlock)) (n := t180.length) (c := co8) ?_).2.2; exact (by (with_reducible repeat (first | apply Kd.R_alloc | apply Kd.R_drewN | apply Kd.R_drew)); exact (Kd.R_mono (Kd.R_far (p := ⟨gb190, 1, none⟩) (Kd.R_far (p := ⟨gb190, 0, none⟩) (Kd.R_types HO182.out BK190.out (by decide)) (fun _ hk => hk.2) (.int .i64 t185)) (fun _ hk => hk.2) (.slice Ao13 t186.length co13)) (fun _ h_ => h_.1)))); (case side4 => exact (Kd.R_reads' HO182.out).2.1); rintro e w19 ⟨rfl, hb⟩; refine ⟨_, rfl, ?_⟩; have n0_ := Aside0.mk (Kd.R_below (by (with_reducible repeat (first | apply Kd.R_alloc | apply Kd.R_drewN | apply Kd.R_drew)); exact (Kd.R_mono (Kd.R_far (p := ⟨gb190, 1, none⟩) (Kd.R_far (p := ⟨gb190, 0, none⟩) (Kd.R_types HO182.out BK190.out (by decide)) (fun _ hk => hk.2) (.int .i64 t185)) (fun _ hk => hk.2) (.slice Ao13 t186.length co13)) (fun _ h_ => h_.1))) hb); have n1_ := Aside0.mk (Kd.R_below (by (with_reducible repeat (first | apply Kd.R_alloc | apply Kd.R_drewN | apply Kd.R_drew)); exact (Kd.R_mono (Kd.R_far (p := ⟨gb190, 1, none⟩) (Kd.R_far (p := ⟨gb190, 0, none⟩) (Kd.R_types HO188.out BK190.out (by decide)) (fun _ hk => hk.2) (.int .i64 t185)) (fun _ hk => hk.2) (.slice Ao13 t186.length co13)) (fun _ h_ => h_.1))) hb); have n2_ := Aside0.mk (blk_below (g := gb184) (o := .cells #[.int .i64 t179, .slice Ao8 t180.length co8] 34 (0, 0)) (by (with_reducible repeat (first | refine blk_drewN ?_ _ | refine blk_drew ?_ | refine blk_alloc ?_ _)); refine blk_far ?_ NB184_190.out _; (with_reducible repeat (first | refine blk_drewN ?_ _ | refine blk_drew ?_ | refine blk_alloc ?_ _)); refine blk_far ?_ NB184_190.out _; (with_reducible repeat (first | refine blk_drewN ?_ _ | refine blk_drew ?_ | refine blk_alloc ?_ _)); exact BK184.out) hb); have n3_ := Aside0.mk (blk_below (g := gb190) (o := .cells #[.int .i64 t185, .slice Ao13 t186.length co13] 34 (0, 0)) (by (with_reducible repeat (first | refine blk_drewN ?_ _ | refine blk_drew ?_ | refine blk_alloc ?_ _)); refine blk_put (cs := #[.int .i64 t185, .slice none 0 0]) ?_ 1 _ rfl; (with_reducible repeat (first | refine blk_drewN ?_ _ | refine blk_drew ?_ | refine blk_alloc ?_ _)); refine blk_put (cs := #[.int .i64 0, .slice none 0 0]) ?_ 0 _ rfl; (with_reducible repeat (first | refine blk_drewN ?_ _ | refine blk_drew ?_ | refine blk_alloc ?_ _)); exact BK190.out) hb); have n4_ := Aside0.mk (below_step (by repeat (first | (with_reducible first | exact HB.out | apply below_alloc | apply pw_below_drewN | apply below_drew1 | refine below_set ?_ GE184.out | refine below_set ?_ GE190.out) | exact HB.out)) hb); clear HO182; clear HO188; clear BK184; clear BK190; clear HB; have HO182 := n0_; have HO188 := n1_; have BK184 := n2_; have BK190 := n3_; have HB := n4_; clear n0_ n1_ n2_ n3_ n4_; (try clear hb); (try clear hb2); (try clear hk); (try clear hi)))
      go_meet
      case rel => exact ⟨_, ((t189 != t183)), (by first | rfl | (simp; done) | (simp [*]; done)), H', ⟨by first | omega | exact Nat.le_refl _⟩, ⟨by (with_reducible repeat (first | apply Kd.R_alloc | apply Kd.R_drewN | apply Kd.R_drew)); exact Kd.R_mono HO182.out (fun _ hk => hk.2)⟩, ⟨by (with_reducible repeat (first | apply Kd.R_alloc | apply Kd.R_drewN | apply Kd.R_drew)); exact Kd.R_mono HO188.out (fun _ hk => hk.2)⟩, ⟨by (with_reducible repeat (first | refine blk_drewN ?_ _ | refine blk_drew ?_ | refine blk_alloc ?_ _)); exact BK184.out⟩, ⟨by (with_reducible repeat (first | refine blk_drewN ?_ _ | refine blk_drew ?_ | refine blk_alloc ?_ _)); exact BK190.out⟩, ⟨by repeat (first | (with_reducible first | exact HB.out | apply below_alloc | apply pw_below_drewN | apply below_drew1 | refine below_set ?_ GE184.out | refine below_set ?_ GE190.out) | exact HB.out)⟩⟩
    · replace c15 := Bool.eq_false_iff.mpr c15
      subst c15
      have H1 : (laws_FnExactPlaneGraph.j0 k a0 t183 true t179 t180 t185 t186) = some r := by rw [if_neg (show ¬ (false = true) by decide)] at H; exact H
      clear H
      have H := H1
      clear H1
      have H' := Aside0.mk H
      clear H
      have hnb20 := NB190_184.out
      have hnc20 := NB184_190.out
      have hcz21_0 : w10.cell? ⟨gb190, 0, none⟩ = some (.int .i64 0) := (blk_cell BK190.out 0).trans rfl
      have hcz21_1 : w10.cell? ⟨gb190, 1, none⟩ = some (.slice none 0 0) := (blk_cell BK190.out 1).trans rfl
      have hfz21_0 := blk_frozen BK190.out 0
      have hfz21_1 := blk_frozen BK190.out 1
      have hcz22_0 : w10.cell? ⟨gb184, 0, none⟩ = some (.int .i64 t179) := (blk_cell BK184.out 0).trans rfl
      have hcz22_1 : w10.cell? ⟨gb184, 1, none⟩ = some (.slice Ao8 t180.length co8) := (blk_cell BK184.out 1).trans rfl
      have hfz22_0 := blk_frozen BK184.out 0
      have hfz22_1 := blk_frozen BK184.out 1
      go_wp2_with (first | ((with_reducible refine gate_callee (f := 20) rfl ?_); refine goesL_ (some 23) rfl rfl Try.func20 (by kernel_rfl) rfl #[.agg #[.int .i64 t185, .slice Ao13 t186.length co13], .agg #[.int .i64 t179, .slice Ao8 t180.length co8]] rfl (by (try simp only [List.map_toArray, List.map_cons, List.map_nil]); first | done | rfl | (simp only [List.length_drop, List.length_take]; rfl)) ?_; (with_reducible refine (laws_eqGraph.calls k t185 _ _ t186 t179 _ _ t180 false _ ?side1 ?side2 ?side3 ?side4 A14.out).mono ?_); (case side1 => refine (Kd.R_reads' (e := 2) (base := w.heap.size) (ok := fun k_ => (True ∧ some k_ ≠ (.slice Ao8 t180.length co8 : Value).ownBlock)) (n := t186.length) (c := co13) ?_).2.2; exact (by (with_reducible repeat (first | apply Kd.R_alloc | apply Kd.R_drewN | apply Kd.R_drew)); exact (Kd.R_mono (Kd.R_far (p := ⟨gb190, 1, none⟩) (Kd.R_far (p := ⟨gb190, 0, none⟩) (Kd.R_types HO188.out BK190.out (by decide)) (fun _ hk => hk.2) (.int .i64 t185)) (fun _ hk => hk.2) (.slice Ao13 t186.length co13)) (fun _ h_ => h_.1)))); (case side2 => exact (Kd.R_reads' HO188.out).2.1); (case side3 => refine (Kd.R_reads' (e := 2) (base := w.heap.size) (ok := fun k_ => (True ∧ some k_ ≠ (.slice Ao13 t186.length co13 : Value).ownBlock)) (n := t180.length) (c := co8) ?_).2.2; exact (by (with_reducible repeat (first | apply Kd.R_alloc | apply Kd.R_drewN | apply Kd.R_drew)); exact (Kd.R_mono (Kd.R_far (p := ⟨gb190, 1, none⟩) (Kd.R_far (p := ⟨gb190, 0, none⟩) (Kd.R_types HO182.out BK190.out (by decide)) (fun _ hk => hk.2) (.int .i64 t185)) (fun _ hk => hk.2) (.slice Ao13 t186.length co13)) (fun _ h_ => h_.1)))); (case side4 => exact (Kd.R_reads' HO182.out).2.1); rintro e w23 ⟨rfl, hb⟩; refine ⟨_, rfl, ?_⟩; have n0_ := Aside0.mk (Kd.R_below (by (with_reducible repeat (first | apply Kd.R_alloc | apply Kd.R_drewN | apply Kd.R_drew)); exact (Kd.R_mono (Kd.R_far (p := ⟨gb190, 1, none⟩) (Kd.R_far (p := ⟨gb190, 0, none⟩) (Kd.R_types HO182.out BK190.out (by decide)) (fun _ hk => hk.2) (.int .i64 t185)) (fun _ hk => hk.2) (.slice Ao13 t186.length co13)) (fun _ h_ => h_.1))) hb); have n1_ := Aside0.mk (Kd.R_below (by (with_reducible repeat (first | apply Kd.R_alloc | apply Kd.R_drewN | apply Kd.R_drew)); exact (Kd.R_mono (Kd.R_far (p := ⟨gb190, 1, none⟩) (Kd.R_far (p := ⟨gb190, 0, none⟩) (Kd.R_types HO188.out BK190.out (by decide)) (fun _ hk => hk.2) (.int .i64 t185)) (fun _ hk => hk.2) (.slice Ao13 t186.length co13)) (fun _ h_ => h_.1))) hb); have n2_ := Aside0.mk (blk_below (g := gb184) (o := .cells #[.int .i64 t179, .slice Ao8 t180.length co8] 34 (0, 0)) (by (with_reducible repeat (first | refine blk_drewN ?_ _ | refine blk_drew ?_ | refine blk_alloc ?_ _)); refine blk_far ?_ NB184_190.out _; (with_reducible repeat (first | refine blk_drewN ?_ _ | refine blk_drew ?_ | refine blk_alloc ?_ _)); refine blk_far ?_ NB184_190.out _; (with_reducible repeat (first | refine blk_drewN ?_ _ | refine blk_drew ?_ | refine blk_alloc ?_ _)); exact BK184.out) hb); have n3_ := Aside0.mk (blk_below (g := gb190) (o := .cells #[.int .i64 t185, .slice Ao13 t186.length co13] 34 (0, 0)) (by (with_reducible repeat (first | refine blk_drewN ?_ _ | refine blk_drew ?_ | refine blk_alloc ?_ _)); refine blk_put (cs := #[.int .i64 t185, .slice none 0 0]) ?_ 1 _ rfl; (with_reducible repeat (first | refine blk_drewN ?_ _ | refine blk_drew ?_ | refine blk_alloc ?_ _)); refine blk_put (cs := #[.int .i64 0, .slice none 0 0]) ?_ 0 _ rfl; (with_reducible repeat (first | refine blk_drewN ?_ _ | refine blk_drew ?_ | refine blk_alloc ?_ _)); exact BK190.out) hb); have n4_ := Aside0.mk (below_step (by repeat (first | (with_reducible first | exact HB.out | apply below_alloc | apply pw_below_drewN | apply below_drew1 | refine below_set ?_ GE184.out | refine below_set ?_ GE190.out) | exact HB.out)) hb); clear HO182; clear HO188; clear BK184; clear BK190; clear HB; have HO182 := n0_; have HO188 := n1_; have BK184 := n2_; have BK190 := n3_; have HB := n4_; clear n0_ n1_ n2_ n3_ n4_; (try clear hb); (try clear hb2); (try clear hk); (try clear hi)))
      go_meet
      case rel => exact ⟨_, (true), (by first | rfl | (simp; done) | (simp [*]; done)), H', ⟨by first | omega | exact Nat.le_refl _⟩, ⟨by (with_reducible repeat (first | apply Kd.R_alloc | apply Kd.R_drewN | apply Kd.R_drew)); exact Kd.R_mono HO182.out (fun _ hk => hk.2)⟩, ⟨by (with_reducible repeat (first | apply Kd.R_alloc | apply Kd.R_drewN | apply Kd.R_drew)); exact Kd.R_mono HO188.out (fun _ hk => hk.2)⟩, ⟨by (with_reducible repeat (first | refine blk_drewN ?_ _ | refine blk_drew ?_ | refine blk_alloc ?_ _)); exact BK184.out⟩, ⟨by (with_reducible repeat (first | refine blk_drewN ?_ _ | refine blk_drew ?_ | refine blk_alloc ?_ _)); exact BK190.out⟩, ⟨by repeat (first | (with_reducible first | exact HB.out | apply below_alloc | apply pw_below_drewN | apply below_drew1 | refine below_set ?_ GE184.out | refine below_set ?_ GE190.out) | exact HB.out)⟩⟩
  case rest =>
    clear HC4
    try clear c1
    try clear c2
    try clear p2
    try clear c7
    try clear c11
    try clear c15
    try clear c16
    try clear c20
    try clear hcz12_0
    try clear hcz12_1
    try clear hcz17_0
    try clear hcz17_1
    try clear hcz18_0
    try clear hcz18_1
    try clear hcz21_0
    try clear hcz21_1
    try clear hcz22_0
    try clear hcz22_1
    try clear hcz7_0
    try clear hcz7_1
    try clear hfz12_0
    try clear hfz12_1
    try clear hfz17_0
    try clear hfz17_1
    try clear hfz18_0
    try clear hfz18_1
    try clear hfz21_0
    try clear hfz21_1
    try clear hfz22_0
    try clear hfz22_1
    try clear hfz7_0
    try clear hfz7_1
    obtain ⟨kq, x29_3, rfl, HA, HJ3, HO_185001, HO_191001, BK184, BK190, HB⟩ := hcut
    cases kq with
    | zero => exact absurd HA.out (by simp [laws_FnExactPlaneGraph.j0])
    | succ kj3 =>
      have H := HA.out
      clear HA
      simp only [laws_FnExactPlaneGraph.j0] at H
      by_cases c24 : x29_3 = true
      · subst c24
        have H1 : (some false) = some r := by rw [if_pos rfl] at H; exact H
        clear H
        have H := H1
        clear H1
        obtain rfl := Option.some.inj H
        go_wp2
        go_ret
        exact ⟨by first | rfl | (simp [errW_none, errW_some] <;> rfl) | (simp [*, errW_none, errW_some] <;> rfl), by repeat (first | (with_reducible first | exact HB.out | apply below_alloc | apply pw_below_drewN | apply below_drew1 | refine below_set ?_ GE184.out | refine below_set ?_ GE190.out) | exact HB.out)⟩
      · replace c24 := Bool.eq_false_iff.mpr c24
        subst c24
        have H1 : ((laws_markGraph.f kj3 t185 t186 1).bind fun bt192 => ((laws_heldGraph.f kj3 t185 bt192.2 1).bind fun t194 => (if t194 < 0 then (some false) else (if t194 = bt192.1 then ((impl_PlaneGraph.f kj3 a0).bind fun bt195 => ((laws_eqGraph.f kj3 bt195.1 bt195.2.1 t179 t180).bind fun t201 => (if t201 = true then (laws_FnExactPlaneGraph.j1 kj3 bt192.1 (bt195.2.2 != t183) t185 bt192.2) else (laws_FnExactPlaneGraph.j1 kj3 bt192.1 true t185 bt192.2)))) else (some false))))) = some r := by rw [if_neg (show ¬ (false = true) by decide)] at H; exact H
        clear H
        have H := H1
        clear H1
        replace H := Option.bind_eq_some_iff.mp H
        obtain ⟨⟨t192, t193⟩, A250, H⟩ := H
        replace H : ((laws_heldGraph.f kj3 t185 t193 1).bind fun t194 => (if t194 < 0 then (some false) else (if t194 = t192 then ((impl_PlaneGraph.f kj3 a0).bind fun bt195 => ((laws_eqGraph.f kj3 bt195.1 bt195.2.1 t179 t180).bind fun t201 => (if t201 = true then (laws_FnExactPlaneGraph.j1 kj3 t192 (bt195.2.2 != t183) t185 t193) else (laws_FnExactPlaneGraph.j1 kj3 t192 true t185 t193)))) else (some false)))) = some r := H
        have A25 := Aside0.mk A250
        clear A250
        replace H := Option.bind_eq_some_iff.mp H
        obtain ⟨t194, A260, H⟩ := H
        replace H : (if t194 < 0 then (some false) else (if t194 = t192 then ((impl_PlaneGraph.f kj3 a0).bind fun bt195 => ((laws_eqGraph.f kj3 bt195.1 bt195.2.1 t179 t180).bind fun t201 => (if t201 = true then (laws_FnExactPlaneGraph.j1 kj3 t192 (bt195.2.2 != t183) t185 t193) else (laws_FnExactPlaneGraph.j1 kj3 t192 true t185 t193)))) else (some false))) = some r := H
        have A26 := Aside0.mk A260
        clear A260
        by_cases c27 : t194 < 0
        · rw [if_pos c27] at H
          have c27b0 : decide (t194 < 0) = true := decide_eq_true c27
          clear c27
          obtain rfl := Option.some.inj H
          have hnb28 := NB190_184.out
          have hnc28 := NB184_190.out
          have hcz29_0 : wc.cell? ⟨gb190, 0, none⟩ = some (.int .i64 t185) := (blk_cell BK190.out 0).trans rfl
          have hcz29_1 : wc.cell? ⟨gb190, 1, none⟩ = some (.slice Ao13 t186.length co13) := (blk_cell BK190.out 1).trans rfl
          have hfz29_0 := blk_frozen BK190.out 0
          have hfz29_1 := blk_frozen BK190.out 1
          go_wp2_with (first | ((with_reducible refine gate_callee (f := 21) rfl ?_); refine goesL_ (some 32) rfl rfl Try.func21 (by kernel_rfl) rfl #[.agg #[.int .i64 t185, .slice Ao13 t186.length co13], .int .i64 1] rfl (by (try simp only [List.map_toArray, List.map_cons, List.map_nil]); first | done | rfl | (simp only [List.length_drop, List.length_take]; rfl)) ?_; (with_reducible refine (laws_markGraph.calls kj3 t185 (fun k_ => some k_ = (.slice Ao13 t186.length co13 : Value).ownBlock) (.slice Ao13 t186.length co13) t186 1 t192 t193 w _ ?side1 ?side2 A25.out).mono ?_); (case side1 => repeat (first | (with_reducible first | exact HB.out | apply below_alloc | apply pw_below_drewN | apply below_drew1 | refine below_set ?_ GE184.out | refine below_set ?_ GE190.out) | exact HB.out)); (case side2 => exact Kd.R_tight rfl HO_191001.out); rintro e w30 ⟨rfl, hy0, hb, hkp⟩; refine ⟨_, rfl, ?_⟩; have n0_ := Aside0.mk (Kd.R_mono (ok' := fun k_ => some k_ ≠ (.slice Ao13 t186.length co13 : Value).ownBlock) (Kd.R_keptB (HO_185001.out) hkp (fun k_ hk_ hs_ => (hk_) hs_)) (fun k_ hk_ => hk_.1)); have n1_ := Aside0.mk (Kd.R_reok rfl hy0 (fun k_ e_ => HO_191001.out.1 k_ e_)); have n2_ := Aside0.mk (blk_kept (by (with_reducible repeat (first | refine blk_drewN ?_ _ | refine blk_drew ?_ | refine blk_alloc ?_ _)); exact BK184.out) hkp (fun hs_ => (fun e_ => (Kd.R_ne HO_191001.out BK184.out (by decide)) e_) hs_)); have n3_ := Aside0.mk (blk_kept (by (with_reducible repeat (first | refine blk_drewN ?_ _ | refine blk_drew ?_ | refine blk_alloc ?_ _)); exact BK190.out) hkp (fun hs_ => (fun e_ => (Kd.R_ne HO_191001.out BK190.out (by decide)) e_) hs_)); have n4_ := Aside0.mk (hb); clear HO_185001; clear HO_191001; clear BK184; clear BK190; clear HB; have HO_185001 := n0_; have HO_191001 := n1_; have BK184 := n2_; have BK190 := n3_; have HB := n4_; clear n0_ n1_ n2_ n3_ n4_; (try clear hb); (try clear hkp); (try clear hy0); have hcz31_0 : w30.cell? ⟨gb190, 0, none⟩ = some (.int .i64 t185) := (blk_cell BK190.out 0).trans rfl; have hcz31_1 : w30.cell? ⟨gb190, 1, none⟩ = some (.slice Ao13 t186.length co13) := (blk_cell BK190.out 1).trans rfl; have hfz31_0 := blk_frozen BK190.out 0; have hfz31_1 := blk_frozen BK190.out 1) | ((with_reducible refine gate_callee (f := 22) rfl ?_); refine goesL_ (some 35) rfl rfl Try.func22 (by kernel_rfl) rfl #[.agg #[.int .i64 t185, .slice Ao13 t193.length co13], .int .i64 1] rfl (by (try simp only [List.map_toArray, List.map_cons, List.map_nil]); first | done | (rw [show t193.length = t186.length from (Kd.R_reads' HO_191001.out).1.symm] <;> rfl) | rfl | (simp only [List.length_drop, List.length_take]; rfl)) ?_; (with_reducible refine (laws_heldGraph.calls kj3 t185 _ _ t193 1 t194 _ ?side1 ?side2 A26.out).mono ?_); (case side1 => repeat (first | exact (Kd.R_reads' HO_191001.out).2.2 | (with_reducible refine Kd.C_alloc ?_ _) | (with_reducible refine Kd.C_drewN ?_ _) | (with_reducible refine Kd.C_drew ?_))); (case side2 => rw [show t193.length = t186.length from (Kd.R_reads' HO_191001.out).1.symm]; exact (Kd.R_reads' HO_191001.out).2.1); rintro e w32 ⟨rfl, hb⟩; refine ⟨_, rfl, ?_⟩; have n0_ := Aside0.mk (Kd.R_below (by (with_reducible repeat (first | apply Kd.R_alloc | apply Kd.R_drewN | apply Kd.R_drew)); exact HO_185001.out) hb); have n1_ := Aside0.mk (Kd.R_below (by (with_reducible repeat (first | apply Kd.R_alloc | apply Kd.R_drewN | apply Kd.R_drew)); exact HO_191001.out) hb); have n2_ := Aside0.mk (blk_below (g := gb184) (o := .cells #[.int .i64 t179, .slice Ao8 t180.length co8] 34 (0, 0)) (by (with_reducible repeat (first | refine blk_drewN ?_ _ | refine blk_drew ?_ | refine blk_alloc ?_ _)); exact BK184.out) hb); have n3_ := Aside0.mk (blk_below (g := gb190) (o := .cells #[.int .i64 t185, .slice Ao13 t186.length co13] 34 (0, 0)) (by (with_reducible repeat (first | refine blk_drewN ?_ _ | refine blk_drew ?_ | refine blk_alloc ?_ _)); exact BK190.out) hb); have n4_ := Aside0.mk (below_step (by repeat (first | (with_reducible first | exact HB.out | apply below_alloc | apply pw_below_drewN | apply below_drew1 | refine below_set ?_ GE184.out | refine below_set ?_ GE190.out) | exact HB.out)) hb); clear HO_185001; clear HO_191001; clear BK184; clear BK190; clear HB; have HO_185001 := n0_; have HO_191001 := n1_; have BK184 := n2_; have BK190 := n3_; have HB := n4_; clear n0_ n1_ n2_ n3_ n4_; (try clear hb); (try clear hb2); (try clear hk); (try clear hi)))
          go_ret
          exact ⟨by first | rfl | (simp [errW_none, errW_some] <;> rfl) | (simp [*, errW_none, errW_some] <;> rfl), by repeat (first | (with_reducible first | exact HB.out | apply below_alloc | apply pw_below_drewN | apply below_drew1 | refine below_set ?_ GE184.out | refine below_set ?_ GE190.out) | exact HB.out)⟩
        · rw [if_neg c27] at H
          have c27b0 : decide (t194 < 0) = false := decide_eq_false c27
          clear c27
          by_cases c33 : t194 = t192
          · rw [if_pos c33] at H
            have c33b0 : (t194 == t192) = true := beq_iff_eq.mpr c33
            have c33b1 : (t194 != t192) = false := bne_eq_false_iff_eq.mpr c33
            clear c33
            replace H := Option.bind_eq_some_iff.mp H
            obtain ⟨⟨t195, t196, t199⟩, A340, H⟩ := H
            replace H : ((laws_eqGraph.f kj3 t195 t196 t179 t180).bind fun t201 => (if t201 = true then (laws_FnExactPlaneGraph.j1 kj3 t192 (t199 != t183) t185 t193) else (laws_FnExactPlaneGraph.j1 kj3 t192 true t185 t193))) = some r := H
            have A34 := Aside0.mk A340
            clear A340
            have HC35 := Aside0.mk H
            clear H
            have hnb36 := NB190_184.out
            have hnc36 := NB184_190.out
            have hcz37_0 : wc.cell? ⟨gb190, 0, none⟩ = some (.int .i64 t185) := (blk_cell BK190.out 0).trans rfl
            have hcz37_1 : wc.cell? ⟨gb190, 1, none⟩ = some (.slice Ao13 t186.length co13) := (blk_cell BK190.out 1).trans rfl
            have hfz37_0 := blk_frozen BK190.out 0
            have hfz37_1 := blk_frozen BK190.out 1
            go_upto_region 14 with (first | ((with_reducible refine gate_callee (f := 21) rfl ?_); refine goesL_ (some 32) rfl rfl Try.func21 (by kernel_rfl) rfl #[.agg #[.int .i64 t185, .slice Ao13 t186.length co13], .int .i64 1] rfl (by (try simp only [List.map_toArray, List.map_cons, List.map_nil]); first | done | rfl | (simp only [List.length_drop, List.length_take]; rfl)) ?_; (with_reducible refine (laws_markGraph.calls kj3 t185 (fun k_ => some k_ = (.slice Ao13 t186.length co13 : Value).ownBlock) (.slice Ao13 t186.length co13) t186 1 t192 t193 w _ ?side1 ?side2 A25.out).mono ?_); (case side1 => repeat (first | (with_reducible first | exact HB.out | apply below_alloc | apply pw_below_drewN | apply below_drew1 | refine below_set ?_ GE184.out | refine below_set ?_ GE190.out) | exact HB.out)); (case side2 => exact Kd.R_tight rfl HO_191001.out); rintro e w38 ⟨rfl, hy0, hb, hkp⟩; refine ⟨_, rfl, ?_⟩; have n0_ := Aside0.mk (Kd.R_mono (ok' := fun k_ => some k_ ≠ (.slice Ao13 t186.length co13 : Value).ownBlock) (Kd.R_keptB (HO_185001.out) hkp (fun k_ hk_ hs_ => (hk_) hs_)) (fun k_ hk_ => hk_.1)); have n1_ := Aside0.mk (Kd.R_reok rfl hy0 (fun k_ e_ => HO_191001.out.1 k_ e_)); have n2_ := Aside0.mk (blk_kept (by (with_reducible repeat (first | refine blk_drewN ?_ _ | refine blk_drew ?_ | refine blk_alloc ?_ _)); exact BK184.out) hkp (fun hs_ => (fun e_ => (Kd.R_ne HO_191001.out BK184.out (by decide)) e_) hs_)); have n3_ := Aside0.mk (blk_kept (by (with_reducible repeat (first | refine blk_drewN ?_ _ | refine blk_drew ?_ | refine blk_alloc ?_ _)); exact BK190.out) hkp (fun hs_ => (fun e_ => (Kd.R_ne HO_191001.out BK190.out (by decide)) e_) hs_)); have n4_ := Aside0.mk (hb); clear HO_185001; clear HO_191001; clear BK184; clear BK190; clear HB; have HO_185001 := n0_; have HO_191001 := n1_; have BK184 := n2_; have BK190 := n3_; have HB := n4_; clear n0_ n1_ n2_ n3_ n4_; (try clear hb); (try clear hkp); (try clear hy0); have hcz39_0 : w38.cell? ⟨gb190, 0, none⟩ = some (.int .i64 t185) := (blk_cell BK190.out 0).trans rfl; have hcz39_1 : w38.cell? ⟨gb190, 1, none⟩ = some (.slice Ao13 t186.length co13) := (blk_cell BK190.out 1).trans rfl; have hfz39_0 := blk_frozen BK190.out 0; have hfz39_1 := blk_frozen BK190.out 1) | ((with_reducible refine gate_callee (f := 22) rfl ?_); refine goesL_ (some 35) rfl rfl Try.func22 (by kernel_rfl) rfl #[.agg #[.int .i64 t185, .slice Ao13 t193.length co13], .int .i64 1] rfl (by (try simp only [List.map_toArray, List.map_cons, List.map_nil]); first | done | (rw [show t193.length = t186.length from (Kd.R_reads' HO_191001.out).1.symm] <;> rfl) | rfl | (simp only [List.length_drop, List.length_take]; rfl)) ?_; (with_reducible refine (laws_heldGraph.calls kj3 t185 _ _ t193 1 t194 _ ?side1 ?side2 A26.out).mono ?_); (case side1 => repeat (first | exact (Kd.R_reads' HO_191001.out).2.2 | (with_reducible refine Kd.C_alloc ?_ _) | (with_reducible refine Kd.C_drewN ?_ _) | (with_reducible refine Kd.C_drew ?_))); (case side2 => rw [show t193.length = t186.length from (Kd.R_reads' HO_191001.out).1.symm]; exact (Kd.R_reads' HO_191001.out).2.1); rintro e w40 ⟨rfl, hb⟩; refine ⟨_, rfl, ?_⟩; have n0_ := Aside0.mk (Kd.R_below (by (with_reducible repeat (first | apply Kd.R_alloc | apply Kd.R_drewN | apply Kd.R_drew)); exact HO_185001.out) hb); have n1_ := Aside0.mk (Kd.R_below (by (with_reducible repeat (first | apply Kd.R_alloc | apply Kd.R_drewN | apply Kd.R_drew)); exact HO_191001.out) hb); have n2_ := Aside0.mk (blk_below (g := gb184) (o := .cells #[.int .i64 t179, .slice Ao8 t180.length co8] 34 (0, 0)) (by (with_reducible repeat (first | refine blk_drewN ?_ _ | refine blk_drew ?_ | refine blk_alloc ?_ _)); exact BK184.out) hb); have n3_ := Aside0.mk (blk_below (g := gb190) (o := .cells #[.int .i64 t185, .slice Ao13 t186.length co13] 34 (0, 0)) (by (with_reducible repeat (first | refine blk_drewN ?_ _ | refine blk_drew ?_ | refine blk_alloc ?_ _)); exact BK190.out) hb); have n4_ := Aside0.mk (below_step (by repeat (first | (with_reducible first | exact HB.out | apply below_alloc | apply pw_below_drewN | apply below_drew1 | refine below_set ?_ GE184.out | refine below_set ?_ GE190.out) | exact HB.out)) hb); clear HO_185001; clear HO_191001; clear BK184; clear BK190; clear HB; have HO_185001 := n0_; have HO_191001 := n1_; have BK184 := n2_; have BK190 := n3_; have HB := n4_; clear n0_ n1_ n2_ n3_ n4_; (try clear hb); (try clear hb2); (try clear hk); (try clear hi)) | ((with_reducible refine gate_callee (f := 26) rfl ?_); refine goesL_ (some 43) rfl rfl Try.func26 (by kernel_rfl) rfl #[.int .i64 a0] rfl (by (try simp only [List.map_toArray, List.map_cons, List.map_nil]); first | done | rfl | (simp only [List.length_drop, List.length_take]; rfl)) ?_; (with_reducible refine (impl_PlaneGraph.calls kj3 a0 t195 t196 t199 _ A34.out).mono ?_); rintro e w41 ⟨v197, rfl, ho0, hb⟩; refine ⟨_, rfl, ?_⟩; have n0_ := Aside0.mk (Kd.R_elder' (by (with_reducible repeat (first | apply Kd.R_alloc | apply Kd.R_drewN | apply Kd.R_drew)); exact HO_185001.out) (Kd.R_base ho0) hb); have n1_ := Aside0.mk (Kd.R_elder' (by (with_reducible repeat (first | apply Kd.R_alloc | apply Kd.R_drewN | apply Kd.R_drew)); exact HO_191001.out) (Kd.R_base ho0) hb); have n2_ := Aside0.mk (Kd.R_lower (Kd.R_new' (Kd.R_new' ho0 (Kd.R_lt (by (with_reducible repeat (first | apply Kd.R_alloc | apply Kd.R_drewN | apply Kd.R_drew)); exact HO_185001.out))) (Kd.R_lt (by (with_reducible repeat (first | apply Kd.R_alloc | apply Kd.R_drewN | apply Kd.R_drew)); exact HO_191001.out))) (below_size (by repeat (first | (with_reducible first | exact HB.out | apply below_alloc | apply pw_below_drewN | apply below_drew1 | refine below_set ?_ GE184.out | refine below_set ?_ GE190.out) | exact HB.out)))); have n3_ := Aside0.mk (blk_below (g := gb184) (o := .cells #[.int .i64 t179, .slice Ao8 t180.length co8] 34 (0, 0)) (by (with_reducible repeat (first | refine blk_drewN ?_ _ | refine blk_drew ?_ | refine blk_alloc ?_ _)); exact BK184.out) hb); have n4_ := Aside0.mk (blk_below (g := gb190) (o := .cells #[.int .i64 t185, .slice Ao13 t186.length co13] 34 (0, 0)) (by (with_reducible repeat (first | refine blk_drewN ?_ _ | refine blk_drew ?_ | refine blk_alloc ?_ _)); exact BK190.out) hb); have n5_ := Aside0.mk (below_step (by repeat (first | (with_reducible first | exact HB.out | apply below_alloc | apply pw_below_drewN | apply below_drew1 | refine below_set ?_ GE184.out | refine below_set ?_ GE190.out) | exact HB.out)) hb); clear HO_185001; clear HO_191001; clear BK184; clear BK190; clear HB; have HO_185001 := n0_; have HO_191001 := n1_; have HO198 := n2_; have BK184 := n3_; have BK190 := n4_; have HB := n5_; clear n0_ n1_ n2_ n3_ n4_ n5_; (try clear hb); (try clear hb2); (try clear hk); (try clear hi); (try clear ho0)) | ((with_reducible refine gate_dst (N := 9) rfl ?_); refine box_event ?hg (N := 9) ?hd (cs := #[.int .i64 0, .slice none 0 0]) (t := 34) ?hr ?_; (case hd => rfl); (case hg => rfl); (case hr => first | (go_simp; done) | (go_simp; rfl)); intro gb200 hg w42 hbox hb; have n0_ := Aside0.mk (Kd.R_below (by (with_reducible repeat (first | apply Kd.R_alloc | apply Kd.R_drewN | apply Kd.R_drew)); exact HO_185001.out) hb); have n1_ := Aside0.mk (Kd.R_below (by (with_reducible repeat (first | apply Kd.R_alloc | apply Kd.R_drewN | apply Kd.R_drew)); exact HO_191001.out) hb); have n2_ := Aside0.mk (Kd.R_below (by (with_reducible repeat (first | apply Kd.R_alloc | apply Kd.R_drewN | apply Kd.R_drew)); exact HO198.out) hb); have n3_ := Aside0.mk (blk_below (g := gb184) (o := .cells #[.int .i64 t179, .slice Ao8 t180.length co8] 34 (0, 0)) (by (with_reducible repeat (first | refine blk_drewN ?_ _ | refine blk_drew ?_ | refine blk_alloc ?_ _)); exact BK184.out) hb); have n4_ := Aside0.mk (blk_below (g := gb190) (o := .cells #[.int .i64 t185, .slice Ao13 t186.length co13] 34 (0, 0)) (by (with_reducible repeat (first | refine blk_drewN ?_ _ | refine blk_drew ?_ | refine blk_alloc ?_ _)); exact BK190.out) hb); have n5_ := Aside0.mk (below_step (by repeat (first | (with_reducible first | exact HB.out | apply below_alloc | apply pw_below_drewN | apply below_drew1 | refine below_set ?_ GE184.out | refine below_set ?_ GE190.out) | exact HB.out)) hb); have n6_ := Aside0.mk (hbox); have n7_ := Aside0.mk ((by rw [hg]; exact (below_size (by repeat (first | (with_reducible first | exact HB.out | apply below_alloc | apply pw_below_drewN | apply below_drew1 | refine below_set ?_ GE184.out | refine below_set ?_ GE190.out) | exact HB.out))) : w.heap.size ≤ gb200)); have n8_ := Aside0.mk ((by rw [hg]; exact (below_size (by repeat (first | (with_reducible first | exact HB.out | apply below_alloc | apply pw_below_drewN | apply below_drew1 | refine below_set ?_ GE184.out | refine below_set ?_ GE190.out) | exact HB.out))) : w.heap.size ≤ gb200)); have n9_ := Aside0.mk ((by rw [hg]; exact Nat.ne_of_lt (blk_lt (g := gb184) (o := .cells #[.int .i64 t179, .slice Ao8 t180.length co8] 34 (0, 0)) (by (with_reducible repeat (first | refine blk_drewN ?_ _ | refine blk_drew ?_ | refine blk_alloc ?_ _)); exact BK184.out)) : gb184 ≠ gb200)); have n10_ := Aside0.mk ((by rw [hg]; exact Nat.ne_of_gt (blk_lt (g := gb184) (o := .cells #[.int .i64 t179, .slice Ao8 t180.length co8] 34 (0, 0)) (by (with_reducible repeat (first | refine blk_drewN ?_ _ | refine blk_drew ?_ | refine blk_alloc ?_ _)); exact BK184.out)) : gb200 ≠ gb184)); have n11_ := Aside0.mk ((by rw [hg]; exact Nat.ne_of_lt (blk_lt (g := gb190) (o := .cells #[.int .i64 t185, .slice Ao13 t186.length co13] 34 (0, 0)) (by (with_reducible repeat (first | refine blk_drewN ?_ _ | refine blk_drew ?_ | refine blk_alloc ?_ _)); exact BK190.out)) : gb190 ≠ gb200)); have n12_ := Aside0.mk ((by rw [hg]; exact Nat.ne_of_gt (blk_lt (g := gb190) (o := .cells #[.int .i64 t185, .slice Ao13 t186.length co13] 34 (0, 0)) (by (with_reducible repeat (first | refine blk_drewN ?_ _ | refine blk_drew ?_ | refine blk_alloc ?_ _)); exact BK190.out)) : gb200 ≠ gb190)); clear HO_185001; clear HO_191001; clear HO198; clear BK184; clear BK190; clear HB; have HO_185001 := n0_; have HO_191001 := n1_; have HO198 := n2_; have BK184 := n3_; have BK190 := n4_; have HB := n5_; have BK200 := n6_; have GW200 := n7_; have GE200 := n8_; have NB184_200 := n9_; have NB200_184 := n10_; have NB190_200 := n11_; have NB200_190 := n12_; clear n0_ n1_ n2_ n3_ n4_ n5_ n6_ n7_ n8_ n9_ n10_ n11_ n12_; clear hb hbox hg; have hnb43 := NB200_184.out; have hnc43 := NB184_200.out; have hnb44 := NB200_190.out; have hnc44 := NB190_200.out; have hcz45_0 : w42.cell? ⟨gb200, 0, none⟩ = some (.int .i64 0) := (blk_cell BK200.out 0).trans rfl; have hcz45_1 : w42.cell? ⟨gb200, 1, none⟩ = some (.slice none 0 0) := (blk_cell BK200.out 1).trans rfl; have hfz45_0 := blk_frozen BK200.out 0; have hfz45_1 := blk_frozen BK200.out 1; obtain ⟨Ao46, co46, eo46⟩ := Kd.R_slice HO198.out; subst eo46))
            (try simp only [Act.put, List.setIfInBounds_toArray, List.set_cons_zero, List.set_cons_succ])
            go_cut [54] (fun v54 wc => ∃ (kq : Nat) (x54_34 : Bool), v54 = .bool x54_34 ∧ Aside0 (laws_FnExactPlaneGraph.j1 kq t192 x54_34 t185 t193 = some r) ∧ Aside0 (kq ≤ kj3) ∧ Aside0 (Kd.R (Kd.int .i64) 2 wc w.heap.size (fun k_ => some k_ ≠ ((.slice Ao13 t186.length co13) : Value).ownBlock ∧ some k_ ≠ ((.slice Ao46 t196.length co46) : Value).ownBlock) (.slice Ao8 t180.length co8) t180) ∧ Aside0 (Kd.R (Kd.int .i64) 2 wc w.heap.size (fun k_ => some k_ ≠ ((.slice Ao8 t180.length co8) : Value).ownBlock ∧ some k_ ≠ ((.slice Ao46 t196.length co46) : Value).ownBlock) (.slice Ao13 t186.length co13) t193) ∧ Aside0 (Kd.R (Kd.int .i64) 2 wc w.heap.size (fun k_ => some k_ ≠ ((.slice Ao8 t180.length co8) : Value).ownBlock ∧ some k_ ≠ ((.slice Ao13 t186.length co13) : Value).ownBlock) (.slice Ao46 t196.length co46) t196) ∧ Aside0 (wc.heap[gb184]? = some (.cells #[.int .i64 t179, (.slice Ao8 t180.length co8)] 34 (0, 0))) ∧ Aside0 (wc.heap[gb190]? = some (.cells #[.int .i64 t185, (.slice Ao13 t186.length co13)] 34 (0, 0))) ∧ Aside0 (wc.heap[gb200]? = some (.cells #[.int .i64 t195, (.slice Ao46 t196.length co46)] 34 (0, 0))) ∧ Aside0 (Below w.heap.size w wc))
            case first =>
              have H := HC35.out
              clear HC35
              replace H := Option.bind_eq_some_iff.mp H
              obtain ⟨t201, A470, H⟩ := H
              replace H : (if t201 = true then (laws_FnExactPlaneGraph.j1 kj3 t192 (t199 != t183) t185 t193) else (laws_FnExactPlaneGraph.j1 kj3 t192 true t185 t193)) = some r := H
              have A47 := Aside0.mk A470
              clear A470
              by_cases c48 : t201 = true
              · subst c48
                have H1 : (laws_FnExactPlaneGraph.j1 kj3 t192 (t199 != t183) t185 t193) = some r := by rw [if_pos rfl] at H; exact H
                clear H
                have H := H1
                clear H1
                have H' := Aside0.mk H
                clear H
                have hnb49 := NB200_184.out
                have hnc49 := NB184_200.out
                have hnb50 := NB200_190.out
                have hnc50 := NB190_200.out
                have hcz51_0 : w42.cell? ⟨gb200, 0, none⟩ = some (.int .i64 0) := (blk_cell BK200.out 0).trans rfl
                have hcz51_1 : w42.cell? ⟨gb200, 1, none⟩ = some (.slice none 0 0) := (blk_cell BK200.out 1).trans rfl
                have hfz51_0 := blk_frozen BK200.out 0
                have hfz51_1 := blk_frozen BK200.out 1
                have hnb52 := NB184_190.out
                have hnc52 := NB190_184.out
                have hcz53_0 : w42.cell? ⟨gb184, 0, none⟩ = some (.int .i64 t179) := (blk_cell BK184.out 0).trans rfl
                have hcz53_1 : w42.cell? ⟨gb184, 1, none⟩ = some (.slice Ao8 t180.length co8) := (blk_cell BK184.out 1).trans rfl
                have hfz53_0 := blk_frozen BK184.out 0
                have hfz53_1 := blk_frozen BK184.out 1
                go_wp2_with (first | ((with_reducible refine gate_callee (f := 20) rfl ?_); refine goesL_ (some 48) rfl rfl Try.func20 (by kernel_rfl) rfl #[.agg #[.int .i64 t195, .slice Ao46 t196.length co46], .agg #[.int .i64 t179, .slice Ao8 t180.length co8]] rfl (by (try simp only [List.map_toArray, List.map_cons, List.map_nil]); first | done | rfl | (simp only [List.length_drop, List.length_take]; rfl)) ?_; (with_reducible refine (laws_eqGraph.calls kj3 t195 _ _ t196 t179 _ _ t180 true _ ?side1 ?side2 ?side3 ?side4 A47.out).mono ?_); (case side1 => refine (Kd.R_reads' (e := 2) (base := w.heap.size) (ok := fun k_ => ((True ∧ some k_ ≠ (.slice Ao8 t180.length co8 : Value).ownBlock) ∧ some k_ ≠ (.slice Ao13 t186.length co13 : Value).ownBlock)) (n := t196.length) (c := co46) ?_).2.2; exact (by (with_reducible repeat (first | apply Kd.R_alloc | apply Kd.R_drewN | apply Kd.R_drew)); exact (Kd.R_mono (Kd.R_far (p := ⟨gb200, 1, none⟩) (Kd.R_far (p := ⟨gb200, 0, none⟩) (Kd.R_types HO198.out BK200.out (by decide)) (fun _ hk => hk.2) (.int .i64 t195)) (fun _ hk => hk.2) (.slice Ao46 t196.length co46)) (fun _ h_ => h_.1)))); (case side2 => exact (Kd.R_reads' HO198.out).2.1); (case side3 => refine (Kd.R_reads' (e := 2) (base := w.heap.size) (ok := fun k_ => (some k_ ≠ (.slice Ao13 t186.length co13 : Value).ownBlock ∧ some k_ ≠ (.slice Ao46 t196.length co46 : Value).ownBlock)) (n := t180.length) (c := co8) ?_).2.2; exact (by (with_reducible repeat (first | apply Kd.R_alloc | apply Kd.R_drewN | apply Kd.R_drew)); exact (Kd.R_mono (Kd.R_far (p := ⟨gb200, 1, none⟩) (Kd.R_far (p := ⟨gb200, 0, none⟩) (Kd.R_types HO_185001.out BK200.out (by decide)) (fun _ hk => hk.2) (.int .i64 t195)) (fun _ hk => hk.2) (.slice Ao46 t196.length co46)) (fun _ h_ => h_.1)))); (case side4 => exact (Kd.R_reads' HO_185001.out).2.1); rintro e w54 ⟨rfl, hb⟩; refine ⟨_, rfl, ?_⟩; have n0_ := Aside0.mk (Kd.R_below (by (with_reducible repeat (first | apply Kd.R_alloc | apply Kd.R_drewN | apply Kd.R_drew)); exact (Kd.R_mono (Kd.R_far (p := ⟨gb200, 1, none⟩) (Kd.R_far (p := ⟨gb200, 0, none⟩) (Kd.R_types HO_185001.out BK200.out (by decide)) (fun _ hk => hk.2) (.int .i64 t195)) (fun _ hk => hk.2) (.slice Ao46 t196.length co46)) (fun _ h_ => h_.1))) hb); have n1_ := Aside0.mk (Kd.R_below (by (with_reducible repeat (first | apply Kd.R_alloc | apply Kd.R_drewN | apply Kd.R_drew)); exact (Kd.R_mono (Kd.R_far (p := ⟨gb200, 1, none⟩) (Kd.R_far (p := ⟨gb200, 0, none⟩) (Kd.R_types HO_191001.out BK200.out (by decide)) (fun _ hk => hk.2) (.int .i64 t195)) (fun _ hk => hk.2) (.slice Ao46 t196.length co46)) (fun _ h_ => h_.1))) hb); have n2_ := Aside0.mk (Kd.R_below (by (with_reducible repeat (first | apply Kd.R_alloc | apply Kd.R_drewN | apply Kd.R_drew)); exact (Kd.R_mono (Kd.R_far (p := ⟨gb200, 1, none⟩) (Kd.R_far (p := ⟨gb200, 0, none⟩) (Kd.R_types HO198.out BK200.out (by decide)) (fun _ hk => hk.2) (.int .i64 t195)) (fun _ hk => hk.2) (.slice Ao46 t196.length co46)) (fun _ h_ => h_.1))) hb); have n3_ := Aside0.mk (blk_below (g := gb184) (o := .cells #[.int .i64 t179, .slice Ao8 t180.length co8] 34 (0, 0)) (by (with_reducible repeat (first | refine blk_drewN ?_ _ | refine blk_drew ?_ | refine blk_alloc ?_ _)); refine blk_far ?_ NB184_200.out _; (with_reducible repeat (first | refine blk_drewN ?_ _ | refine blk_drew ?_ | refine blk_alloc ?_ _)); refine blk_far ?_ NB184_200.out _; (with_reducible repeat (first | refine blk_drewN ?_ _ | refine blk_drew ?_ | refine blk_alloc ?_ _)); exact BK184.out) hb); have n4_ := Aside0.mk (blk_below (g := gb190) (o := .cells #[.int .i64 t185, .slice Ao13 t186.length co13] 34 (0, 0)) (by (with_reducible repeat (first | refine blk_drewN ?_ _ | refine blk_drew ?_ | refine blk_alloc ?_ _)); refine blk_far ?_ NB190_200.out _; (with_reducible repeat (first | refine blk_drewN ?_ _ | refine blk_drew ?_ | refine blk_alloc ?_ _)); refine blk_far ?_ NB190_200.out _; (with_reducible repeat (first | refine blk_drewN ?_ _ | refine blk_drew ?_ | refine blk_alloc ?_ _)); exact BK190.out) hb); have n5_ := Aside0.mk (blk_below (g := gb200) (o := .cells #[.int .i64 t195, .slice Ao46 t196.length co46] 34 (0, 0)) (by (with_reducible repeat (first | refine blk_drewN ?_ _ | refine blk_drew ?_ | refine blk_alloc ?_ _)); refine blk_put (cs := #[.int .i64 t195, .slice none 0 0]) ?_ 1 _ rfl; (with_reducible repeat (first | refine blk_drewN ?_ _ | refine blk_drew ?_ | refine blk_alloc ?_ _)); refine blk_put (cs := #[.int .i64 0, .slice none 0 0]) ?_ 0 _ rfl; (with_reducible repeat (first | refine blk_drewN ?_ _ | refine blk_drew ?_ | refine blk_alloc ?_ _)); exact BK200.out) hb); have n6_ := Aside0.mk (below_step (by repeat (first | (with_reducible first | exact HB.out | apply below_alloc | apply pw_below_drewN | apply below_drew1 | refine below_set ?_ GE184.out | refine below_set ?_ GE190.out | refine below_set ?_ GE200.out) | exact HB.out)) hb); clear HO_185001; clear HO_191001; clear HO198; clear BK184; clear BK190; clear BK200; clear HB; have HO_185001 := n0_; have HO_191001 := n1_; have HO198 := n2_; have BK184 := n3_; have BK190 := n4_; have BK200 := n5_; have HB := n6_; clear n0_ n1_ n2_ n3_ n4_ n5_ n6_; (try clear hb); (try clear hb2); (try clear hk); (try clear hi)))
                go_meet
                case rel => exact ⟨_, ((t199 != t183)), (by first | rfl | (simp; done) | (simp [*]; done)), H', ⟨by have := HJ3.out; first | omega | exact Nat.le_refl _⟩, ⟨by (with_reducible repeat (first | apply Kd.R_alloc | apply Kd.R_drewN | apply Kd.R_drew)); exact HO_185001.out⟩, ⟨by (with_reducible repeat (first | apply Kd.R_alloc | apply Kd.R_drewN | apply Kd.R_drew)); exact HO_191001.out⟩, ⟨by (with_reducible repeat (first | apply Kd.R_alloc | apply Kd.R_drewN | apply Kd.R_drew)); exact Kd.R_mono HO198.out (fun _ hk => ⟨hk.1.2, hk.2⟩)⟩, ⟨by (with_reducible repeat (first | refine blk_drewN ?_ _ | refine blk_drew ?_ | refine blk_alloc ?_ _)); exact BK184.out⟩, ⟨by (with_reducible repeat (first | refine blk_drewN ?_ _ | refine blk_drew ?_ | refine blk_alloc ?_ _)); exact BK190.out⟩, ⟨by (with_reducible repeat (first | refine blk_drewN ?_ _ | refine blk_drew ?_ | refine blk_alloc ?_ _)); exact BK200.out⟩, ⟨by repeat (first | (with_reducible first | exact HB.out | apply below_alloc | apply pw_below_drewN | apply below_drew1 | refine below_set ?_ GE184.out | refine below_set ?_ GE190.out | refine below_set ?_ GE200.out) | exact HB.out)⟩⟩
              · replace c48 := Bool.eq_false_iff.mpr c48
                subst c48
                have H1 : (laws_FnExactPlaneGraph.j1 kj3 t192 true t185 t193) = some r := by rw [if_neg (show ¬ (false = true) by decide)] at H; exact H
                clear H
                have H := H1
                clear H1
                have H' := Aside0.mk H
                clear H
                have hnb55 := NB200_184.out
                have hnc55 := NB184_200.out
                have hnb56 := NB200_190.out
                have hnc56 := NB190_200.out
                have hcz57_0 : w42.cell? ⟨gb200, 0, none⟩ = some (.int .i64 0) := (blk_cell BK200.out 0).trans rfl
                have hcz57_1 : w42.cell? ⟨gb200, 1, none⟩ = some (.slice none 0 0) := (blk_cell BK200.out 1).trans rfl
                have hfz57_0 := blk_frozen BK200.out 0
                have hfz57_1 := blk_frozen BK200.out 1
                have hnb58 := NB184_190.out
                have hnc58 := NB190_184.out
                have hcz59_0 : w42.cell? ⟨gb184, 0, none⟩ = some (.int .i64 t179) := (blk_cell BK184.out 0).trans rfl
                have hcz59_1 : w42.cell? ⟨gb184, 1, none⟩ = some (.slice Ao8 t180.length co8) := (blk_cell BK184.out 1).trans rfl
                have hfz59_0 := blk_frozen BK184.out 0
                have hfz59_1 := blk_frozen BK184.out 1
                go_wp2_with (first | ((with_reducible refine gate_callee (f := 20) rfl ?_); refine goesL_ (some 48) rfl rfl Try.func20 (by kernel_rfl) rfl #[.agg #[.int .i64 t195, .slice Ao46 t196.length co46], .agg #[.int .i64 t179, .slice Ao8 t180.length co8]] rfl (by (try simp only [List.map_toArray, List.map_cons, List.map_nil]); first | done | rfl | (simp only [List.length_drop, List.length_take]; rfl)) ?_; (with_reducible refine (laws_eqGraph.calls kj3 t195 _ _ t196 t179 _ _ t180 false _ ?side1 ?side2 ?side3 ?side4 A47.out).mono ?_); (case side1 => refine (Kd.R_reads' (e := 2) (base := w.heap.size) (ok := fun k_ => ((True ∧ some k_ ≠ (.slice Ao8 t180.length co8 : Value).ownBlock) ∧ some k_ ≠ (.slice Ao13 t186.length co13 : Value).ownBlock)) (n := t196.length) (c := co46) ?_).2.2; exact (by (with_reducible repeat (first | apply Kd.R_alloc | apply Kd.R_drewN | apply Kd.R_drew)); exact (Kd.R_mono (Kd.R_far (p := ⟨gb200, 1, none⟩) (Kd.R_far (p := ⟨gb200, 0, none⟩) (Kd.R_types HO198.out BK200.out (by decide)) (fun _ hk => hk.2) (.int .i64 t195)) (fun _ hk => hk.2) (.slice Ao46 t196.length co46)) (fun _ h_ => h_.1)))); (case side2 => exact (Kd.R_reads' HO198.out).2.1); (case side3 => refine (Kd.R_reads' (e := 2) (base := w.heap.size) (ok := fun k_ => (some k_ ≠ (.slice Ao13 t186.length co13 : Value).ownBlock ∧ some k_ ≠ (.slice Ao46 t196.length co46 : Value).ownBlock)) (n := t180.length) (c := co8) ?_).2.2; exact (by (with_reducible repeat (first | apply Kd.R_alloc | apply Kd.R_drewN | apply Kd.R_drew)); exact (Kd.R_mono (Kd.R_far (p := ⟨gb200, 1, none⟩) (Kd.R_far (p := ⟨gb200, 0, none⟩) (Kd.R_types HO_185001.out BK200.out (by decide)) (fun _ hk => hk.2) (.int .i64 t195)) (fun _ hk => hk.2) (.slice Ao46 t196.length co46)) (fun _ h_ => h_.1)))); (case side4 => exact (Kd.R_reads' HO_185001.out).2.1); rintro e w60 ⟨rfl, hb⟩; refine ⟨_, rfl, ?_⟩; have n0_ := Aside0.mk (Kd.R_below (by (with_reducible repeat (first | apply Kd.R_alloc | apply Kd.R_drewN | apply Kd.R_drew)); exact (Kd.R_mono (Kd.R_far (p := ⟨gb200, 1, none⟩) (Kd.R_far (p := ⟨gb200, 0, none⟩) (Kd.R_types HO_185001.out BK200.out (by decide)) (fun _ hk => hk.2) (.int .i64 t195)) (fun _ hk => hk.2) (.slice Ao46 t196.length co46)) (fun _ h_ => h_.1))) hb); have n1_ := Aside0.mk (Kd.R_below (by (with_reducible repeat (first | apply Kd.R_alloc | apply Kd.R_drewN | apply Kd.R_drew)); exact (Kd.R_mono (Kd.R_far (p := ⟨gb200, 1, none⟩) (Kd.R_far (p := ⟨gb200, 0, none⟩) (Kd.R_types HO_191001.out BK200.out (by decide)) (fun _ hk => hk.2) (.int .i64 t195)) (fun _ hk => hk.2) (.slice Ao46 t196.length co46)) (fun _ h_ => h_.1))) hb); have n2_ := Aside0.mk (Kd.R_below (by (with_reducible repeat (first | apply Kd.R_alloc | apply Kd.R_drewN | apply Kd.R_drew)); exact (Kd.R_mono (Kd.R_far (p := ⟨gb200, 1, none⟩) (Kd.R_far (p := ⟨gb200, 0, none⟩) (Kd.R_types HO198.out BK200.out (by decide)) (fun _ hk => hk.2) (.int .i64 t195)) (fun _ hk => hk.2) (.slice Ao46 t196.length co46)) (fun _ h_ => h_.1))) hb); have n3_ := Aside0.mk (blk_below (g := gb184) (o := .cells #[.int .i64 t179, .slice Ao8 t180.length co8] 34 (0, 0)) (by (with_reducible repeat (first | refine blk_drewN ?_ _ | refine blk_drew ?_ | refine blk_alloc ?_ _)); refine blk_far ?_ NB184_200.out _; (with_reducible repeat (first | refine blk_drewN ?_ _ | refine blk_drew ?_ | refine blk_alloc ?_ _)); refine blk_far ?_ NB184_200.out _; (with_reducible repeat (first | refine blk_drewN ?_ _ | refine blk_drew ?_ | refine blk_alloc ?_ _)); exact BK184.out) hb); have n4_ := Aside0.mk (blk_below (g := gb190) (o := .cells #[.int .i64 t185, .slice Ao13 t186.length co13] 34 (0, 0)) (by (with_reducible repeat (first | refine blk_drewN ?_ _ | refine blk_drew ?_ | refine blk_alloc ?_ _)); refine blk_far ?_ NB190_200.out _; (with_reducible repeat (first | refine blk_drewN ?_ _ | refine blk_drew ?_ | refine blk_alloc ?_ _)); refine blk_far ?_ NB190_200.out _; (with_reducible repeat (first | refine blk_drewN ?_ _ | refine blk_drew ?_ | refine blk_alloc ?_ _)); exact BK190.out) hb); have n5_ := Aside0.mk (blk_below (g := gb200) (o := .cells #[.int .i64 t195, .slice Ao46 t196.length co46] 34 (0, 0)) (by (with_reducible repeat (first | refine blk_drewN ?_ _ | refine blk_drew ?_ | refine blk_alloc ?_ _)); refine blk_put (cs := #[.int .i64 t195, .slice none 0 0]) ?_ 1 _ rfl; (with_reducible repeat (first | refine blk_drewN ?_ _ | refine blk_drew ?_ | refine blk_alloc ?_ _)); refine blk_put (cs := #[.int .i64 0, .slice none 0 0]) ?_ 0 _ rfl; (with_reducible repeat (first | refine blk_drewN ?_ _ | refine blk_drew ?_ | refine blk_alloc ?_ _)); exact BK200.out) hb); have n6_ := Aside0.mk (below_step (by repeat (first | (with_reducible first | exact HB.out | apply below_alloc | apply pw_below_drewN | apply below_drew1 | refine below_set ?_ GE184.out | refine below_set ?_ GE190.out | refine below_set ?_ GE200.out) | exact HB.out)) hb); clear HO_185001; clear HO_191001; clear HO198; clear BK184; clear BK190; clear BK200; clear HB; have HO_185001 := n0_; have HO_191001 := n1_; have HO198 := n2_; have BK184 := n3_; have BK190 := n4_; have BK200 := n5_; have HB := n6_; clear n0_ n1_ n2_ n3_ n4_ n5_ n6_; (try clear hb); (try clear hb2); (try clear hk); (try clear hi)))
                go_meet
                case rel => exact ⟨_, (true), (by first | rfl | (simp; done) | (simp [*]; done)), H', ⟨by have := HJ3.out; first | omega | exact Nat.le_refl _⟩, ⟨by (with_reducible repeat (first | apply Kd.R_alloc | apply Kd.R_drewN | apply Kd.R_drew)); exact HO_185001.out⟩, ⟨by (with_reducible repeat (first | apply Kd.R_alloc | apply Kd.R_drewN | apply Kd.R_drew)); exact HO_191001.out⟩, ⟨by (with_reducible repeat (first | apply Kd.R_alloc | apply Kd.R_drewN | apply Kd.R_drew)); exact Kd.R_mono HO198.out (fun _ hk => ⟨hk.1.2, hk.2⟩)⟩, ⟨by (with_reducible repeat (first | refine blk_drewN ?_ _ | refine blk_drew ?_ | refine blk_alloc ?_ _)); exact BK184.out⟩, ⟨by (with_reducible repeat (first | refine blk_drewN ?_ _ | refine blk_drew ?_ | refine blk_alloc ?_ _)); exact BK190.out⟩, ⟨by (with_reducible repeat (first | refine blk_drewN ?_ _ | refine blk_drew ?_ | refine blk_alloc ?_ _)); exact BK200.out⟩, ⟨by repeat (first | (with_reducible first | exact HB.out | apply below_alloc | apply pw_below_drewN | apply below_drew1 | refine below_set ?_ GE184.out | refine below_set ?_ GE190.out | refine below_set ?_ GE200.out) | exact HB.out)⟩⟩
            case rest =>
              clear HC35
              try clear c1
              try clear c2
              try clear p2
              try clear c3
              try clear c4
              try clear c5
              try clear c7
              try clear c11
              try clear c15
              try clear c16
              try clear c20
              try clear c21
              try clear c22
              try clear c24
              try clear c25
              try clear c26
              try clear c27
              try clear c27b0
              try clear c28
              try clear c33
              try clear c33b0
              try clear c33b1
              try clear c36
              try clear c43
              try clear c44
              try clear c48
              try clear c49
              try clear c50
              try clear c52
              try clear c55
              try clear c56
              try clear c58
              try clear hcz12_0
              try clear hcz12_1
              try clear hcz17_0
              try clear hcz17_1
              try clear hcz18_0
              try clear hcz18_1
              try clear hcz21_0
              try clear hcz21_1
              try clear hcz22_0
              try clear hcz22_1
              try clear hcz29_0
              try clear hcz29_1
              try clear hcz31_0
              try clear hcz31_1
              try clear hcz37_0
              try clear hcz37_1
              try clear hcz39_0
              try clear hcz39_1
              try clear hcz45_0
              try clear hcz45_1
              try clear hcz51_0
              try clear hcz51_1
              try clear hcz53_0
              try clear hcz53_1
              try clear hcz57_0
              try clear hcz57_1
              try clear hcz59_0
              try clear hcz59_1
              try clear hcz7_0
              try clear hcz7_1
              try clear hfz12_0
              try clear hfz12_1
              try clear hfz17_0
              try clear hfz17_1
              try clear hfz18_0
              try clear hfz18_1
              try clear hfz21_0
              try clear hfz21_1
              try clear hfz22_0
              try clear hfz22_1
              try clear hfz29_0
              try clear hfz29_1
              try clear hfz31_0
              try clear hfz31_1
              try clear hfz37_0
              try clear hfz37_1
              try clear hfz39_0
              try clear hfz39_1
              try clear hfz45_0
              try clear hfz45_1
              try clear hfz51_0
              try clear hfz51_1
              try clear hfz53_0
              try clear hfz53_1
              try clear hfz57_0
              try clear hfz57_1
              try clear hfz59_0
              try clear hfz59_1
              try clear hfz7_0
              try clear hfz7_1
              try clear p2
              obtain ⟨kq, x54_34, rfl, HA, HJ34, HO_185001, HO_191001, HO_201001, BK184, BK190, BK200, HB⟩ := hcut
              have hl191001_34 := (Kd.R_reads' HO_191001.out).1
              rw [hl191001_34] at HO_191001
              (try simp only [hl191001_34])
              (try simp only [hl191001_34] at BK184)
              (try simp only [hl191001_34] at BK190)
              (try simp only [hl191001_34] at BK200)
              (try simp only [hl191001_34] at HO_185001)
              (try simp only [hl191001_34] at HO_201001)
              cases kq with
              | zero => exact absurd HA.out (by simp [laws_FnExactPlaneGraph.j1])
              | succ kj34 =>
                have H := HA.out
                clear HA
                simp only [laws_FnExactPlaneGraph.j1] at H
                by_cases c61 : x54_34 = true
                · subst c61
                  have H1 : (some false) = some r := by rw [if_pos rfl] at H; exact H
                  clear H
                  have H := H1
                  clear H1
                  obtain rfl := Option.some.inj H
                  go_wp2
                  go_ret
                  exact ⟨by first | rfl | (simp [errW_none, errW_some] <;> rfl) | (simp [*, errW_none, errW_some] <;> rfl), by repeat (first | (with_reducible first | exact HB.out | apply below_alloc | apply pw_below_drewN | apply below_drew1 | refine below_set ?_ GE184.out | refine below_set ?_ GE190.out | refine below_set ?_ GE200.out) | exact HB.out)⟩
                · replace c61 := Bool.eq_false_iff.mpr c61
                  subst c61
                  have H1 : ((laws_heldGraph.f kj34 t185 t193 1).bind fun t202 => (if t202 < 0 then (some false) else (if t202 = t192 then (some true) else (some false)))) = some r := by rw [if_neg (show ¬ (false = true) by decide)] at H; exact H
                  clear H
                  have H := H1
                  clear H1
                  replace H := Option.bind_eq_some_iff.mp H
                  obtain ⟨t202, A620, H⟩ := H
                  replace H : (if t202 < 0 then (some false) else (if t202 = t192 then (some true) else (some false))) = some r := H
                  have A62 := Aside0.mk A620
                  clear A620
                  by_cases c63 : t202 < 0
                  · rw [if_pos c63] at H
                    have c63b0 : decide (t202 < 0) = true := decide_eq_true c63
                    clear c63
                    obtain rfl := Option.some.inj H
                    have hnb64 := NB190_184.out
                    have hnc64 := NB184_190.out
                    have hnb65 := NB190_200.out
                    have hnc65 := NB200_190.out
                    have hcz66_0 : wc.cell? ⟨gb190, 0, none⟩ = some (.int .i64 t185) := (blk_cell BK190.out 0).trans rfl
                    have hcz66_1 : wc.cell? ⟨gb190, 1, none⟩ = some (.slice Ao13 t193.length co13) := (blk_cell BK190.out 1).trans rfl
                    have hfz66_0 := blk_frozen BK190.out 0
                    have hfz66_1 := blk_frozen BK190.out 1
                    go_wp2_with (first | ((with_reducible refine gate_callee (f := 22) rfl ?_); refine goesL_ (some 57) rfl rfl Try.func22 (by kernel_rfl) rfl #[.agg #[.int .i64 t185, .slice Ao13 t193.length co13], .int .i64 1] rfl (by (try simp only [List.map_toArray, List.map_cons, List.map_nil]); first | done | rfl | (simp only [List.length_drop, List.length_take]; rfl)) ?_; (with_reducible refine (laws_heldGraph.calls kj34 t185 _ _ t193 1 t202 _ ?side1 ?side2 A62.out).mono ?_); (case side1 => repeat (first | exact (Kd.R_reads' HO_191001.out).2.2 | (with_reducible refine Kd.C_alloc ?_ _) | (with_reducible refine Kd.C_drewN ?_ _) | (with_reducible refine Kd.C_drew ?_))); (case side2 => exact (Kd.R_reads' HO_191001.out).2.1); rintro e w67 ⟨rfl, hb⟩; refine ⟨_, rfl, ?_⟩; have n0_ := Aside0.mk (Kd.R_below (by (with_reducible repeat (first | apply Kd.R_alloc | apply Kd.R_drewN | apply Kd.R_drew)); exact HO_185001.out) hb); have n1_ := Aside0.mk (Kd.R_below (by (with_reducible repeat (first | apply Kd.R_alloc | apply Kd.R_drewN | apply Kd.R_drew)); exact HO_191001.out) hb); have n2_ := Aside0.mk (Kd.R_below (by (with_reducible repeat (first | apply Kd.R_alloc | apply Kd.R_drewN | apply Kd.R_drew)); exact HO_201001.out) hb); have n3_ := Aside0.mk (blk_below (g := gb184) (o := .cells #[.int .i64 t179, .slice Ao8 t180.length co8] 34 (0, 0)) (by (with_reducible repeat (first | refine blk_drewN ?_ _ | refine blk_drew ?_ | refine blk_alloc ?_ _)); exact BK184.out) hb); have n4_ := Aside0.mk (blk_below (g := gb190) (o := .cells #[.int .i64 t185, .slice Ao13 t193.length co13] 34 (0, 0)) (by (with_reducible repeat (first | refine blk_drewN ?_ _ | refine blk_drew ?_ | refine blk_alloc ?_ _)); exact BK190.out) hb); have n5_ := Aside0.mk (blk_below (g := gb200) (o := .cells #[.int .i64 t195, .slice Ao46 t196.length co46] 34 (0, 0)) (by (with_reducible repeat (first | refine blk_drewN ?_ _ | refine blk_drew ?_ | refine blk_alloc ?_ _)); exact BK200.out) hb); have n6_ := Aside0.mk (below_step (by repeat (first | (with_reducible first | exact HB.out | apply below_alloc | apply pw_below_drewN | apply below_drew1 | refine below_set ?_ GE184.out | refine below_set ?_ GE190.out | refine below_set ?_ GE200.out) | exact HB.out)) hb); clear HO_185001; clear HO_191001; clear HO_201001; clear BK184; clear BK190; clear BK200; clear HB; have HO_185001 := n0_; have HO_191001 := n1_; have HO_201001 := n2_; have BK184 := n3_; have BK190 := n4_; have BK200 := n5_; have HB := n6_; clear n0_ n1_ n2_ n3_ n4_ n5_ n6_; (try clear hb); (try clear hb2); (try clear hk); (try clear hi)))
                    go_ret
                    exact ⟨by first | rfl | (simp [errW_none, errW_some] <;> rfl) | (simp [*, errW_none, errW_some] <;> rfl), by repeat (first | (with_reducible first | exact HB.out | apply below_alloc | apply pw_below_drewN | apply below_drew1 | refine below_set ?_ GE184.out | refine below_set ?_ GE190.out | refine below_set ?_ GE200.out) | exact HB.out)⟩
                  · rw [if_neg c63] at H
                    have c63b0 : decide (t202 < 0) = false := decide_eq_false c63
                    clear c63
                    by_cases c68 : t202 = t192
                    · rw [if_pos c68] at H
                      have c68b0 : (t202 == t192) = true := beq_iff_eq.mpr c68
                      have c68b1 : (t202 != t192) = false := bne_eq_false_iff_eq.mpr c68
                      clear c68
                      obtain rfl := Option.some.inj H
                      have hnb69 := NB190_184.out
                      have hnc69 := NB184_190.out
                      have hnb70 := NB190_200.out
                      have hnc70 := NB200_190.out
                      have hcz71_0 : wc.cell? ⟨gb190, 0, none⟩ = some (.int .i64 t185) := (blk_cell BK190.out 0).trans rfl
                      have hcz71_1 : wc.cell? ⟨gb190, 1, none⟩ = some (.slice Ao13 t193.length co13) := (blk_cell BK190.out 1).trans rfl
                      have hfz71_0 := blk_frozen BK190.out 0
                      have hfz71_1 := blk_frozen BK190.out 1
                      go_wp2_with (first | ((with_reducible refine gate_callee (f := 22) rfl ?_); refine goesL_ (some 57) rfl rfl Try.func22 (by kernel_rfl) rfl #[.agg #[.int .i64 t185, .slice Ao13 t193.length co13], .int .i64 1] rfl (by (try simp only [List.map_toArray, List.map_cons, List.map_nil]); first | done | rfl | (simp only [List.length_drop, List.length_take]; rfl)) ?_; (with_reducible refine (laws_heldGraph.calls kj34 t185 _ _ t193 1 t202 _ ?side1 ?side2 A62.out).mono ?_); (case side1 => repeat (first | exact (Kd.R_reads' HO_191001.out).2.2 | (with_reducible refine Kd.C_alloc ?_ _) | (with_reducible refine Kd.C_drewN ?_ _) | (with_reducible refine Kd.C_drew ?_))); (case side2 => exact (Kd.R_reads' HO_191001.out).2.1); rintro e w72 ⟨rfl, hb⟩; refine ⟨_, rfl, ?_⟩; have n0_ := Aside0.mk (Kd.R_below (by (with_reducible repeat (first | apply Kd.R_alloc | apply Kd.R_drewN | apply Kd.R_drew)); exact HO_185001.out) hb); have n1_ := Aside0.mk (Kd.R_below (by (with_reducible repeat (first | apply Kd.R_alloc | apply Kd.R_drewN | apply Kd.R_drew)); exact HO_191001.out) hb); have n2_ := Aside0.mk (Kd.R_below (by (with_reducible repeat (first | apply Kd.R_alloc | apply Kd.R_drewN | apply Kd.R_drew)); exact HO_201001.out) hb); have n3_ := Aside0.mk (blk_below (g := gb184) (o := .cells #[.int .i64 t179, .slice Ao8 t180.length co8] 34 (0, 0)) (by (with_reducible repeat (first | refine blk_drewN ?_ _ | refine blk_drew ?_ | refine blk_alloc ?_ _)); exact BK184.out) hb); have n4_ := Aside0.mk (blk_below (g := gb190) (o := .cells #[.int .i64 t185, .slice Ao13 t193.length co13] 34 (0, 0)) (by (with_reducible repeat (first | refine blk_drewN ?_ _ | refine blk_drew ?_ | refine blk_alloc ?_ _)); exact BK190.out) hb); have n5_ := Aside0.mk (blk_below (g := gb200) (o := .cells #[.int .i64 t195, .slice Ao46 t196.length co46] 34 (0, 0)) (by (with_reducible repeat (first | refine blk_drewN ?_ _ | refine blk_drew ?_ | refine blk_alloc ?_ _)); exact BK200.out) hb); have n6_ := Aside0.mk (below_step (by repeat (first | (with_reducible first | exact HB.out | apply below_alloc | apply pw_below_drewN | apply below_drew1 | refine below_set ?_ GE184.out | refine below_set ?_ GE190.out | refine below_set ?_ GE200.out) | exact HB.out)) hb); clear HO_185001; clear HO_191001; clear HO_201001; clear BK184; clear BK190; clear BK200; clear HB; have HO_185001 := n0_; have HO_191001 := n1_; have HO_201001 := n2_; have BK184 := n3_; have BK190 := n4_; have BK200 := n5_; have HB := n6_; clear n0_ n1_ n2_ n3_ n4_ n5_ n6_; (try clear hb); (try clear hb2); (try clear hk); (try clear hi)))
                      go_ret
                      exact ⟨by first | rfl | (simp [errW_none, errW_some] <;> rfl) | (simp [*, errW_none, errW_some] <;> rfl), by repeat (first | (with_reducible first | exact HB.out | apply below_alloc | apply pw_below_drewN | apply below_drew1 | refine below_set ?_ GE184.out | refine below_set ?_ GE190.out | refine below_set ?_ GE200.out) | exact HB.out)⟩
                    · rw [if_neg c68] at H
                      have c68b0 : (t202 == t192) = false := beq_eq_false_iff_ne.mpr c68
                      have c68b1 : (t202 != t192) = true := bne_iff_ne.mpr c68
                      obtain rfl := Option.some.inj H
                      have hnb73 := NB190_184.out
                      have hnc73 := NB184_190.out
                      have hnb74 := NB190_200.out
                      have hnc74 := NB200_190.out
                      have hcz75_0 : wc.cell? ⟨gb190, 0, none⟩ = some (.int .i64 t185) := (blk_cell BK190.out 0).trans rfl
                      have hcz75_1 : wc.cell? ⟨gb190, 1, none⟩ = some (.slice Ao13 t193.length co13) := (blk_cell BK190.out 1).trans rfl
                      have hfz75_0 := blk_frozen BK190.out 0
                      have hfz75_1 := blk_frozen BK190.out 1
                      go_wp2_with (first | ((with_reducible refine gate_callee (f := 22) rfl ?_); refine goesL_ (some 57) rfl rfl Try.func22 (by kernel_rfl) rfl #[.agg #[.int .i64 t185, .slice Ao13 t193.length co13], .int .i64 1] rfl (by (try simp only [List.map_toArray, List.map_cons, List.map_nil]); first | done | rfl | (simp only [List.length_drop, List.length_take]; rfl)) ?_; (with_reducible refine (laws_heldGraph.calls kj34 t185 _ _ t193 1 t202 _ ?side1 ?side2 A62.out).mono ?_); (case side1 => repeat (first | exact (Kd.R_reads' HO_191001.out).2.2 | (with_reducible refine Kd.C_alloc ?_ _) | (with_reducible refine Kd.C_drewN ?_ _) | (with_reducible refine Kd.C_drew ?_))); (case side2 => exact (Kd.R_reads' HO_191001.out).2.1); rintro e w76 ⟨rfl, hb⟩; refine ⟨_, rfl, ?_⟩; have n0_ := Aside0.mk (Kd.R_below (by (with_reducible repeat (first | apply Kd.R_alloc | apply Kd.R_drewN | apply Kd.R_drew)); exact HO_185001.out) hb); have n1_ := Aside0.mk (Kd.R_below (by (with_reducible repeat (first | apply Kd.R_alloc | apply Kd.R_drewN | apply Kd.R_drew)); exact HO_191001.out) hb); have n2_ := Aside0.mk (Kd.R_below (by (with_reducible repeat (first | apply Kd.R_alloc | apply Kd.R_drewN | apply Kd.R_drew)); exact HO_201001.out) hb); have n3_ := Aside0.mk (blk_below (g := gb184) (o := .cells #[.int .i64 t179, .slice Ao8 t180.length co8] 34 (0, 0)) (by (with_reducible repeat (first | refine blk_drewN ?_ _ | refine blk_drew ?_ | refine blk_alloc ?_ _)); exact BK184.out) hb); have n4_ := Aside0.mk (blk_below (g := gb190) (o := .cells #[.int .i64 t185, .slice Ao13 t193.length co13] 34 (0, 0)) (by (with_reducible repeat (first | refine blk_drewN ?_ _ | refine blk_drew ?_ | refine blk_alloc ?_ _)); exact BK190.out) hb); have n5_ := Aside0.mk (blk_below (g := gb200) (o := .cells #[.int .i64 t195, .slice Ao46 t196.length co46] 34 (0, 0)) (by (with_reducible repeat (first | refine blk_drewN ?_ _ | refine blk_drew ?_ | refine blk_alloc ?_ _)); exact BK200.out) hb); have n6_ := Aside0.mk (below_step (by repeat (first | (with_reducible first | exact HB.out | apply below_alloc | apply pw_below_drewN | apply below_drew1 | refine below_set ?_ GE184.out | refine below_set ?_ GE190.out | refine below_set ?_ GE200.out) | exact HB.out)) hb); clear HO_185001; clear HO_191001; clear HO_201001; clear BK184; clear BK190; clear BK200; clear HB; have HO_185001 := n0_; have HO_191001 := n1_; have HO_201001 := n2_; have BK184 := n3_; have BK190 := n4_; have BK200 := n5_; have HB := n6_; clear n0_ n1_ n2_ n3_ n4_ n5_ n6_; (try clear hb); (try clear hb2); (try clear hk); (try clear hi)))
                      go_ret
                      exact ⟨by first | rfl | (simp [errW_none, errW_some] <;> rfl) | (simp [*, errW_none, errW_some] <;> rfl), by repeat (first | (with_reducible first | exact HB.out | apply below_alloc | apply pw_below_drewN | apply below_drew1 | refine below_set ?_ GE184.out | refine below_set ?_ GE190.out | refine below_set ?_ GE200.out) | exact HB.out)⟩
          · rw [if_neg c33] at H
            have c33b0 : (t194 == t192) = false := beq_eq_false_iff_ne.mpr c33
            have c33b1 : (t194 != t192) = true := bne_iff_ne.mpr c33
            obtain rfl := Option.some.inj H
            have hnb77 := NB190_184.out
            have hnc77 := NB184_190.out
            have hcz78_0 : wc.cell? ⟨gb190, 0, none⟩ = some (.int .i64 t185) := (blk_cell BK190.out 0).trans rfl
            have hcz78_1 : wc.cell? ⟨gb190, 1, none⟩ = some (.slice Ao13 t186.length co13) := (blk_cell BK190.out 1).trans rfl
            have hfz78_0 := blk_frozen BK190.out 0
            have hfz78_1 := blk_frozen BK190.out 1
            go_wp2_with (first | ((with_reducible refine gate_callee (f := 21) rfl ?_); refine goesL_ (some 32) rfl rfl Try.func21 (by kernel_rfl) rfl #[.agg #[.int .i64 t185, .slice Ao13 t186.length co13], .int .i64 1] rfl (by (try simp only [List.map_toArray, List.map_cons, List.map_nil]); first | done | rfl | (simp only [List.length_drop, List.length_take]; rfl)) ?_; (with_reducible refine (laws_markGraph.calls kj3 t185 (fun k_ => some k_ = (.slice Ao13 t186.length co13 : Value).ownBlock) (.slice Ao13 t186.length co13) t186 1 t192 t193 w _ ?side1 ?side2 A25.out).mono ?_); (case side1 => repeat (first | (with_reducible first | exact HB.out | apply below_alloc | apply pw_below_drewN | apply below_drew1 | refine below_set ?_ GE184.out | refine below_set ?_ GE190.out) | exact HB.out)); (case side2 => exact Kd.R_tight rfl HO_191001.out); rintro e w79 ⟨rfl, hy0, hb, hkp⟩; refine ⟨_, rfl, ?_⟩; have n0_ := Aside0.mk (Kd.R_mono (ok' := fun k_ => some k_ ≠ (.slice Ao13 t186.length co13 : Value).ownBlock) (Kd.R_keptB (HO_185001.out) hkp (fun k_ hk_ hs_ => (hk_) hs_)) (fun k_ hk_ => hk_.1)); have n1_ := Aside0.mk (Kd.R_reok rfl hy0 (fun k_ e_ => HO_191001.out.1 k_ e_)); have n2_ := Aside0.mk (blk_kept (by (with_reducible repeat (first | refine blk_drewN ?_ _ | refine blk_drew ?_ | refine blk_alloc ?_ _)); exact BK184.out) hkp (fun hs_ => (fun e_ => (Kd.R_ne HO_191001.out BK184.out (by decide)) e_) hs_)); have n3_ := Aside0.mk (blk_kept (by (with_reducible repeat (first | refine blk_drewN ?_ _ | refine blk_drew ?_ | refine blk_alloc ?_ _)); exact BK190.out) hkp (fun hs_ => (fun e_ => (Kd.R_ne HO_191001.out BK190.out (by decide)) e_) hs_)); have n4_ := Aside0.mk (hb); clear HO_185001; clear HO_191001; clear BK184; clear BK190; clear HB; have HO_185001 := n0_; have HO_191001 := n1_; have BK184 := n2_; have BK190 := n3_; have HB := n4_; clear n0_ n1_ n2_ n3_ n4_; (try clear hb); (try clear hkp); (try clear hy0); have hcz80_0 : w79.cell? ⟨gb190, 0, none⟩ = some (.int .i64 t185) := (blk_cell BK190.out 0).trans rfl; have hcz80_1 : w79.cell? ⟨gb190, 1, none⟩ = some (.slice Ao13 t186.length co13) := (blk_cell BK190.out 1).trans rfl; have hfz80_0 := blk_frozen BK190.out 0; have hfz80_1 := blk_frozen BK190.out 1) | ((with_reducible refine gate_callee (f := 22) rfl ?_); refine goesL_ (some 35) rfl rfl Try.func22 (by kernel_rfl) rfl #[.agg #[.int .i64 t185, .slice Ao13 t193.length co13], .int .i64 1] rfl (by (try simp only [List.map_toArray, List.map_cons, List.map_nil]); first | done | (rw [show t193.length = t186.length from (Kd.R_reads' HO_191001.out).1.symm] <;> rfl) | rfl | (simp only [List.length_drop, List.length_take]; rfl)) ?_; (with_reducible refine (laws_heldGraph.calls kj3 t185 _ _ t193 1 t194 _ ?side1 ?side2 A26.out).mono ?_); (case side1 => repeat (first | exact (Kd.R_reads' HO_191001.out).2.2 | (with_reducible refine Kd.C_alloc ?_ _) | (with_reducible refine Kd.C_drewN ?_ _) | (with_reducible refine Kd.C_drew ?_))); (case side2 => rw [show t193.length = t186.length from (Kd.R_reads' HO_191001.out).1.symm]; exact (Kd.R_reads' HO_191001.out).2.1); rintro e w81 ⟨rfl, hb⟩; refine ⟨_, rfl, ?_⟩; have n0_ := Aside0.mk (Kd.R_below (by (with_reducible repeat (first | apply Kd.R_alloc | apply Kd.R_drewN | apply Kd.R_drew)); exact HO_185001.out) hb); have n1_ := Aside0.mk (Kd.R_below (by (with_reducible repeat (first | apply Kd.R_alloc | apply Kd.R_drewN | apply Kd.R_drew)); exact HO_191001.out) hb); have n2_ := Aside0.mk (blk_below (g := gb184) (o := .cells #[.int .i64 t179, .slice Ao8 t180.length co8] 34 (0, 0)) (by (with_reducible repeat (first | refine blk_drewN ?_ _ | refine blk_drew ?_ | refine blk_alloc ?_ _)); exact BK184.out) hb); have n3_ := Aside0.mk (blk_below (g := gb190) (o := .cells #[.int .i64 t185, .slice Ao13 t186.length co13] 34 (0, 0)) (by (with_reducible repeat (first | refine blk_drewN ?_ _ | refine blk_drew ?_ | refine blk_alloc ?_ _)); exact BK190.out) hb); have n4_ := Aside0.mk (below_step (by repeat (first | (with_reducible first | exact HB.out | apply below_alloc | apply pw_below_drewN | apply below_drew1 | refine below_set ?_ GE184.out | refine below_set ?_ GE190.out) | exact HB.out)) hb); clear HO_185001; clear HO_191001; clear BK184; clear BK190; clear HB; have HO_185001 := n0_; have HO_191001 := n1_; have BK184 := n2_; have BK190 := n3_; have HB := n4_; clear n0_ n1_ n2_ n3_ n4_; (try clear hb); (try clear hb2); (try clear hk); (try clear hi)))
            go_ret
            exact ⟨by first | rfl | (simp [errW_none, errW_some] <;> rfl) | (simp [*, errW_none, errW_some] <;> rfl), by repeat (first | (with_reducible first | exact HB.out | apply below_alloc | apply pw_below_drewN | apply below_drew1 | refine below_set ?_ GE184.out | refine below_set ?_ GE190.out) | exact HB.out)⟩

/-- THE ONE PURE STATEMENT of laws_FnExactPlaneGraph: yours. -/
def laws_FnExactPlaneGraph.Pure : Prop := ∀ (a0 : Int), (Lit.int .i64 a0).wf = true → ∃ k, laws_FnExactPlaneGraph.f k a0 = some true
theorem laws_FnExactPlaneGraph.walk (P : laws_FnExactPlaneGraph.Pure) (a0 : Int) (w : World) (w0 : (Lit.int .i64 a0).wf = true) :
    Calls Try.prog 7 #[.int .i64 a0] w fun e w' => e = .returned (.bool true) ∧ Below w.heap.size w w' := by
  obtain ⟨k, h⟩ := P a0 w0
  refine (laws_FnExactPlaneGraph.calls k a0 true w h).mono ?_
  rintro e w' ⟨rfl, hd⟩
  exact ⟨rfl, hd⟩

end Go.Proofs.Ytockngphfpedkaa.XFnExactPlaneGraph
