-- Written by this project's own program (mprint.py) by means of the kit's printer: with contracts of its own for the functions that the printer leaves out.
import Derived.Test.YthnjnhdalpcfpaaXFnExactNamedGraphx0
import Derived.Test.YthnjnhdalpcfpaaXFnExactNamedGraphx7
import Derived.Test.YthnjnhdalpcfpaaXFnExactNamedGraphx8
import Derived.Test.YthnjnhdalpcfpaaXFnExactNamedGraphx9
namespace Go.Proofs.Ythnjnhdalpcfpaa.XFnExactNamedGraph
open Go.RowKit Go.Proofs.YthnjnhdalpcfpaaW.PrintWords Go.Proofs.YthnjnhdalpcfpaaW.PrintLast Go.Proofs.YthnjnhdalpcfpaaW.PrintMore
attribute [local go_sem] max2_int min2_int max_two min_two max_three min_three max_four min_four   -- for this text's walks alone
set_option linter.unusedVariables false
set_option linter.unusedSimpArgs false

/-! ### impl.made: by hand (it calls what it is handed) -/
def made_.l1 (is : Int → Int → Option Bool) (n a : Int) : Nat → Int → List Int → Option (List Int)
  | 0, _, _ => none
  | k + 1, b, rows => if b < n then ((is a b).bind fun t => if t = true then ((impl_Graph_put.f n rows a b).bind fun r => made_.l1 is n a k (wrap64 (b + 1)) r) else made_.l1 is n a k (wrap64 (b + 1)) rows) else some rows
def made_.l0 (is : Int → Int → Option Bool) (n : Int) : Nat → Int → List Int → Option (List Int)
  | 0, _, _ => none
  | k + 1, a, rows => if a < n then ((made_.l1 is n a k (wrap64 (a + 1)) rows).bind fun r => made_.l0 is n k (wrap64 (a + 1)) r) else some rows
def made_.f (is : Int → Int → Option Bool) (k : Nat) (n : Int) : Option (Int × List Int) := (impl_empty.f n).bind fun e => (made_.l0 is e.1 k 0 e.2).bind fun r => some (e.1, r)
theorem made_.mono1 (is : Int → Int → Option Bool) (n a : Int) : ∀ k, ∀ y0 y1, LeO (made_.l1 is n a k y0 y1) (made_.l1 is n a (k + 1) y0 y1)
  | 0 => fun _ _ r h => by simp [made_.l1] at h
  | k + 1 => by
    have ih0 := made_.mono1 is n a k
    intro y0 y1
    rw [made_.l1.eq_2, made_.l1.eq_2]
    repeat' first
      | (with_reducible exact ih0 _ _)
      | (with_reducible exact LeO.refl _)
      | (with_reducible refine LeO.ite ?_ ?_)
      | (with_reducible refine LeO.bind ?_ (fun _ => ?_))
      | exact ih0 _ _
      | refine LeO.ite ?_ ?_
      | refine LeO.bind ?_ (fun _ => ?_)
theorem made_.mono0 (is : Int → Int → Option Bool) (n : Int) : ∀ k, ∀ y0 y1, LeO (made_.l0 is n k y0 y1) (made_.l0 is n (k + 1) y0 y1)
  | 0 => fun _ _ r h => by simp [made_.l0] at h
  | k + 1 => by
    have ih0 := made_.mono0 is n k
    intro y0 y1
    rw [made_.l0.eq_2, made_.l0.eq_2]
    repeat' first
      | (with_reducible exact ih0 _ _)
      | (with_reducible exact made_.mono1 is n _ _ _ _)
      | (with_reducible exact LeO.refl _)
      | (with_reducible refine LeO.ite ?_ ?_)
      | (with_reducible refine LeO.bind ?_ (fun _ => ?_))
      | exact ih0 _ _
      | exact made_.mono1 is n _ _ _ _
      | refine LeO.ite ?_ ?_
      | refine LeO.bind ?_ (fun _ => ?_)
theorem made_.mono (is : Int → Int → Option Bool) : ∀ a0 k, LeO (made_.f is k a0) (made_.f is (k + 1) a0) := by
  intro a0 k
  unfold made_.f
  repeat' first
      | (with_reducible exact made_.mono0 is _ _ _ _)
      | (with_reducible exact LeO.refl _)
      | (with_reducible refine LeO.bind ?_ (fun _ => ?_))
      | exact made_.mono0 is _ _ _ _
      | refine LeO.bind ?_ (fun _ => ?_)
set_option maxHeartbeats 8000000 in
set_option maxRecDepth 100000 in
theorem made_.calls (F1 : FuncId) (fn1 : Func) (hf1 : Try.prog.funcs[F1]? = some fn1) (hn1 : (fn1.name == "runtime.NumGoroutine") = false) (hb1 : fn1.body.isSome = true) (is : Int → Int → Option Bool) (k : Nat) (n : Int) (r1 : Int) (r2 : List Int) (w : World) (hcall : ∀ (a b : Int) (r : Bool) (W : World), Below w.heap.size w W → is a b = some r → Calls Try.prog F1 #[.int .i64 a, .int .i64 b] W fun e w' => e = .returned (.bool r) ∧ Below W.heap.size W w') (h : made_.f is k n = some (r1, r2)) :
    Calls Try.prog 59 #[.int .i64 n, .func (.func F1) #[] #[]] w fun e w' => ∃ v1_ : Value, e = .returned (.agg #[.int .i64 r1, v1_]) ∧ Kd.R (Kd.int .i64) 2 w' w.heap.size (fun _ => True) v1_ r2 ∧ Below w.heap.size w w' := by
  have hu34 := Try.underlying34
  have HB := Aside0.mk (Below.refl w.heap.size w)
  have HC := Aside0.mk hcall
  clear hcall
  unfold made_.f at h
  obtain ⟨⟨t1, t2⟩, A1, h⟩ := Option.bind_eq_some_iff.mp h
  obtain ⟨R, A2, h⟩ := Option.bind_eq_some_iff.mp h
  simp only [Option.some.injEq, Prod.mk.injEq] at h
  obtain ⟨rfl, rfl⟩ := h
  have tn : t1 = n := by
    unfold impl_empty.f at A1
    repeat' (split at A1)
    all_goals first | (cases A1; done) | (simp only [Option.some.injEq, Prod.mk.injEq] at A1; exact A1.1.symm)
  subst tn
  have A3 := Aside0.mk A1
  have H' := Aside0.mk (show made_.l0 is t1 k 0 t2 = some R from A2)
  clear A1 A2
  go_enter Try.func59, Try.ntmps59
  go_wp2_with (first
    | ((with_reducible refine gate_dst (N := 4) rfl ?_); refine box_event ?hg (N := 4) ?hd (cs := #[.int .i64 0, .slice none 0 0]) (t := 34) ?hr ?_; (case hd => rfl); (case hg => rfl); (case hr => first | (go_simp; done) | (go_simp; rfl)); intro g4 hg w4 hbox hb; have n0_ := Aside0.mk (below_step HB.out hb); have B4 := Aside0.mk hbox; have G4 := Aside0.mk (by rw [hg]; exact below_size HB.out : w.heap.size ≤ g4); clear HB; have HB := n0_; clear n0_ hb hbox hg)
    | ((with_reducible refine gate_callee (f := 51) rfl ?_); refine goesL_ (some 9) rfl rfl Try.func51 (by kernel_rfl) rfl #[.int .i64 t1] rfl (by (try simp only [List.map_toArray, List.map_cons, List.map_nil]); first | done | rfl) ?_; (with_reducible refine (impl_empty.calls t1 t1 t2 _ A3.out).mono ?_); rintro e w5 ⟨v5, rfl, ho0, hb⟩; refine ⟨_, rfl, ?_⟩; have n0_ := Aside0.mk (Kd.R_lower ho0 (below_size HB.out)); have n1_ := Aside0.mk (blk_below B4.out hb); have n2_ := Aside0.mk (below_step HB.out hb); clear HB B4 hb ho0; have HX := n0_; have B4 := n1_; have HB := n2_; clear n0_ n1_ n2_)
    | ((with_reducible refine gate_dst (N := 5) rfl ?_); refine box_event ?hg (N := 5) ?hd (cs := #[.int .i64 0, .slice none 0 0]) (t := 34) ?hr ?_; (case hd => rfl); (case hg => rfl); (case hr => first | (go_simp; done) | (go_simp; rfl)); intro g5 hg w6 hbox hb; have n0_ := Aside0.mk (below_step HB.out hb); have n1_ := Aside0.mk (blk_below B4.out hb); have n2_ := Aside0.mk (Kd.R_below HX.out hb); have B5 := Aside0.mk hbox; have G5 := Aside0.mk (by rw [hg]; exact below_size HB.out : w.heap.size ≤ g5); have NB := Aside0.mk (by rw [hg]; exact Nat.ne_of_lt (blk_lt B4.out) : g4 ≠ g5); have NC := Aside0.mk (by rw [hg]; exact Nat.ne_of_gt (blk_lt B4.out) : g5 ≠ g4); clear HB B4 HX; have HB := n0_; have B4 := n1_; have HX := n2_; clear n0_ n1_ n2_ hb hbox hg; have hcz5_0 : w6.cell? ⟨g5, 0, none⟩ = some (.int .i64 0) := (blk_cell B5.out 0).trans rfl; have hcz5_1 : w6.cell? ⟨g5, 1, none⟩ = some (.slice none 0 0) := (blk_cell B5.out 1).trans rfl; have hfz5_0 := blk_frozen B5.out 0; have hfz5_1 := blk_frozen B5.out 1; obtain ⟨A5, c5, e5⟩ := Kd.R_slice HX.out; subst e5))
  go_loopg [11] k (fun kq v11 w' => ∃ (x11_1 : Int) (rows : List Int) (A : Option Addr) (c : Nat), v11 = .int .i64 x11_1 ∧ Aside0 (made_.l0 is t1 kq x11_1 rows = some R) ∧ Aside0 (kq ≤ k) ∧ Aside0 (Kd.R (Kd.int .i64) 2 w' w.heap.size (fun _ => True) (.slice A rows.length c) rows) ∧ Aside0 (w'.heap[g4]? = some (.cells #[.int .i64 0, (.slice none 0 0)] 34 (0, 0))) ∧ Aside0 (w'.heap[g5]? = some (.cells #[.int .i64 t1, .slice A rows.length c] 34 (0, 0))) ∧ Aside0 (Below w.heap.size w w'))
  case atStart => exact ⟨0, t2, A5, c5, rfl, H', ⟨Nat.le_refl _⟩, ⟨Kd.R_mono (Kd.R_far (p := ⟨g5, 1, none⟩) (Kd.R_far (p := ⟨g5, 0, none⟩) (Kd.R_types HX.out B5.out (by decide)) (fun _ hk => hk.2) (.int .i64 t1)) (fun _ hk => hk.2) (.slice A5 t2.length c5)) (fun _ _ => trivial)⟩, ⟨by refine blk_far ?_ NB.out _; refine blk_far ?_ NB.out _; exact B4.out⟩, ⟨by refine blk_put (cs := #[.int .i64 t1, .slice none 0 0]) ?_ 1 _ rfl; refine blk_put (cs := #[.int .i64 0, .slice none 0 0]) ?_ 0 _ rfl; exact B5.out⟩, ⟨below_set (below_set HB.out G5.out) G5.out⟩⟩
  case round =>
    clear H' hcz5_0 hcz5_1 hfz5_0 hfz5_1 B4 B5 HX HB
    obtain ⟨x11_1, rows, A, c, rfl, HA, HK1, HX, B4, B5, HB⟩ := hrel
    cases gk with
    | zero => exact absurd HA.out (by simp [made_.l0])
    | succ k1 =>
      have H := HA.out
      clear HA
      rw [made_.l0.eq_2] at H
      by_cases c10 : x11_1 < t1
      · rw [if_pos c10] at H
        have c10b0 : decide (x11_1 < t1) = true := decide_eq_true c10
        clear c10
        obtain ⟨R1, A10, H⟩ := Option.bind_eq_some_iff.mp H
        have H' := Aside0.mk H
        have I' := Aside0.mk A10
        clear H A10
        go_wp2
        go_loopg [7] k1 (fun kq v7 w' => ∃ (x7_1 : Int) (rows1 : List Int) (A1 : Option Addr) (c1 : Nat), v7 = .int .i64 x7_1 ∧ Aside0 (made_.l1 is t1 x11_1 kq x7_1 rows1 = some R1) ∧ Aside0 (kq ≤ k1) ∧ Aside0 (Kd.R (Kd.int .i64) 2 w' w.heap.size (fun _ => True) (.slice A1 rows1.length c1) rows1) ∧ Aside0 (w'.heap[g4]? = some (.cells #[.int .i64 0, (.slice none 0 0)] 34 (0, 0))) ∧ Aside0 (w'.heap[g5]? = some (.cells #[.int .i64 t1, .slice A1 rows1.length c1] 34 (0, 0))) ∧ Aside0 (Below w.heap.size w w'))
        case atStart => exact ⟨_, rows, A, c, (by first | rfl | (simp; done)), I', ⟨Nat.le_refl _⟩, HX, B4, B5, HB⟩
        case round =>
          clear I' HX B4 B5 HB
          obtain ⟨x7_1, rows1, A1, c1, rfl, HA, HK2, HX, B4, B5, HB⟩ := hrel
          cases gk with
          | zero => exact absurd HA.out (by simp [made_.l1])
          | succ k2 =>
            have H := HA.out
            clear HA
            rw [made_.l1.eq_2] at H
            by_cases c11 : x7_1 < t1
            · rw [if_pos c11] at H
              have c11b0 : decide (x7_1 < t1) = true := decide_eq_true c11
              clear c11
              obtain ⟨t, A11, H⟩ := Option.bind_eq_some_iff.mp H
              have A12 := Aside0.mk A11
              clear A11
              have HD := Aside0.mk (HC.out x11_1 x7_1 t wr HB.out A12.out)
              by_cases ct : t = true
              · subst ct
                rw [if_pos rfl] at H
                obtain ⟨R2, A13, H⟩ := Option.bind_eq_some_iff.mp H
                have I2 := Aside0.mk H
                have A14 := Aside0.mk A13
                clear H A13
                go_wp2_with fail
                rw [enters_ hf1 hn1 hb1]
                refine HD.out.mono ?_
                rintro e w5 ⟨rfl, hb⟩
                have n0_ := Aside0.mk (Kd.R_below HX.out hb)
                have n1_ := Aside0.mk (blk_below B4.out hb)
                have n2_ := Aside0.mk (blk_below B5.out hb)
                have n3_ := Aside0.mk (below_step HB.out hb)
                clear HX B4 B5 HB hb HD
                have HX := n0_
                have B4 := n1_
                have B5 := n2_
                have HB := n3_
                clear n0_ n1_ n2_ n3_
                have hcz5_0 : w5.cell? ⟨g5, 0, none⟩ = some (.int .i64 t1) := (blk_cell B5.out 0).trans rfl
                have hcz5_1 : w5.cell? ⟨g5, 1, none⟩ = some (.slice A1 rows1.length c1) := (blk_cell B5.out 1).trans rfl
                go_wp2_with (first | ((with_reducible refine gate_callee (f := 52) rfl ?_); refine goesL_ (some 28) rfl rfl Try.func52 (by kernel_rfl) rfl #[.agg #[.int .i64 t1, .slice A1 rows1.length c1], .int .i64 x11_1, .int .i64 x7_1] rfl (by (try simp only [List.map_toArray, List.map_cons, List.map_nil]); first | done | rfl) ?_; (with_reducible refine (impl_Graph_put.calls t1 (fun k_ => some k_ = (.slice A1 rows1.length c1 : Value).ownBlock) (.slice A1 rows1.length c1) rows1 x11_1 x7_1 R2 w _ ?side1 ?side2 A14.out).mono ?_); (case side1 => exact HB.out); (case side2 => exact Kd.R_tight rfl HX.out); rintro e w6 ⟨rfl, hy0, hb, hkp⟩; refine ⟨_, rfl, ?_⟩; have n0_ := Aside0.mk (Kd.R_reok (ok := fun _ => True) rfl hy0 (fun _ _ => trivial)); have n1_ := Aside0.mk (blk_kept B4.out hkp (fun hs_ => (Kd.R_ne HX.out B4.out (by decide)) hs_)); have n2_ := Aside0.mk (blk_kept B5.out hkp (fun hs_ => (Kd.R_ne HX.out B5.out (by decide)) hs_)); have n3_ := Aside0.mk hb; clear HX B4 B5 HB hb hkp hy0 hcz5_0 hcz5_1; have HX := n0_; have B4 := n1_; have B5 := n2_; have HB := n3_; clear n0_ n1_ n2_ n3_))
                obtain ⟨Aq, cq, eq_⟩ := Kd.R_slice HX.out
                injection eq_ with eq1 eq2 eq3
                subst eq1 eq3
                go_roundg k2
                case measure => have := HK1.out; have := HK2.out; omega
                case rel => exact ⟨_, R2, _, _, (by first | rfl | (simp; done)), I2, ⟨by have := HK2.out; omega⟩, ⟨by rw [← eq2]; exact HX.out⟩, B4, ⟨by rw [← eq2]; exact B5.out⟩, HB⟩
              · have tf : t = false := Bool.eq_false_iff.mpr ct
                subst tf
                rw [if_neg (by decide)] at H
                have I2 := Aside0.mk H
                clear H ct
                go_wp2_with fail
                rw [enters_ hf1 hn1 hb1]
                refine HD.out.mono ?_
                rintro e w5 ⟨rfl, hb⟩
                have n0_ := Aside0.mk (Kd.R_below HX.out hb)
                have n1_ := Aside0.mk (blk_below B4.out hb)
                have n2_ := Aside0.mk (blk_below B5.out hb)
                have n3_ := Aside0.mk (below_step HB.out hb)
                clear HX B4 B5 HB hb HD
                have HX := n0_
                have B4 := n1_
                have B5 := n2_
                have HB := n3_
                clear n0_ n1_ n2_ n3_
                go_wp2
                go_roundg k2
                case measure => have := HK1.out; have := HK2.out; omega
                case rel => exact ⟨_, rows1, A1, c1, (by first | rfl | (simp; done)), I2, ⟨by have := HK2.out; omega⟩, HX, B4, B5, HB⟩
            · rw [if_neg c11] at H
              have c11b0 : decide (x7_1 < t1) = false := decide_eq_false c11
              clear c11
              obtain rfl := Option.some.inj H
              clear H
              go_wp2
              go_roundg k1
              case measure => have := HK1.out; omega
              case rel => exact ⟨_, rows1, A1, c1, (by first | rfl | (simp; done)), H', ⟨by have := HK1.out; omega⟩, HX, B4, B5, HB⟩
      · rw [if_neg c10] at H
        have c10b0 : decide (x11_1 < t1) = false := decide_eq_false c10
        clear c10
        obtain rfl := Option.some.inj H
        clear H
        have hnb := NB.out
        have hnc := NC.out
        have hcz5_0 : wr.cell? ⟨g5, 0, none⟩ = some (.int .i64 t1) := (blk_cell B5.out 0).trans rfl
        have hcz5_1 : wr.cell? ⟨g5, 1, none⟩ = some (.slice A rows.length c) := (blk_cell B5.out 1).trans rfl
        have hfz5_0 := blk_frozen B5.out 0
        have hfz5_1 := blk_frozen B5.out 1
        have hcz4_0 : wr.cell? ⟨g4, 0, none⟩ = some (.int .i64 0) := (blk_cell B4.out 0).trans rfl
        have hcz4_1 : wr.cell? ⟨g4, 1, none⟩ = some (.slice none 0 0) := (blk_cell B4.out 1).trans rfl
        have hfz4_0 := blk_frozen B4.out 0
        have hfz4_1 := blk_frozen B4.out 1
        go_wp2
        refine bodyPost_ret (results_cell_row rfl _ _ g4 34 #[.int .i64 t1, .slice A rows.length c] (0, 0) _ rfl (by refine blk_put (cs := #[.int .i64 t1, .slice none 0 0]) ?_ 1 _ rfl; refine blk_put (cs := #[.int .i64 0, .slice none 0 0]) ?_ 0 _ rfl; exact B4.out) Try.underlying34 rfl (by kernel_rfl)) rfl ?_
        exact ⟨_, rfl, Kd.R_mono (Kd.R_far (p := ⟨g4, 1, none⟩) (Kd.R_far (p := ⟨g4, 0, none⟩) (Kd.R_types HX.out B4.out (by decide)) (fun _ hk => hk.2) (.int .i64 t1)) (fun _ hk => hk.2) (.slice A rows.length c)) (fun _ _ => trivial), below_set (below_set HB.out G4.out) G4.out⟩
/-! ### impl.NamedGraph: by hand -/
def impl_NamedGraph.f (k : Nat) (a0 : ByteArray) : Option (Int × List Int × Int) := if a0.toList = ([107, 52] : List UInt8) then ((made_.f impl_NamedGraph_1.f k 4).bind fun t => some (t.1, t.2, 0)) else (if a0.toList = ([107, 53] : List UInt8) then ((made_.f impl_NamedGraph_2.f k 5).bind fun t => some (t.1, t.2, 0)) else (if a0.toList = ([107, 51, 51] : List UInt8) then ((made_.f impl_NamedGraph_3.f k 6).bind fun t => some (t.1, t.2, 0)) else (if a0.toList = ([99, 117, 98, 101] : List UInt8) then ((made_.f impl_NamedGraph_4.f k 8).bind fun t => some (t.1, t.2, 0)) else (if a0.toList = ([99, 108, 101, 98, 115, 99, 104] : List UInt8) then ((made_.f impl_NamedGraph_5.f k 16).bind fun t => some (t.1, t.2, 0)) else (if a0.toList = ([112, 101, 116, 101, 114, 115, 101, 110] : List UInt8) then ((impl_ringGraph.f k 5 2).bind fun t => some (t.1, t.2, 0)) else (if a0.toList = ([105, 99, 111, 115, 97, 104, 101, 100, 114, 111, 110] : List UInt8) then ((impl_icosahedron.f k).bind fun t => some (t.1, t.2, 0)) else (if a0.toList = ([104, 111, 102, 102, 109, 97, 110, 115, 105, 110, 103, 108, 101, 116, 111, 110] : List UInt8) then ((impl_hoffmanSingleton.f k).bind fun t => some (t.1, t.2, 0)) else (if a0.toList = ([104, 101, 97, 119, 111, 111, 100] : List UInt8) then ((impl_jumpGraph.f k 14 [5, 9]).bind fun t => some (t.1, t.2, 0)) else (if a0.toList = ([109, 111, 101, 98, 105, 117, 115, 107, 97, 110, 116, 111, 114] : List UInt8) then ((impl_jumpGraph.f k 16 [5, 11]).bind fun t => some (t.1, t.2, 0)) else (if a0.toList = ([112, 97, 112, 112, 117, 115] : List UInt8) then ((impl_jumpGraph.f k 18 [5, 7, 11, 7, 11, 13]).bind fun t => some (t.1, t.2, 0)) else (if a0.toList = ([100, 101, 115, 97, 114, 103, 117, 101, 115] : List UInt8) then ((impl_jumpGraph.f k 20 [5, 15, 9, 11]).bind fun t => some (t.1, t.2, 0)) else (if a0.toList = ([100, 111, 100, 101, 99, 97, 104, 101, 100, 114, 111, 110] : List UInt8) then ((impl_jumpGraph.f k 20 [10, 7, 4, 16, 13, 10, 16, 7, 13, 4]).bind fun t => some (t.1, t.2, 0)) else (if a0.toList = ([109, 99, 103, 101, 101] : List UInt8) then ((impl_jumpGraph.f k 24 [12, 7, 17]).bind fun t => some (t.1, t.2, 0)) else (if a0.toList = ([116, 117, 116, 116, 101, 99, 111, 120, 101, 116, 101, 114] : List UInt8) then ((impl_jumpGraph.f k 30 [17, 21, 7, 23, 9, 13]).bind fun t => some (t.1, t.2, 0)) else (some (0, ([] : List Int), 4))))))))))))))))
theorem impl_NamedGraph.mono : ∀ a0 k, LeO (impl_NamedGraph.f k a0) (impl_NamedGraph.f (k + 1) a0) := by
  intro a0 k
  unfold impl_NamedGraph.f
  repeat' first
      | (with_reducible exact made_.mono _ _ _)
      | (with_reducible exact impl_ringGraph.mono _ _ _)
      | (with_reducible exact impl_icosahedron.mono _)
      | (with_reducible exact impl_hoffmanSingleton.mono _)
      | (with_reducible exact impl_jumpGraph.mono _ _ _)
      | (with_reducible exact LeO.refl _)
      | (with_reducible refine LeO.ite ?_ ?_)
      | (with_reducible refine LeO.bind ?_ (fun _ => ?_))
      | exact made_.mono _ _ _
      | exact impl_ringGraph.mono _ _ _
      | exact impl_icosahedron.mono _
      | exact impl_hoffmanSingleton.mono _
      | exact impl_jumpGraph.mono _ _ _
      | refine LeO.ite ?_ ?_
      | refine LeO.bind ?_ (fun _ => ?_)
set_option maxHeartbeats 16000000 in
set_option maxRecDepth 100000 in
theorem impl_NamedGraph.calls (k : Nat) (a0 : ByteArray) (r1 : Int) (r2 : List Int) (r3 : Int) (w : World) (h : impl_NamedGraph.f k a0 = some (r1, r2, r3)) :
    Calls Try.prog 39 #[.string a0] w fun e w' => ∃ v1_ : Value, e = .returned (.tuple #[.agg #[.int .i64 r1, v1_], .int .i64 r3]) ∧ Kd.R (Kd.int .i64) 2 w' w.heap.size (fun _ => True) v1_ r2 ∧ Below w.heap.size w w' := by
  have hu34 := Try.underlying34
  have HB := Aside0.mk (Below.refl w.heap.size w)
  unfold impl_NamedGraph.f at h
  by_cases c0 : a0.toList = ([107, 52] : List UInt8)
  · rw [if_pos c0] at h
    have d0 : (a0.toList == ([107, 52] : List UInt8)) = true := beq_iff_eq.mpr c0
    clear c0
    obtain ⟨⟨t1, t2⟩, A1, h⟩ := Option.bind_eq_some_iff.mp h
    simp only [Option.some.injEq, Prod.mk.injEq] at h
    obtain ⟨rfl, rfl, rfl⟩ := h
    have A2 := Aside0.mk A1
    clear A1
    go_enter Try.func39, Try.ntmps39
    go_wp2_with (first | ((with_reducible refine gate_dst (N := 2) rfl ?_); refine box_event ?hg (N := 2) ?hd (cs := #[.int .i64 0, .slice none 0 0]) (t := 34) ?hr ?_; (case hd => rfl); (case hg => rfl); (case hr => first | (go_simp; done) | (go_simp; rfl)); intro g2 hg w2 hbox hb; have n0_ := Aside0.mk (below_step HB.out hb); have B2 := Aside0.mk hbox; have G2 := Aside0.mk (by rw [hg]; exact below_size HB.out : w.heap.size ≤ g2); clear HB; have HB := n0_; clear n0_ hb hbox hg) | ((with_reducible refine gate_callee (f := 59) rfl ?_); refine goesL_ (some 7) rfl rfl Try.func59 (by kernel_rfl) rfl #[.int .i64 4, .func (.func 65) #[] #[]] rfl (by (try simp only [List.map_toArray, List.map_cons, List.map_nil]); first | done | rfl) ?_; (refine (made_.calls 65 _ Try.func65 rfl rfl impl_NamedGraph_1.f k 4 t1 t2 _ ?side1 A2.out).mono ?_); (case side1 => exact fun a b r W _ h_ => (impl_NamedGraph_1.calls a b r W h_).mono (by rintro e w' ⟨rfl, hh⟩; first | exact ⟨rfl, hh⟩ | exact ⟨rfl, hh.below⟩ | (obtain ⟨nd, rfl⟩ := hh; exact ⟨rfl, pw_below_drewN (Below.refl _ _) _⟩))); rintro e w5 ⟨v5, rfl, ho0, hb⟩; refine ⟨_, rfl, ?_⟩; have n0_ := Aside0.mk (Kd.R_lower ho0 (below_size HB.out)); have n1_ := Aside0.mk (blk_below B2.out hb); have n2_ := Aside0.mk (below_step HB.out hb); clear HB B2 hb ho0; have HX := n0_; have B2 := n1_; have HB := n2_; clear n0_ n1_ n2_; obtain ⟨A5, c5, e5⟩ := Kd.R_slice HX.out; subst e5; have hcz2_0 : w5.cell? ⟨g2, 0, none⟩ = some (.int .i64 0) := (blk_cell B2.out 0).trans rfl; have hcz2_1 : w5.cell? ⟨g2, 1, none⟩ = some (.slice none 0 0) := (blk_cell B2.out 1).trans rfl; have hfz2_0 := blk_frozen B2.out 0; have hfz2_1 := blk_frozen B2.out 1))
    refine bodyPost_ret (results_ct rfl _ _ g2 34 #[.int .i64 t1, .slice A5 t2.length c5] (0, 0) _ rfl (by refine blk_put (cs := #[.int .i64 t1, .slice none 0 0]) ?_ 1 _ rfl; refine blk_put (cs := #[.int .i64 0, .slice none 0 0]) ?_ 0 _ rfl; exact B2.out) Try.underlying34 rfl (by kernel_rfl)) rfl ?_
    exact ⟨_, rfl, Kd.R_mono (Kd.R_far (p := ⟨g2, 1, none⟩) (Kd.R_far (p := ⟨g2, 0, none⟩) (Kd.R_types HX.out B2.out (by decide)) (fun _ hk => hk.2) (.int .i64 t1)) (fun _ hk => hk.2) (.slice A5 t2.length c5)) (fun _ _ => trivial), below_set (below_set HB.out G2.out) G2.out⟩
  rw [if_neg c0] at h
  have d0 : (a0.toList == ([107, 52] : List UInt8)) = false := beq_eq_false_iff_ne.mpr c0
  clear c0
  by_cases c1 : a0.toList = ([107, 53] : List UInt8)
  · rw [if_pos c1] at h
    have d1 : (a0.toList == ([107, 53] : List UInt8)) = true := beq_iff_eq.mpr c1
    clear c1
    obtain ⟨⟨t1, t2⟩, A1, h⟩ := Option.bind_eq_some_iff.mp h
    simp only [Option.some.injEq, Prod.mk.injEq] at h
    obtain ⟨rfl, rfl, rfl⟩ := h
    have A2 := Aside0.mk A1
    clear A1
    go_enter Try.func39, Try.ntmps39
    go_wp2_with (first | ((with_reducible refine gate_dst (N := 2) rfl ?_); refine box_event ?hg (N := 2) ?hd (cs := #[.int .i64 0, .slice none 0 0]) (t := 34) ?hr ?_; (case hd => rfl); (case hg => rfl); (case hr => first | (go_simp; done) | (go_simp; rfl)); intro g2 hg w2 hbox hb; have n0_ := Aside0.mk (below_step HB.out hb); have B2 := Aside0.mk hbox; have G2 := Aside0.mk (by rw [hg]; exact below_size HB.out : w.heap.size ≤ g2); clear HB; have HB := n0_; clear n0_ hb hbox hg) | ((with_reducible refine gate_callee (f := 59) rfl ?_); refine goesL_ (some 10) rfl rfl Try.func59 (by kernel_rfl) rfl #[.int .i64 5, .func (.func 66) #[] #[]] rfl (by (try simp only [List.map_toArray, List.map_cons, List.map_nil]); first | done | rfl) ?_; (refine (made_.calls 66 _ Try.func66 rfl rfl impl_NamedGraph_2.f k 5 t1 t2 _ ?side1 A2.out).mono ?_); (case side1 => exact fun a b r W _ h_ => (impl_NamedGraph_2.calls a b r W h_).mono (by rintro e w' ⟨rfl, hh⟩; first | exact ⟨rfl, hh⟩ | exact ⟨rfl, hh.below⟩ | (obtain ⟨nd, rfl⟩ := hh; exact ⟨rfl, pw_below_drewN (Below.refl _ _) _⟩))); rintro e w5 ⟨v5, rfl, ho0, hb⟩; refine ⟨_, rfl, ?_⟩; have n0_ := Aside0.mk (Kd.R_lower ho0 (below_size HB.out)); have n1_ := Aside0.mk (blk_below B2.out hb); have n2_ := Aside0.mk (below_step HB.out hb); clear HB B2 hb ho0; have HX := n0_; have B2 := n1_; have HB := n2_; clear n0_ n1_ n2_; obtain ⟨A5, c5, e5⟩ := Kd.R_slice HX.out; subst e5; have hcz2_0 : w5.cell? ⟨g2, 0, none⟩ = some (.int .i64 0) := (blk_cell B2.out 0).trans rfl; have hcz2_1 : w5.cell? ⟨g2, 1, none⟩ = some (.slice none 0 0) := (blk_cell B2.out 1).trans rfl; have hfz2_0 := blk_frozen B2.out 0; have hfz2_1 := blk_frozen B2.out 1))
    refine bodyPost_ret (results_ct rfl _ _ g2 34 #[.int .i64 t1, .slice A5 t2.length c5] (0, 0) _ rfl (by refine blk_put (cs := #[.int .i64 t1, .slice none 0 0]) ?_ 1 _ rfl; refine blk_put (cs := #[.int .i64 0, .slice none 0 0]) ?_ 0 _ rfl; exact B2.out) Try.underlying34 rfl (by kernel_rfl)) rfl ?_
    exact ⟨_, rfl, Kd.R_mono (Kd.R_far (p := ⟨g2, 1, none⟩) (Kd.R_far (p := ⟨g2, 0, none⟩) (Kd.R_types HX.out B2.out (by decide)) (fun _ hk => hk.2) (.int .i64 t1)) (fun _ hk => hk.2) (.slice A5 t2.length c5)) (fun _ _ => trivial), below_set (below_set HB.out G2.out) G2.out⟩
  rw [if_neg c1] at h
  have d1 : (a0.toList == ([107, 53] : List UInt8)) = false := beq_eq_false_iff_ne.mpr c1
  clear c1
  by_cases c2 : a0.toList = ([107, 51, 51] : List UInt8)
  · rw [if_pos c2] at h
    have d2 : (a0.toList == ([107, 51, 51] : List UInt8)) = true := beq_iff_eq.mpr c2
    clear c2
    obtain ⟨⟨t1, t2⟩, A1, h⟩ := Option.bind_eq_some_iff.mp h
    simp only [Option.some.injEq, Prod.mk.injEq] at h
    obtain ⟨rfl, rfl, rfl⟩ := h
    have A2 := Aside0.mk A1
    clear A1
    go_enter Try.func39, Try.ntmps39
    go_wp2_with (first | ((with_reducible refine gate_dst (N := 2) rfl ?_); refine box_event ?hg (N := 2) ?hd (cs := #[.int .i64 0, .slice none 0 0]) (t := 34) ?hr ?_; (case hd => rfl); (case hg => rfl); (case hr => first | (go_simp; done) | (go_simp; rfl)); intro g2 hg w2 hbox hb; have n0_ := Aside0.mk (below_step HB.out hb); have B2 := Aside0.mk hbox; have G2 := Aside0.mk (by rw [hg]; exact below_size HB.out : w.heap.size ≤ g2); clear HB; have HB := n0_; clear n0_ hb hbox hg) | ((with_reducible refine gate_callee (f := 59) rfl ?_); refine goesL_ (some 13) rfl rfl Try.func59 (by kernel_rfl) rfl #[.int .i64 6, .func (.func 67) #[] #[]] rfl (by (try simp only [List.map_toArray, List.map_cons, List.map_nil]); first | done | rfl) ?_; (refine (made_.calls 67 _ Try.func67 rfl rfl impl_NamedGraph_3.f k 6 t1 t2 _ ?side1 A2.out).mono ?_); (case side1 => exact fun a b r W _ h_ => (impl_NamedGraph_3.calls a b r W h_).mono (by rintro e w' ⟨rfl, hh⟩; first | exact ⟨rfl, hh⟩ | exact ⟨rfl, hh.below⟩ | (obtain ⟨nd, rfl⟩ := hh; exact ⟨rfl, pw_below_drewN (Below.refl _ _) _⟩))); rintro e w5 ⟨v5, rfl, ho0, hb⟩; refine ⟨_, rfl, ?_⟩; have n0_ := Aside0.mk (Kd.R_lower ho0 (below_size HB.out)); have n1_ := Aside0.mk (blk_below B2.out hb); have n2_ := Aside0.mk (below_step HB.out hb); clear HB B2 hb ho0; have HX := n0_; have B2 := n1_; have HB := n2_; clear n0_ n1_ n2_; obtain ⟨A5, c5, e5⟩ := Kd.R_slice HX.out; subst e5; have hcz2_0 : w5.cell? ⟨g2, 0, none⟩ = some (.int .i64 0) := (blk_cell B2.out 0).trans rfl; have hcz2_1 : w5.cell? ⟨g2, 1, none⟩ = some (.slice none 0 0) := (blk_cell B2.out 1).trans rfl; have hfz2_0 := blk_frozen B2.out 0; have hfz2_1 := blk_frozen B2.out 1))
    refine bodyPost_ret (results_ct rfl _ _ g2 34 #[.int .i64 t1, .slice A5 t2.length c5] (0, 0) _ rfl (by refine blk_put (cs := #[.int .i64 t1, .slice none 0 0]) ?_ 1 _ rfl; refine blk_put (cs := #[.int .i64 0, .slice none 0 0]) ?_ 0 _ rfl; exact B2.out) Try.underlying34 rfl (by kernel_rfl)) rfl ?_
    exact ⟨_, rfl, Kd.R_mono (Kd.R_far (p := ⟨g2, 1, none⟩) (Kd.R_far (p := ⟨g2, 0, none⟩) (Kd.R_types HX.out B2.out (by decide)) (fun _ hk => hk.2) (.int .i64 t1)) (fun _ hk => hk.2) (.slice A5 t2.length c5)) (fun _ _ => trivial), below_set (below_set HB.out G2.out) G2.out⟩
  rw [if_neg c2] at h
  have d2 : (a0.toList == ([107, 51, 51] : List UInt8)) = false := beq_eq_false_iff_ne.mpr c2
  clear c2
  by_cases c3 : a0.toList = ([99, 117, 98, 101] : List UInt8)
  · rw [if_pos c3] at h
    have d3 : (a0.toList == ([99, 117, 98, 101] : List UInt8)) = true := beq_iff_eq.mpr c3
    clear c3
    obtain ⟨⟨t1, t2⟩, A1, h⟩ := Option.bind_eq_some_iff.mp h
    simp only [Option.some.injEq, Prod.mk.injEq] at h
    obtain ⟨rfl, rfl, rfl⟩ := h
    have A2 := Aside0.mk A1
    clear A1
    go_enter Try.func39, Try.ntmps39
    go_wp2_with (first | ((with_reducible refine gate_dst (N := 2) rfl ?_); refine box_event ?hg (N := 2) ?hd (cs := #[.int .i64 0, .slice none 0 0]) (t := 34) ?hr ?_; (case hd => rfl); (case hg => rfl); (case hr => first | (go_simp; done) | (go_simp; rfl)); intro g2 hg w2 hbox hb; have n0_ := Aside0.mk (below_step HB.out hb); have B2 := Aside0.mk hbox; have G2 := Aside0.mk (by rw [hg]; exact below_size HB.out : w.heap.size ≤ g2); clear HB; have HB := n0_; clear n0_ hb hbox hg) | ((with_reducible refine gate_callee (f := 59) rfl ?_); refine goesL_ (some 16) rfl rfl Try.func59 (by kernel_rfl) rfl #[.int .i64 8, .func (.func 68) #[] #[]] rfl (by (try simp only [List.map_toArray, List.map_cons, List.map_nil]); first | done | rfl) ?_; (refine (made_.calls 68 _ Try.func68 rfl rfl impl_NamedGraph_4.f k 8 t1 t2 _ ?side1 A2.out).mono ?_); (case side1 => exact fun a b r W _ h_ => (impl_NamedGraph_4.calls a b r W h_).mono (by rintro e w' ⟨rfl, hh⟩; first | exact ⟨rfl, hh⟩ | exact ⟨rfl, hh.below⟩ | (obtain ⟨nd, rfl⟩ := hh; exact ⟨rfl, pw_below_drewN (Below.refl _ _) _⟩))); rintro e w5 ⟨v5, rfl, ho0, hb⟩; refine ⟨_, rfl, ?_⟩; have n0_ := Aside0.mk (Kd.R_lower ho0 (below_size HB.out)); have n1_ := Aside0.mk (blk_below B2.out hb); have n2_ := Aside0.mk (below_step HB.out hb); clear HB B2 hb ho0; have HX := n0_; have B2 := n1_; have HB := n2_; clear n0_ n1_ n2_; obtain ⟨A5, c5, e5⟩ := Kd.R_slice HX.out; subst e5; have hcz2_0 : w5.cell? ⟨g2, 0, none⟩ = some (.int .i64 0) := (blk_cell B2.out 0).trans rfl; have hcz2_1 : w5.cell? ⟨g2, 1, none⟩ = some (.slice none 0 0) := (blk_cell B2.out 1).trans rfl; have hfz2_0 := blk_frozen B2.out 0; have hfz2_1 := blk_frozen B2.out 1))
    refine bodyPost_ret (results_ct rfl _ _ g2 34 #[.int .i64 t1, .slice A5 t2.length c5] (0, 0) _ rfl (by refine blk_put (cs := #[.int .i64 t1, .slice none 0 0]) ?_ 1 _ rfl; refine blk_put (cs := #[.int .i64 0, .slice none 0 0]) ?_ 0 _ rfl; exact B2.out) Try.underlying34 rfl (by kernel_rfl)) rfl ?_
    exact ⟨_, rfl, Kd.R_mono (Kd.R_far (p := ⟨g2, 1, none⟩) (Kd.R_far (p := ⟨g2, 0, none⟩) (Kd.R_types HX.out B2.out (by decide)) (fun _ hk => hk.2) (.int .i64 t1)) (fun _ hk => hk.2) (.slice A5 t2.length c5)) (fun _ _ => trivial), below_set (below_set HB.out G2.out) G2.out⟩
  rw [if_neg c3] at h
  have d3 : (a0.toList == ([99, 117, 98, 101] : List UInt8)) = false := beq_eq_false_iff_ne.mpr c3
  clear c3
  by_cases c4 : a0.toList = ([99, 108, 101, 98, 115, 99, 104] : List UInt8)
  · rw [if_pos c4] at h
    have d4 : (a0.toList == ([99, 108, 101, 98, 115, 99, 104] : List UInt8)) = true := beq_iff_eq.mpr c4
    clear c4
    obtain ⟨⟨t1, t2⟩, A1, h⟩ := Option.bind_eq_some_iff.mp h
    simp only [Option.some.injEq, Prod.mk.injEq] at h
    obtain ⟨rfl, rfl, rfl⟩ := h
    have A2 := Aside0.mk A1
    clear A1
    go_enter Try.func39, Try.ntmps39
    go_wp2_with (first | ((with_reducible refine gate_dst (N := 2) rfl ?_); refine box_event ?hg (N := 2) ?hd (cs := #[.int .i64 0, .slice none 0 0]) (t := 34) ?hr ?_; (case hd => rfl); (case hg => rfl); (case hr => first | (go_simp; done) | (go_simp; rfl)); intro g2 hg w2 hbox hb; have n0_ := Aside0.mk (below_step HB.out hb); have B2 := Aside0.mk hbox; have G2 := Aside0.mk (by rw [hg]; exact below_size HB.out : w.heap.size ≤ g2); clear HB; have HB := n0_; clear n0_ hb hbox hg) | ((with_reducible refine gate_callee (f := 59) rfl ?_); refine goesL_ (some 19) rfl rfl Try.func59 (by kernel_rfl) rfl #[.int .i64 16, .func (.func 70) #[] #[]] rfl (by (try simp only [List.map_toArray, List.map_cons, List.map_nil]); first | done | rfl) ?_; (refine (made_.calls 70 _ Try.func70 rfl rfl impl_NamedGraph_5.f k 16 t1 t2 _ ?side1 A2.out).mono ?_); (case side1 => exact fun a b r W _ h_ => (impl_NamedGraph_5.calls a b r W h_).mono (by rintro e w' ⟨rfl, hh⟩; first | exact ⟨rfl, hh⟩ | exact ⟨rfl, hh.below⟩ | (obtain ⟨nd, rfl⟩ := hh; exact ⟨rfl, pw_below_drewN (Below.refl _ _) _⟩))); rintro e w5 ⟨v5, rfl, ho0, hb⟩; refine ⟨_, rfl, ?_⟩; have n0_ := Aside0.mk (Kd.R_lower ho0 (below_size HB.out)); have n1_ := Aside0.mk (blk_below B2.out hb); have n2_ := Aside0.mk (below_step HB.out hb); clear HB B2 hb ho0; have HX := n0_; have B2 := n1_; have HB := n2_; clear n0_ n1_ n2_; obtain ⟨A5, c5, e5⟩ := Kd.R_slice HX.out; subst e5; have hcz2_0 : w5.cell? ⟨g2, 0, none⟩ = some (.int .i64 0) := (blk_cell B2.out 0).trans rfl; have hcz2_1 : w5.cell? ⟨g2, 1, none⟩ = some (.slice none 0 0) := (blk_cell B2.out 1).trans rfl; have hfz2_0 := blk_frozen B2.out 0; have hfz2_1 := blk_frozen B2.out 1))
    refine bodyPost_ret (results_ct rfl _ _ g2 34 #[.int .i64 t1, .slice A5 t2.length c5] (0, 0) _ rfl (by refine blk_put (cs := #[.int .i64 t1, .slice none 0 0]) ?_ 1 _ rfl; refine blk_put (cs := #[.int .i64 0, .slice none 0 0]) ?_ 0 _ rfl; exact B2.out) Try.underlying34 rfl (by kernel_rfl)) rfl ?_
    exact ⟨_, rfl, Kd.R_mono (Kd.R_far (p := ⟨g2, 1, none⟩) (Kd.R_far (p := ⟨g2, 0, none⟩) (Kd.R_types HX.out B2.out (by decide)) (fun _ hk => hk.2) (.int .i64 t1)) (fun _ hk => hk.2) (.slice A5 t2.length c5)) (fun _ _ => trivial), below_set (below_set HB.out G2.out) G2.out⟩
  rw [if_neg c4] at h
  have d4 : (a0.toList == ([99, 108, 101, 98, 115, 99, 104] : List UInt8)) = false := beq_eq_false_iff_ne.mpr c4
  clear c4
  by_cases c5 : a0.toList = ([112, 101, 116, 101, 114, 115, 101, 110] : List UInt8)
  · rw [if_pos c5] at h
    have d5 : (a0.toList == ([112, 101, 116, 101, 114, 115, 101, 110] : List UInt8)) = true := beq_iff_eq.mpr c5
    clear c5
    obtain ⟨⟨t1, t2⟩, A1, h⟩ := Option.bind_eq_some_iff.mp h
    simp only [Option.some.injEq, Prod.mk.injEq] at h
    obtain ⟨rfl, rfl, rfl⟩ := h
    have A2 := Aside0.mk A1
    clear A1
    go_enter Try.func39, Try.ntmps39
    go_wp2_with (first | ((with_reducible refine gate_dst (N := 2) rfl ?_); refine box_event ?hg (N := 2) ?hd (cs := #[.int .i64 0, .slice none 0 0]) (t := 34) ?hr ?_; (case hd => rfl); (case hg => rfl); (case hr => first | (go_simp; done) | (go_simp; rfl)); intro g2 hg w2 hbox hb; have n0_ := Aside0.mk (below_step HB.out hb); have B2 := Aside0.mk hbox; have G2 := Aside0.mk (by rw [hg]; exact below_size HB.out : w.heap.size ≤ g2); clear HB; have HB := n0_; clear n0_ hb hbox hg) | ((with_reducible refine gate_callee (f := 71) rfl ?_); refine goesL_ (some 22) rfl rfl Try.func71 (by kernel_rfl) rfl #[.int .i64 5, .int .i64 2] rfl (by (try simp only [List.map_toArray, List.map_cons, List.map_nil]); first | done | rfl) ?_; (refine (impl_ringGraph.calls k 5 2 t1 t2 _ A2.out).mono ?_); rintro e w5 ⟨v5, rfl, ho0, hb⟩; refine ⟨_, rfl, ?_⟩; have n0_ := Aside0.mk (Kd.R_lower ho0 (below_size HB.out)); have n1_ := Aside0.mk (blk_below B2.out hb); have n2_ := Aside0.mk (below_step HB.out hb); clear HB B2 hb ho0; have HX := n0_; have B2 := n1_; have HB := n2_; clear n0_ n1_ n2_; obtain ⟨A5, c5, e5⟩ := Kd.R_slice HX.out; subst e5; have hcz2_0 : w5.cell? ⟨g2, 0, none⟩ = some (.int .i64 0) := (blk_cell B2.out 0).trans rfl; have hcz2_1 : w5.cell? ⟨g2, 1, none⟩ = some (.slice none 0 0) := (blk_cell B2.out 1).trans rfl; have hfz2_0 := blk_frozen B2.out 0; have hfz2_1 := blk_frozen B2.out 1))
    refine bodyPost_ret (results_ct rfl _ _ g2 34 #[.int .i64 t1, .slice A5 t2.length c5] (0, 0) _ rfl (by refine blk_put (cs := #[.int .i64 t1, .slice none 0 0]) ?_ 1 _ rfl; refine blk_put (cs := #[.int .i64 0, .slice none 0 0]) ?_ 0 _ rfl; exact B2.out) Try.underlying34 rfl (by kernel_rfl)) rfl ?_
    exact ⟨_, rfl, Kd.R_mono (Kd.R_far (p := ⟨g2, 1, none⟩) (Kd.R_far (p := ⟨g2, 0, none⟩) (Kd.R_types HX.out B2.out (by decide)) (fun _ hk => hk.2) (.int .i64 t1)) (fun _ hk => hk.2) (.slice A5 t2.length c5)) (fun _ _ => trivial), below_set (below_set HB.out G2.out) G2.out⟩
  rw [if_neg c5] at h
  have d5 : (a0.toList == ([112, 101, 116, 101, 114, 115, 101, 110] : List UInt8)) = false := beq_eq_false_iff_ne.mpr c5
  clear c5
  by_cases c6 : a0.toList = ([105, 99, 111, 115, 97, 104, 101, 100, 114, 111, 110] : List UInt8)
  · rw [if_pos c6] at h
    have d6 : (a0.toList == ([105, 99, 111, 115, 97, 104, 101, 100, 114, 111, 110] : List UInt8)) = true := beq_iff_eq.mpr c6
    clear c6
    obtain ⟨⟨t1, t2⟩, A1, h⟩ := Option.bind_eq_some_iff.mp h
    simp only [Option.some.injEq, Prod.mk.injEq] at h
    obtain ⟨rfl, rfl, rfl⟩ := h
    have A2 := Aside0.mk A1
    clear A1
    go_enter Try.func39, Try.ntmps39
    go_wp2_with (first | ((with_reducible refine gate_dst (N := 2) rfl ?_); refine box_event ?hg (N := 2) ?hd (cs := #[.int .i64 0, .slice none 0 0]) (t := 34) ?hr ?_; (case hd => rfl); (case hg => rfl); (case hr => first | (go_simp; done) | (go_simp; rfl)); intro g2 hg w2 hbox hb; have n0_ := Aside0.mk (below_step HB.out hb); have B2 := Aside0.mk hbox; have G2 := Aside0.mk (by rw [hg]; exact below_size HB.out : w.heap.size ≤ g2); clear HB; have HB := n0_; clear n0_ hb hbox hg) | ((with_reducible refine gate_callee (f := 72) rfl ?_); refine goesL_ (some 25) rfl rfl Try.func72 (by kernel_rfl) rfl #[] rfl (by (try simp only [List.map_toArray, List.map_cons, List.map_nil]); first | done | rfl) ?_; (refine (impl_icosahedron.calls k t1 t2 _ A2.out).mono ?_); rintro e w5 ⟨v5, rfl, ho0, hb⟩; refine ⟨_, rfl, ?_⟩; have n0_ := Aside0.mk (Kd.R_lower ho0 (below_size HB.out)); have n1_ := Aside0.mk (blk_below B2.out hb); have n2_ := Aside0.mk (below_step HB.out hb); clear HB B2 hb ho0; have HX := n0_; have B2 := n1_; have HB := n2_; clear n0_ n1_ n2_; obtain ⟨A5, c5, e5⟩ := Kd.R_slice HX.out; subst e5; have hcz2_0 : w5.cell? ⟨g2, 0, none⟩ = some (.int .i64 0) := (blk_cell B2.out 0).trans rfl; have hcz2_1 : w5.cell? ⟨g2, 1, none⟩ = some (.slice none 0 0) := (blk_cell B2.out 1).trans rfl; have hfz2_0 := blk_frozen B2.out 0; have hfz2_1 := blk_frozen B2.out 1))
    refine bodyPost_ret (results_ct rfl _ _ g2 34 #[.int .i64 t1, .slice A5 t2.length c5] (0, 0) _ rfl (by refine blk_put (cs := #[.int .i64 t1, .slice none 0 0]) ?_ 1 _ rfl; refine blk_put (cs := #[.int .i64 0, .slice none 0 0]) ?_ 0 _ rfl; exact B2.out) Try.underlying34 rfl (by kernel_rfl)) rfl ?_
    exact ⟨_, rfl, Kd.R_mono (Kd.R_far (p := ⟨g2, 1, none⟩) (Kd.R_far (p := ⟨g2, 0, none⟩) (Kd.R_types HX.out B2.out (by decide)) (fun _ hk => hk.2) (.int .i64 t1)) (fun _ hk => hk.2) (.slice A5 t2.length c5)) (fun _ _ => trivial), below_set (below_set HB.out G2.out) G2.out⟩
  rw [if_neg c6] at h
  have d6 : (a0.toList == ([105, 99, 111, 115, 97, 104, 101, 100, 114, 111, 110] : List UInt8)) = false := beq_eq_false_iff_ne.mpr c6
  clear c6
  by_cases c7 : a0.toList = ([104, 111, 102, 102, 109, 97, 110, 115, 105, 110, 103, 108, 101, 116, 111, 110] : List UInt8)
  · rw [if_pos c7] at h
    have d7 : (a0.toList == ([104, 111, 102, 102, 109, 97, 110, 115, 105, 110, 103, 108, 101, 116, 111, 110] : List UInt8)) = true := beq_iff_eq.mpr c7
    clear c7
    obtain ⟨⟨t1, t2⟩, A1, h⟩ := Option.bind_eq_some_iff.mp h
    simp only [Option.some.injEq, Prod.mk.injEq] at h
    obtain ⟨rfl, rfl, rfl⟩ := h
    have A2 := Aside0.mk A1
    clear A1
    go_enter Try.func39, Try.ntmps39
    go_wp2_with (first | ((with_reducible refine gate_dst (N := 2) rfl ?_); refine box_event ?hg (N := 2) ?hd (cs := #[.int .i64 0, .slice none 0 0]) (t := 34) ?hr ?_; (case hd => rfl); (case hg => rfl); (case hr => first | (go_simp; done) | (go_simp; rfl)); intro g2 hg w2 hbox hb; have n0_ := Aside0.mk (below_step HB.out hb); have B2 := Aside0.mk hbox; have G2 := Aside0.mk (by rw [hg]; exact below_size HB.out : w.heap.size ≤ g2); clear HB; have HB := n0_; clear n0_ hb hbox hg) | ((with_reducible refine gate_callee (f := 73) rfl ?_); refine goesL_ (some 28) rfl rfl Try.func73 (by kernel_rfl) rfl #[] rfl (by (try simp only [List.map_toArray, List.map_cons, List.map_nil]); first | done | rfl) ?_; (refine (impl_hoffmanSingleton.calls k t1 t2 _ A2.out).mono ?_); rintro e w5 ⟨v5, rfl, ho0, hb⟩; refine ⟨_, rfl, ?_⟩; have n0_ := Aside0.mk (Kd.R_lower ho0 (below_size HB.out)); have n1_ := Aside0.mk (blk_below B2.out hb); have n2_ := Aside0.mk (below_step HB.out hb); clear HB B2 hb ho0; have HX := n0_; have B2 := n1_; have HB := n2_; clear n0_ n1_ n2_; obtain ⟨A5, c5, e5⟩ := Kd.R_slice HX.out; subst e5; have hcz2_0 : w5.cell? ⟨g2, 0, none⟩ = some (.int .i64 0) := (blk_cell B2.out 0).trans rfl; have hcz2_1 : w5.cell? ⟨g2, 1, none⟩ = some (.slice none 0 0) := (blk_cell B2.out 1).trans rfl; have hfz2_0 := blk_frozen B2.out 0; have hfz2_1 := blk_frozen B2.out 1))
    refine bodyPost_ret (results_ct rfl _ _ g2 34 #[.int .i64 t1, .slice A5 t2.length c5] (0, 0) _ rfl (by refine blk_put (cs := #[.int .i64 t1, .slice none 0 0]) ?_ 1 _ rfl; refine blk_put (cs := #[.int .i64 0, .slice none 0 0]) ?_ 0 _ rfl; exact B2.out) Try.underlying34 rfl (by kernel_rfl)) rfl ?_
    exact ⟨_, rfl, Kd.R_mono (Kd.R_far (p := ⟨g2, 1, none⟩) (Kd.R_far (p := ⟨g2, 0, none⟩) (Kd.R_types HX.out B2.out (by decide)) (fun _ hk => hk.2) (.int .i64 t1)) (fun _ hk => hk.2) (.slice A5 t2.length c5)) (fun _ _ => trivial), below_set (below_set HB.out G2.out) G2.out⟩
  rw [if_neg c7] at h
  have d7 : (a0.toList == ([104, 111, 102, 102, 109, 97, 110, 115, 105, 110, 103, 108, 101, 116, 111, 110] : List UInt8)) = false := beq_eq_false_iff_ne.mpr c7
  clear c7
  by_cases c8 : a0.toList = ([104, 101, 97, 119, 111, 111, 100] : List UInt8)
  · rw [if_pos c8] at h
    have d8 : (a0.toList == ([104, 101, 97, 119, 111, 111, 100] : List UInt8)) = true := beq_iff_eq.mpr c8
    clear c8
    obtain ⟨⟨t1, t2⟩, A1, h⟩ := Option.bind_eq_some_iff.mp h
    simp only [Option.some.injEq, Prod.mk.injEq] at h
    obtain ⟨rfl, rfl, rfl⟩ := h
    have A2 := Aside0.mk A1
    clear A1
    go_enter Try.func39, Try.ntmps39
    go_wp2_with (first | ((with_reducible refine gate_dst (N := 2) rfl ?_); refine box_event ?hg (N := 2) ?hd (cs := #[.int .i64 0, .slice none 0 0]) (t := 34) ?hr ?_; (case hd => rfl); (case hg => rfl); (case hr => first | (go_simp; done) | (go_simp; rfl)); intro g2 hg w2 hbox hb; have n0_ := Aside0.mk (below_step HB.out hb); have B2 := Aside0.mk hbox; have G2 := Aside0.mk (by rw [hg]; exact below_size HB.out : w.heap.size ≤ g2); clear HB; have HB := n0_; clear n0_ hb hbox hg) | ((with_reducible refine gate_dst (N := 31) rfl ?_); refine Kd.R_lit (Kd.int .i64) _ 2 ?hg (N := 31) ?hd (xs := ([5, 9] : List Int)) (inner := [.int .i64 5, .int .i64 9]) (ok := fun _ => True) (okp := fun _ => True) ?hr ?hp (fun _ hk => hk) trivial (Below.refl _ _) (Nat.le_refl _) (by simp) ?_; (case hd => rfl); (case hg => rfl); (case hr => first | (go_simp; done) | (go_simp; rfl)); (case hp => exact (Reps.one (show Kd.M (Kd.int .i64) _ _ _ 5 [.int .i64 5] from rfl) (Reps.one (show Kd.M (Kd.int .i64) _ _ _ 9 [.int .i64 9] from rfl) (Reps.none _ _)))); intro v3 w3 ho3 hb hg_ hnew_; clear hg_ hnew_; have n0_ := Aside0.mk ho3; have n1_ := Aside0.mk (blk_below B2.out hb); have n2_ := Aside0.mk (below_step HB.out hb); clear HB B2 hb ho3; have HL := n0_; have B2 := n1_; have HB := n2_; clear n0_ n1_ n2_; obtain ⟨A3, c3, e3⟩ := Kd.R_slice HL.out; subst e3) | ((with_reducible refine gate_callee (f := 74) rfl ?_); refine goesL_ (some 32) rfl rfl Try.func74 (by kernel_rfl) rfl #[.int .i64 14, .slice A3 ([5, 9] : List Int).length c3] rfl (by (try simp only [List.map_toArray, List.map_cons, List.map_nil]); first | done | rfl) ?_; (refine (impl_jumpGraph.calls k 14 _ _ ([5, 9] : List Int) t1 t2 _ ?side1 ?side2 A2.out).mono ?_); (case side1 => exact (Kd.R_reads' HL.out).2.2); (case side2 => exact (Kd.R_reads' HL.out).2.1); rintro e w5 ⟨v5, rfl, ho0, hb⟩; refine ⟨_, rfl, ?_⟩; have n0_ := Aside0.mk (Kd.R_lower ho0 (below_size HB.out)); have n1_ := Aside0.mk (blk_below B2.out hb); have n2_ := Aside0.mk (below_step HB.out hb); clear HB B2 hb ho0; have HX := n0_; have B2 := n1_; have HB := n2_; clear n0_ n1_ n2_; obtain ⟨A5, c5, e5⟩ := Kd.R_slice HX.out; subst e5; have hcz2_0 : w5.cell? ⟨g2, 0, none⟩ = some (.int .i64 0) := (blk_cell B2.out 0).trans rfl; have hcz2_1 : w5.cell? ⟨g2, 1, none⟩ = some (.slice none 0 0) := (blk_cell B2.out 1).trans rfl; have hfz2_0 := blk_frozen B2.out 0; have hfz2_1 := blk_frozen B2.out 1))
    refine bodyPost_ret (results_ct rfl _ _ g2 34 #[.int .i64 t1, .slice A5 t2.length c5] (0, 0) _ rfl (by refine blk_put (cs := #[.int .i64 t1, .slice none 0 0]) ?_ 1 _ rfl; refine blk_put (cs := #[.int .i64 0, .slice none 0 0]) ?_ 0 _ rfl; exact B2.out) Try.underlying34 rfl (by kernel_rfl)) rfl ?_
    exact ⟨_, rfl, Kd.R_mono (Kd.R_far (p := ⟨g2, 1, none⟩) (Kd.R_far (p := ⟨g2, 0, none⟩) (Kd.R_types HX.out B2.out (by decide)) (fun _ hk => hk.2) (.int .i64 t1)) (fun _ hk => hk.2) (.slice A5 t2.length c5)) (fun _ _ => trivial), below_set (below_set HB.out G2.out) G2.out⟩
  rw [if_neg c8] at h
  have d8 : (a0.toList == ([104, 101, 97, 119, 111, 111, 100] : List UInt8)) = false := beq_eq_false_iff_ne.mpr c8
  clear c8
  by_cases c9 : a0.toList = ([109, 111, 101, 98, 105, 117, 115, 107, 97, 110, 116, 111, 114] : List UInt8)
  · rw [if_pos c9] at h
    have d9 : (a0.toList == ([109, 111, 101, 98, 105, 117, 115, 107, 97, 110, 116, 111, 114] : List UInt8)) = true := beq_iff_eq.mpr c9
    clear c9
    obtain ⟨⟨t1, t2⟩, A1, h⟩ := Option.bind_eq_some_iff.mp h
    simp only [Option.some.injEq, Prod.mk.injEq] at h
    obtain ⟨rfl, rfl, rfl⟩ := h
    have A2 := Aside0.mk A1
    clear A1
    go_enter Try.func39, Try.ntmps39
    go_wp2_with (first | ((with_reducible refine gate_dst (N := 2) rfl ?_); refine box_event ?hg (N := 2) ?hd (cs := #[.int .i64 0, .slice none 0 0]) (t := 34) ?hr ?_; (case hd => rfl); (case hg => rfl); (case hr => first | (go_simp; done) | (go_simp; rfl)); intro g2 hg w2 hbox hb; have n0_ := Aside0.mk (below_step HB.out hb); have B2 := Aside0.mk hbox; have G2 := Aside0.mk (by rw [hg]; exact below_size HB.out : w.heap.size ≤ g2); clear HB; have HB := n0_; clear n0_ hb hbox hg) | ((with_reducible refine gate_dst (N := 35) rfl ?_); refine Kd.R_lit (Kd.int .i64) _ 2 ?hg (N := 35) ?hd (xs := ([5, 11] : List Int)) (inner := [.int .i64 5, .int .i64 11]) (ok := fun _ => True) (okp := fun _ => True) ?hr ?hp (fun _ hk => hk) trivial (Below.refl _ _) (Nat.le_refl _) (by simp) ?_; (case hd => rfl); (case hg => rfl); (case hr => first | (go_simp; done) | (go_simp; rfl)); (case hp => exact (Reps.one (show Kd.M (Kd.int .i64) _ _ _ 5 [.int .i64 5] from rfl) (Reps.one (show Kd.M (Kd.int .i64) _ _ _ 11 [.int .i64 11] from rfl) (Reps.none _ _)))); intro v3 w3 ho3 hb hg_ hnew_; clear hg_ hnew_; have n0_ := Aside0.mk ho3; have n1_ := Aside0.mk (blk_below B2.out hb); have n2_ := Aside0.mk (below_step HB.out hb); clear HB B2 hb ho3; have HL := n0_; have B2 := n1_; have HB := n2_; clear n0_ n1_ n2_; obtain ⟨A3, c3, e3⟩ := Kd.R_slice HL.out; subst e3) | ((with_reducible refine gate_callee (f := 74) rfl ?_); refine goesL_ (some 36) rfl rfl Try.func74 (by kernel_rfl) rfl #[.int .i64 16, .slice A3 ([5, 11] : List Int).length c3] rfl (by (try simp only [List.map_toArray, List.map_cons, List.map_nil]); first | done | rfl) ?_; (refine (impl_jumpGraph.calls k 16 _ _ ([5, 11] : List Int) t1 t2 _ ?side1 ?side2 A2.out).mono ?_); (case side1 => exact (Kd.R_reads' HL.out).2.2); (case side2 => exact (Kd.R_reads' HL.out).2.1); rintro e w5 ⟨v5, rfl, ho0, hb⟩; refine ⟨_, rfl, ?_⟩; have n0_ := Aside0.mk (Kd.R_lower ho0 (below_size HB.out)); have n1_ := Aside0.mk (blk_below B2.out hb); have n2_ := Aside0.mk (below_step HB.out hb); clear HB B2 hb ho0; have HX := n0_; have B2 := n1_; have HB := n2_; clear n0_ n1_ n2_; obtain ⟨A5, c5, e5⟩ := Kd.R_slice HX.out; subst e5; have hcz2_0 : w5.cell? ⟨g2, 0, none⟩ = some (.int .i64 0) := (blk_cell B2.out 0).trans rfl; have hcz2_1 : w5.cell? ⟨g2, 1, none⟩ = some (.slice none 0 0) := (blk_cell B2.out 1).trans rfl; have hfz2_0 := blk_frozen B2.out 0; have hfz2_1 := blk_frozen B2.out 1))
    refine bodyPost_ret (results_ct rfl _ _ g2 34 #[.int .i64 t1, .slice A5 t2.length c5] (0, 0) _ rfl (by refine blk_put (cs := #[.int .i64 t1, .slice none 0 0]) ?_ 1 _ rfl; refine blk_put (cs := #[.int .i64 0, .slice none 0 0]) ?_ 0 _ rfl; exact B2.out) Try.underlying34 rfl (by kernel_rfl)) rfl ?_
    exact ⟨_, rfl, Kd.R_mono (Kd.R_far (p := ⟨g2, 1, none⟩) (Kd.R_far (p := ⟨g2, 0, none⟩) (Kd.R_types HX.out B2.out (by decide)) (fun _ hk => hk.2) (.int .i64 t1)) (fun _ hk => hk.2) (.slice A5 t2.length c5)) (fun _ _ => trivial), below_set (below_set HB.out G2.out) G2.out⟩
  rw [if_neg c9] at h
  have d9 : (a0.toList == ([109, 111, 101, 98, 105, 117, 115, 107, 97, 110, 116, 111, 114] : List UInt8)) = false := beq_eq_false_iff_ne.mpr c9
  clear c9
  by_cases c10 : a0.toList = ([112, 97, 112, 112, 117, 115] : List UInt8)
  · rw [if_pos c10] at h
    have d10 : (a0.toList == ([112, 97, 112, 112, 117, 115] : List UInt8)) = true := beq_iff_eq.mpr c10
    clear c10
    obtain ⟨⟨t1, t2⟩, A1, h⟩ := Option.bind_eq_some_iff.mp h
    simp only [Option.some.injEq, Prod.mk.injEq] at h
    obtain ⟨rfl, rfl, rfl⟩ := h
    have A2 := Aside0.mk A1
    clear A1
    go_enter Try.func39, Try.ntmps39
    go_wp2_with (first | ((with_reducible refine gate_dst (N := 2) rfl ?_); refine box_event ?hg (N := 2) ?hd (cs := #[.int .i64 0, .slice none 0 0]) (t := 34) ?hr ?_; (case hd => rfl); (case hg => rfl); (case hr => first | (go_simp; done) | (go_simp; rfl)); intro g2 hg w2 hbox hb; have n0_ := Aside0.mk (below_step HB.out hb); have B2 := Aside0.mk hbox; have G2 := Aside0.mk (by rw [hg]; exact below_size HB.out : w.heap.size ≤ g2); clear HB; have HB := n0_; clear n0_ hb hbox hg) | ((with_reducible refine gate_dst (N := 39) rfl ?_); refine Kd.R_lit (Kd.int .i64) _ 2 ?hg (N := 39) ?hd (xs := ([5, 7, 11, 7, 11, 13] : List Int)) (inner := [.int .i64 5, .int .i64 7, .int .i64 11, .int .i64 7, .int .i64 11, .int .i64 13]) (ok := fun _ => True) (okp := fun _ => True) ?hr ?hp (fun _ hk => hk) trivial (Below.refl _ _) (Nat.le_refl _) (by simp) ?_; (case hd => rfl); (case hg => rfl); (case hr => first | (go_simp; done) | (go_simp; rfl)); (case hp => exact (Reps.one (show Kd.M (Kd.int .i64) _ _ _ 5 [.int .i64 5] from rfl) (Reps.one (show Kd.M (Kd.int .i64) _ _ _ 7 [.int .i64 7] from rfl) (Reps.one (show Kd.M (Kd.int .i64) _ _ _ 11 [.int .i64 11] from rfl) (Reps.one (show Kd.M (Kd.int .i64) _ _ _ 7 [.int .i64 7] from rfl) (Reps.one (show Kd.M (Kd.int .i64) _ _ _ 11 [.int .i64 11] from rfl) (Reps.one (show Kd.M (Kd.int .i64) _ _ _ 13 [.int .i64 13] from rfl) (Reps.none _ _)))))))); intro v3 w3 ho3 hb hg_ hnew_; clear hg_ hnew_; have n0_ := Aside0.mk ho3; have n1_ := Aside0.mk (blk_below B2.out hb); have n2_ := Aside0.mk (below_step HB.out hb); clear HB B2 hb ho3; have HL := n0_; have B2 := n1_; have HB := n2_; clear n0_ n1_ n2_; obtain ⟨A3, c3, e3⟩ := Kd.R_slice HL.out; subst e3) | ((with_reducible refine gate_callee (f := 74) rfl ?_); refine goesL_ (some 40) rfl rfl Try.func74 (by kernel_rfl) rfl #[.int .i64 18, .slice A3 ([5, 7, 11, 7, 11, 13] : List Int).length c3] rfl (by (try simp only [List.map_toArray, List.map_cons, List.map_nil]); first | done | rfl) ?_; (refine (impl_jumpGraph.calls k 18 _ _ ([5, 7, 11, 7, 11, 13] : List Int) t1 t2 _ ?side1 ?side2 A2.out).mono ?_); (case side1 => exact (Kd.R_reads' HL.out).2.2); (case side2 => exact (Kd.R_reads' HL.out).2.1); rintro e w5 ⟨v5, rfl, ho0, hb⟩; refine ⟨_, rfl, ?_⟩; have n0_ := Aside0.mk (Kd.R_lower ho0 (below_size HB.out)); have n1_ := Aside0.mk (blk_below B2.out hb); have n2_ := Aside0.mk (below_step HB.out hb); clear HB B2 hb ho0; have HX := n0_; have B2 := n1_; have HB := n2_; clear n0_ n1_ n2_; obtain ⟨A5, c5, e5⟩ := Kd.R_slice HX.out; subst e5; have hcz2_0 : w5.cell? ⟨g2, 0, none⟩ = some (.int .i64 0) := (blk_cell B2.out 0).trans rfl; have hcz2_1 : w5.cell? ⟨g2, 1, none⟩ = some (.slice none 0 0) := (blk_cell B2.out 1).trans rfl; have hfz2_0 := blk_frozen B2.out 0; have hfz2_1 := blk_frozen B2.out 1))
    refine bodyPost_ret (results_ct rfl _ _ g2 34 #[.int .i64 t1, .slice A5 t2.length c5] (0, 0) _ rfl (by refine blk_put (cs := #[.int .i64 t1, .slice none 0 0]) ?_ 1 _ rfl; refine blk_put (cs := #[.int .i64 0, .slice none 0 0]) ?_ 0 _ rfl; exact B2.out) Try.underlying34 rfl (by kernel_rfl)) rfl ?_
    exact ⟨_, rfl, Kd.R_mono (Kd.R_far (p := ⟨g2, 1, none⟩) (Kd.R_far (p := ⟨g2, 0, none⟩) (Kd.R_types HX.out B2.out (by decide)) (fun _ hk => hk.2) (.int .i64 t1)) (fun _ hk => hk.2) (.slice A5 t2.length c5)) (fun _ _ => trivial), below_set (below_set HB.out G2.out) G2.out⟩
  rw [if_neg c10] at h
  have d10 : (a0.toList == ([112, 97, 112, 112, 117, 115] : List UInt8)) = false := beq_eq_false_iff_ne.mpr c10
  clear c10
  by_cases c11 : a0.toList = ([100, 101, 115, 97, 114, 103, 117, 101, 115] : List UInt8)
  · rw [if_pos c11] at h
    have d11 : (a0.toList == ([100, 101, 115, 97, 114, 103, 117, 101, 115] : List UInt8)) = true := beq_iff_eq.mpr c11
    clear c11
    obtain ⟨⟨t1, t2⟩, A1, h⟩ := Option.bind_eq_some_iff.mp h
    simp only [Option.some.injEq, Prod.mk.injEq] at h
    obtain ⟨rfl, rfl, rfl⟩ := h
    have A2 := Aside0.mk A1
    clear A1
    go_enter Try.func39, Try.ntmps39
    go_wp2_with (first | ((with_reducible refine gate_dst (N := 2) rfl ?_); refine box_event ?hg (N := 2) ?hd (cs := #[.int .i64 0, .slice none 0 0]) (t := 34) ?hr ?_; (case hd => rfl); (case hg => rfl); (case hr => first | (go_simp; done) | (go_simp; rfl)); intro g2 hg w2 hbox hb; have n0_ := Aside0.mk (below_step HB.out hb); have B2 := Aside0.mk hbox; have G2 := Aside0.mk (by rw [hg]; exact below_size HB.out : w.heap.size ≤ g2); clear HB; have HB := n0_; clear n0_ hb hbox hg) | ((with_reducible refine gate_dst (N := 43) rfl ?_); refine Kd.R_lit (Kd.int .i64) _ 2 ?hg (N := 43) ?hd (xs := ([5, 15, 9, 11] : List Int)) (inner := [.int .i64 5, .int .i64 15, .int .i64 9, .int .i64 11]) (ok := fun _ => True) (okp := fun _ => True) ?hr ?hp (fun _ hk => hk) trivial (Below.refl _ _) (Nat.le_refl _) (by simp) ?_; (case hd => rfl); (case hg => rfl); (case hr => first | (go_simp; done) | (go_simp; rfl)); (case hp => exact (Reps.one (show Kd.M (Kd.int .i64) _ _ _ 5 [.int .i64 5] from rfl) (Reps.one (show Kd.M (Kd.int .i64) _ _ _ 15 [.int .i64 15] from rfl) (Reps.one (show Kd.M (Kd.int .i64) _ _ _ 9 [.int .i64 9] from rfl) (Reps.one (show Kd.M (Kd.int .i64) _ _ _ 11 [.int .i64 11] from rfl) (Reps.none _ _)))))); intro v3 w3 ho3 hb hg_ hnew_; clear hg_ hnew_; have n0_ := Aside0.mk ho3; have n1_ := Aside0.mk (blk_below B2.out hb); have n2_ := Aside0.mk (below_step HB.out hb); clear HB B2 hb ho3; have HL := n0_; have B2 := n1_; have HB := n2_; clear n0_ n1_ n2_; obtain ⟨A3, c3, e3⟩ := Kd.R_slice HL.out; subst e3) | ((with_reducible refine gate_callee (f := 74) rfl ?_); refine goesL_ (some 44) rfl rfl Try.func74 (by kernel_rfl) rfl #[.int .i64 20, .slice A3 ([5, 15, 9, 11] : List Int).length c3] rfl (by (try simp only [List.map_toArray, List.map_cons, List.map_nil]); first | done | rfl) ?_; (refine (impl_jumpGraph.calls k 20 _ _ ([5, 15, 9, 11] : List Int) t1 t2 _ ?side1 ?side2 A2.out).mono ?_); (case side1 => exact (Kd.R_reads' HL.out).2.2); (case side2 => exact (Kd.R_reads' HL.out).2.1); rintro e w5 ⟨v5, rfl, ho0, hb⟩; refine ⟨_, rfl, ?_⟩; have n0_ := Aside0.mk (Kd.R_lower ho0 (below_size HB.out)); have n1_ := Aside0.mk (blk_below B2.out hb); have n2_ := Aside0.mk (below_step HB.out hb); clear HB B2 hb ho0; have HX := n0_; have B2 := n1_; have HB := n2_; clear n0_ n1_ n2_; obtain ⟨A5, c5, e5⟩ := Kd.R_slice HX.out; subst e5; have hcz2_0 : w5.cell? ⟨g2, 0, none⟩ = some (.int .i64 0) := (blk_cell B2.out 0).trans rfl; have hcz2_1 : w5.cell? ⟨g2, 1, none⟩ = some (.slice none 0 0) := (blk_cell B2.out 1).trans rfl; have hfz2_0 := blk_frozen B2.out 0; have hfz2_1 := blk_frozen B2.out 1))
    refine bodyPost_ret (results_ct rfl _ _ g2 34 #[.int .i64 t1, .slice A5 t2.length c5] (0, 0) _ rfl (by refine blk_put (cs := #[.int .i64 t1, .slice none 0 0]) ?_ 1 _ rfl; refine blk_put (cs := #[.int .i64 0, .slice none 0 0]) ?_ 0 _ rfl; exact B2.out) Try.underlying34 rfl (by kernel_rfl)) rfl ?_
    exact ⟨_, rfl, Kd.R_mono (Kd.R_far (p := ⟨g2, 1, none⟩) (Kd.R_far (p := ⟨g2, 0, none⟩) (Kd.R_types HX.out B2.out (by decide)) (fun _ hk => hk.2) (.int .i64 t1)) (fun _ hk => hk.2) (.slice A5 t2.length c5)) (fun _ _ => trivial), below_set (below_set HB.out G2.out) G2.out⟩
  rw [if_neg c11] at h
  have d11 : (a0.toList == ([100, 101, 115, 97, 114, 103, 117, 101, 115] : List UInt8)) = false := beq_eq_false_iff_ne.mpr c11
  clear c11
  by_cases c12 : a0.toList = ([100, 111, 100, 101, 99, 97, 104, 101, 100, 114, 111, 110] : List UInt8)
  · rw [if_pos c12] at h
    have d12 : (a0.toList == ([100, 111, 100, 101, 99, 97, 104, 101, 100, 114, 111, 110] : List UInt8)) = true := beq_iff_eq.mpr c12
    clear c12
    obtain ⟨⟨t1, t2⟩, A1, h⟩ := Option.bind_eq_some_iff.mp h
    simp only [Option.some.injEq, Prod.mk.injEq] at h
    obtain ⟨rfl, rfl, rfl⟩ := h
    have A2 := Aside0.mk A1
    clear A1
    go_enter Try.func39, Try.ntmps39
    go_wp2_with (first | ((with_reducible refine gate_dst (N := 2) rfl ?_); refine box_event ?hg (N := 2) ?hd (cs := #[.int .i64 0, .slice none 0 0]) (t := 34) ?hr ?_; (case hd => rfl); (case hg => rfl); (case hr => first | (go_simp; done) | (go_simp; rfl)); intro g2 hg w2 hbox hb; have n0_ := Aside0.mk (below_step HB.out hb); have B2 := Aside0.mk hbox; have G2 := Aside0.mk (by rw [hg]; exact below_size HB.out : w.heap.size ≤ g2); clear HB; have HB := n0_; clear n0_ hb hbox hg) | ((with_reducible refine gate_dst (N := 47) rfl ?_); refine Kd.R_lit (Kd.int .i64) _ 2 ?hg (N := 47) ?hd (xs := ([10, 7, 4, 16, 13, 10, 16, 7, 13, 4] : List Int)) (inner := [.int .i64 10, .int .i64 7, .int .i64 4, .int .i64 16, .int .i64 13, .int .i64 10, .int .i64 16, .int .i64 7, .int .i64 13, .int .i64 4]) (ok := fun _ => True) (okp := fun _ => True) ?hr ?hp (fun _ hk => hk) trivial (Below.refl _ _) (Nat.le_refl _) (by simp) ?_; (case hd => rfl); (case hg => rfl); (case hr => first | (go_simp; done) | (go_simp; rfl)); (case hp => exact (Reps.one (show Kd.M (Kd.int .i64) _ _ _ 10 [.int .i64 10] from rfl) (Reps.one (show Kd.M (Kd.int .i64) _ _ _ 7 [.int .i64 7] from rfl) (Reps.one (show Kd.M (Kd.int .i64) _ _ _ 4 [.int .i64 4] from rfl) (Reps.one (show Kd.M (Kd.int .i64) _ _ _ 16 [.int .i64 16] from rfl) (Reps.one (show Kd.M (Kd.int .i64) _ _ _ 13 [.int .i64 13] from rfl) (Reps.one (show Kd.M (Kd.int .i64) _ _ _ 10 [.int .i64 10] from rfl) (Reps.one (show Kd.M (Kd.int .i64) _ _ _ 16 [.int .i64 16] from rfl) (Reps.one (show Kd.M (Kd.int .i64) _ _ _ 7 [.int .i64 7] from rfl) (Reps.one (show Kd.M (Kd.int .i64) _ _ _ 13 [.int .i64 13] from rfl) (Reps.one (show Kd.M (Kd.int .i64) _ _ _ 4 [.int .i64 4] from rfl) (Reps.none _ _)))))))))))); intro v3 w3 ho3 hb hg_ hnew_; clear hg_ hnew_; have n0_ := Aside0.mk ho3; have n1_ := Aside0.mk (blk_below B2.out hb); have n2_ := Aside0.mk (below_step HB.out hb); clear HB B2 hb ho3; have HL := n0_; have B2 := n1_; have HB := n2_; clear n0_ n1_ n2_; obtain ⟨A3, c3, e3⟩ := Kd.R_slice HL.out; subst e3) | ((with_reducible refine gate_callee (f := 74) rfl ?_); refine goesL_ (some 48) rfl rfl Try.func74 (by kernel_rfl) rfl #[.int .i64 20, .slice A3 ([10, 7, 4, 16, 13, 10, 16, 7, 13, 4] : List Int).length c3] rfl (by (try simp only [List.map_toArray, List.map_cons, List.map_nil]); first | done | rfl) ?_; (refine (impl_jumpGraph.calls k 20 _ _ ([10, 7, 4, 16, 13, 10, 16, 7, 13, 4] : List Int) t1 t2 _ ?side1 ?side2 A2.out).mono ?_); (case side1 => exact (Kd.R_reads' HL.out).2.2); (case side2 => exact (Kd.R_reads' HL.out).2.1); rintro e w5 ⟨v5, rfl, ho0, hb⟩; refine ⟨_, rfl, ?_⟩; have n0_ := Aside0.mk (Kd.R_lower ho0 (below_size HB.out)); have n1_ := Aside0.mk (blk_below B2.out hb); have n2_ := Aside0.mk (below_step HB.out hb); clear HB B2 hb ho0; have HX := n0_; have B2 := n1_; have HB := n2_; clear n0_ n1_ n2_; obtain ⟨A5, c5, e5⟩ := Kd.R_slice HX.out; subst e5; have hcz2_0 : w5.cell? ⟨g2, 0, none⟩ = some (.int .i64 0) := (blk_cell B2.out 0).trans rfl; have hcz2_1 : w5.cell? ⟨g2, 1, none⟩ = some (.slice none 0 0) := (blk_cell B2.out 1).trans rfl; have hfz2_0 := blk_frozen B2.out 0; have hfz2_1 := blk_frozen B2.out 1))
    refine bodyPost_ret (results_ct rfl _ _ g2 34 #[.int .i64 t1, .slice A5 t2.length c5] (0, 0) _ rfl (by refine blk_put (cs := #[.int .i64 t1, .slice none 0 0]) ?_ 1 _ rfl; refine blk_put (cs := #[.int .i64 0, .slice none 0 0]) ?_ 0 _ rfl; exact B2.out) Try.underlying34 rfl (by kernel_rfl)) rfl ?_
    exact ⟨_, rfl, Kd.R_mono (Kd.R_far (p := ⟨g2, 1, none⟩) (Kd.R_far (p := ⟨g2, 0, none⟩) (Kd.R_types HX.out B2.out (by decide)) (fun _ hk => hk.2) (.int .i64 t1)) (fun _ hk => hk.2) (.slice A5 t2.length c5)) (fun _ _ => trivial), below_set (below_set HB.out G2.out) G2.out⟩
  rw [if_neg c12] at h
  have d12 : (a0.toList == ([100, 111, 100, 101, 99, 97, 104, 101, 100, 114, 111, 110] : List UInt8)) = false := beq_eq_false_iff_ne.mpr c12
  clear c12
  by_cases c13 : a0.toList = ([109, 99, 103, 101, 101] : List UInt8)
  · rw [if_pos c13] at h
    have d13 : (a0.toList == ([109, 99, 103, 101, 101] : List UInt8)) = true := beq_iff_eq.mpr c13
    clear c13
    obtain ⟨⟨t1, t2⟩, A1, h⟩ := Option.bind_eq_some_iff.mp h
    simp only [Option.some.injEq, Prod.mk.injEq] at h
    obtain ⟨rfl, rfl, rfl⟩ := h
    have A2 := Aside0.mk A1
    clear A1
    go_enter Try.func39, Try.ntmps39
    go_wp2_with (first | ((with_reducible refine gate_dst (N := 2) rfl ?_); refine box_event ?hg (N := 2) ?hd (cs := #[.int .i64 0, .slice none 0 0]) (t := 34) ?hr ?_; (case hd => rfl); (case hg => rfl); (case hr => first | (go_simp; done) | (go_simp; rfl)); intro g2 hg w2 hbox hb; have n0_ := Aside0.mk (below_step HB.out hb); have B2 := Aside0.mk hbox; have G2 := Aside0.mk (by rw [hg]; exact below_size HB.out : w.heap.size ≤ g2); clear HB; have HB := n0_; clear n0_ hb hbox hg) | ((with_reducible refine gate_dst (N := 51) rfl ?_); refine Kd.R_lit (Kd.int .i64) _ 2 ?hg (N := 51) ?hd (xs := ([12, 7, 17] : List Int)) (inner := [.int .i64 12, .int .i64 7, .int .i64 17]) (ok := fun _ => True) (okp := fun _ => True) ?hr ?hp (fun _ hk => hk) trivial (Below.refl _ _) (Nat.le_refl _) (by simp) ?_; (case hd => rfl); (case hg => rfl); (case hr => first | (go_simp; done) | (go_simp; rfl)); (case hp => exact (Reps.one (show Kd.M (Kd.int .i64) _ _ _ 12 [.int .i64 12] from rfl) (Reps.one (show Kd.M (Kd.int .i64) _ _ _ 7 [.int .i64 7] from rfl) (Reps.one (show Kd.M (Kd.int .i64) _ _ _ 17 [.int .i64 17] from rfl) (Reps.none _ _))))); intro v3 w3 ho3 hb hg_ hnew_; clear hg_ hnew_; have n0_ := Aside0.mk ho3; have n1_ := Aside0.mk (blk_below B2.out hb); have n2_ := Aside0.mk (below_step HB.out hb); clear HB B2 hb ho3; have HL := n0_; have B2 := n1_; have HB := n2_; clear n0_ n1_ n2_; obtain ⟨A3, c3, e3⟩ := Kd.R_slice HL.out; subst e3) | ((with_reducible refine gate_callee (f := 74) rfl ?_); refine goesL_ (some 52) rfl rfl Try.func74 (by kernel_rfl) rfl #[.int .i64 24, .slice A3 ([12, 7, 17] : List Int).length c3] rfl (by (try simp only [List.map_toArray, List.map_cons, List.map_nil]); first | done | rfl) ?_; (refine (impl_jumpGraph.calls k 24 _ _ ([12, 7, 17] : List Int) t1 t2 _ ?side1 ?side2 A2.out).mono ?_); (case side1 => exact (Kd.R_reads' HL.out).2.2); (case side2 => exact (Kd.R_reads' HL.out).2.1); rintro e w5 ⟨v5, rfl, ho0, hb⟩; refine ⟨_, rfl, ?_⟩; have n0_ := Aside0.mk (Kd.R_lower ho0 (below_size HB.out)); have n1_ := Aside0.mk (blk_below B2.out hb); have n2_ := Aside0.mk (below_step HB.out hb); clear HB B2 hb ho0; have HX := n0_; have B2 := n1_; have HB := n2_; clear n0_ n1_ n2_; obtain ⟨A5, c5, e5⟩ := Kd.R_slice HX.out; subst e5; have hcz2_0 : w5.cell? ⟨g2, 0, none⟩ = some (.int .i64 0) := (blk_cell B2.out 0).trans rfl; have hcz2_1 : w5.cell? ⟨g2, 1, none⟩ = some (.slice none 0 0) := (blk_cell B2.out 1).trans rfl; have hfz2_0 := blk_frozen B2.out 0; have hfz2_1 := blk_frozen B2.out 1))
    refine bodyPost_ret (results_ct rfl _ _ g2 34 #[.int .i64 t1, .slice A5 t2.length c5] (0, 0) _ rfl (by refine blk_put (cs := #[.int .i64 t1, .slice none 0 0]) ?_ 1 _ rfl; refine blk_put (cs := #[.int .i64 0, .slice none 0 0]) ?_ 0 _ rfl; exact B2.out) Try.underlying34 rfl (by kernel_rfl)) rfl ?_
    exact ⟨_, rfl, Kd.R_mono (Kd.R_far (p := ⟨g2, 1, none⟩) (Kd.R_far (p := ⟨g2, 0, none⟩) (Kd.R_types HX.out B2.out (by decide)) (fun _ hk => hk.2) (.int .i64 t1)) (fun _ hk => hk.2) (.slice A5 t2.length c5)) (fun _ _ => trivial), below_set (below_set HB.out G2.out) G2.out⟩
  rw [if_neg c13] at h
  have d13 : (a0.toList == ([109, 99, 103, 101, 101] : List UInt8)) = false := beq_eq_false_iff_ne.mpr c13
  clear c13
  by_cases c14 : a0.toList = ([116, 117, 116, 116, 101, 99, 111, 120, 101, 116, 101, 114] : List UInt8)
  · rw [if_pos c14] at h
    have d14 : (a0.toList == ([116, 117, 116, 116, 101, 99, 111, 120, 101, 116, 101, 114] : List UInt8)) = true := beq_iff_eq.mpr c14
    clear c14
    obtain ⟨⟨t1, t2⟩, A1, h⟩ := Option.bind_eq_some_iff.mp h
    simp only [Option.some.injEq, Prod.mk.injEq] at h
    obtain ⟨rfl, rfl, rfl⟩ := h
    have A2 := Aside0.mk A1
    clear A1
    go_enter Try.func39, Try.ntmps39
    go_wp2_with (first | ((with_reducible refine gate_dst (N := 2) rfl ?_); refine box_event ?hg (N := 2) ?hd (cs := #[.int .i64 0, .slice none 0 0]) (t := 34) ?hr ?_; (case hd => rfl); (case hg => rfl); (case hr => first | (go_simp; done) | (go_simp; rfl)); intro g2 hg w2 hbox hb; have n0_ := Aside0.mk (below_step HB.out hb); have B2 := Aside0.mk hbox; have G2 := Aside0.mk (by rw [hg]; exact below_size HB.out : w.heap.size ≤ g2); clear HB; have HB := n0_; clear n0_ hb hbox hg) | ((with_reducible refine gate_dst (N := 55) rfl ?_); refine Kd.R_lit (Kd.int .i64) _ 2 ?hg (N := 55) ?hd (xs := ([17, 21, 7, 23, 9, 13] : List Int)) (inner := [.int .i64 17, .int .i64 21, .int .i64 7, .int .i64 23, .int .i64 9, .int .i64 13]) (ok := fun _ => True) (okp := fun _ => True) ?hr ?hp (fun _ hk => hk) trivial (Below.refl _ _) (Nat.le_refl _) (by simp) ?_; (case hd => rfl); (case hg => rfl); (case hr => first | (go_simp; done) | (go_simp; rfl)); (case hp => exact (Reps.one (show Kd.M (Kd.int .i64) _ _ _ 17 [.int .i64 17] from rfl) (Reps.one (show Kd.M (Kd.int .i64) _ _ _ 21 [.int .i64 21] from rfl) (Reps.one (show Kd.M (Kd.int .i64) _ _ _ 7 [.int .i64 7] from rfl) (Reps.one (show Kd.M (Kd.int .i64) _ _ _ 23 [.int .i64 23] from rfl) (Reps.one (show Kd.M (Kd.int .i64) _ _ _ 9 [.int .i64 9] from rfl) (Reps.one (show Kd.M (Kd.int .i64) _ _ _ 13 [.int .i64 13] from rfl) (Reps.none _ _)))))))); intro v3 w3 ho3 hb hg_ hnew_; clear hg_ hnew_; have n0_ := Aside0.mk ho3; have n1_ := Aside0.mk (blk_below B2.out hb); have n2_ := Aside0.mk (below_step HB.out hb); clear HB B2 hb ho3; have HL := n0_; have B2 := n1_; have HB := n2_; clear n0_ n1_ n2_; obtain ⟨A3, c3, e3⟩ := Kd.R_slice HL.out; subst e3) | ((with_reducible refine gate_callee (f := 74) rfl ?_); refine goesL_ (some 56) rfl rfl Try.func74 (by kernel_rfl) rfl #[.int .i64 30, .slice A3 ([17, 21, 7, 23, 9, 13] : List Int).length c3] rfl (by (try simp only [List.map_toArray, List.map_cons, List.map_nil]); first | done | rfl) ?_; (refine (impl_jumpGraph.calls k 30 _ _ ([17, 21, 7, 23, 9, 13] : List Int) t1 t2 _ ?side1 ?side2 A2.out).mono ?_); (case side1 => exact (Kd.R_reads' HL.out).2.2); (case side2 => exact (Kd.R_reads' HL.out).2.1); rintro e w5 ⟨v5, rfl, ho0, hb⟩; refine ⟨_, rfl, ?_⟩; have n0_ := Aside0.mk (Kd.R_lower ho0 (below_size HB.out)); have n1_ := Aside0.mk (blk_below B2.out hb); have n2_ := Aside0.mk (below_step HB.out hb); clear HB B2 hb ho0; have HX := n0_; have B2 := n1_; have HB := n2_; clear n0_ n1_ n2_; obtain ⟨A5, c5, e5⟩ := Kd.R_slice HX.out; subst e5; have hcz2_0 : w5.cell? ⟨g2, 0, none⟩ = some (.int .i64 0) := (blk_cell B2.out 0).trans rfl; have hcz2_1 : w5.cell? ⟨g2, 1, none⟩ = some (.slice none 0 0) := (blk_cell B2.out 1).trans rfl; have hfz2_0 := blk_frozen B2.out 0; have hfz2_1 := blk_frozen B2.out 1))
    refine bodyPost_ret (results_ct rfl _ _ g2 34 #[.int .i64 t1, .slice A5 t2.length c5] (0, 0) _ rfl (by refine blk_put (cs := #[.int .i64 t1, .slice none 0 0]) ?_ 1 _ rfl; refine blk_put (cs := #[.int .i64 0, .slice none 0 0]) ?_ 0 _ rfl; exact B2.out) Try.underlying34 rfl (by kernel_rfl)) rfl ?_
    exact ⟨_, rfl, Kd.R_mono (Kd.R_far (p := ⟨g2, 1, none⟩) (Kd.R_far (p := ⟨g2, 0, none⟩) (Kd.R_types HX.out B2.out (by decide)) (fun _ hk => hk.2) (.int .i64 t1)) (fun _ hk => hk.2) (.slice A5 t2.length c5)) (fun _ _ => trivial), below_set (below_set HB.out G2.out) G2.out⟩
  rw [if_neg c14] at h
  have d14 : (a0.toList == ([116, 117, 116, 116, 101, 99, 111, 120, 101, 116, 101, 114] : List UInt8)) = false := beq_eq_false_iff_ne.mpr c14
  clear c14
  simp only [Option.some.injEq, Prod.mk.injEq] at h
  obtain ⟨rfl, rfl, rfl⟩ := h
  go_enter Try.func39, Try.ntmps39
  go_wp2_with (first | ((with_reducible refine gate_dst (N := 2) rfl ?_); refine box_event ?hg (N := 2) ?hd (cs := #[.int .i64 0, .slice none 0 0]) (t := 34) ?hr ?_; (case hd => rfl); (case hg => rfl); (case hr => first | (go_simp; done) | (go_simp; rfl)); intro g2 hg w2 hbox hb; have n0_ := Aside0.mk (below_step HB.out hb); have B2 := Aside0.mk hbox; have G2 := Aside0.mk (by rw [hg]; exact below_size HB.out : w.heap.size ≤ g2); clear HB; have HB := n0_; clear n0_ hb hbox hg; have hcz2_0 : w2.cell? ⟨g2, 0, none⟩ = some (.int .i64 0) := (blk_cell B2.out 0).trans rfl; have hcz2_1 : w2.cell? ⟨g2, 1, none⟩ = some (.slice none 0 0) := (blk_cell B2.out 1).trans rfl; have hfz2_0 := blk_frozen B2.out 0; have hfz2_1 := blk_frozen B2.out 1))
  refine bodyPost_ret (results_ct rfl _ _ g2 34 #[.int .i64 0, .slice none 0 0] (0, 0) _ rfl (by refine blk_put (cs := #[.int .i64 0, .slice none 0 0]) ?_ 1 _ rfl; refine blk_put (cs := #[.int .i64 0, .slice none 0 0]) ?_ 0 _ rfl; exact B2.out) Try.underlying34 rfl (by kernel_rfl)) rfl ?_
  exact ⟨_, rfl, Kd.R_nil _ _ _ _ _, below_set (below_set HB.out G2.out) G2.out⟩

end Go.Proofs.Ythnjnhdalpcfpaa.XFnExactNamedGraph
