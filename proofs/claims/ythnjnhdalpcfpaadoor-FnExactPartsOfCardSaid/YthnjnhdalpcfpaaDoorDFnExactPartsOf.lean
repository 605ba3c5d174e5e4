/- FnExactPartsOf: the marks in rows of rows, and the law's walk: it returns true for every graph. No condition. -/
import Derived.Test.YthnjnhdalpcfpaaDoorXFnExactPartsOfx0
import Derived.Test.YthnjnhdalpcfpaaDoorXFnExactPartsOfx1
import Derived.Test.YthnjnhdalpcfpaaDoorXFnExactPartsOfx2
import Derived.Test.YthnjnhdalpcfpaaDoorXFnExactPartsOfx3
import Derived.Test.YthnjnhdalpcfpaaDoorXFnExactPartsOfx4
import Derived.Test.YthnjnhdalpcfpaaDoorXFnExactPartsOfx5
import Derived.Test.YthnjnhdalpcfpaaDoorXFnExactPartsOfx6
import Derived.Test.YthnjnhdalpcfpaaDoorXFnExactPartsOfx7
import Derived.Test.YthnjnhdalpcfpaaDoorLFnExactPartsOf
namespace Go.Proofs.YthnjnhdalpcfpaaDoor.XFnExactPartsOf
open Go.RowKit Go.Proofs.YthnjnhdalpcfpaaDoorW.PrintWords Go.Proofs.YthnjnhdalpcfpaaDoorW.PrintLast Go.Proofs.YthnjnhdalpcfpaaDoorW.PrintMore Go.Proofs.YthnjnhdalpcfpaaDoor.B
attribute [local go_sem] max2_int min2_int max_two min_two max_three min_three max_four min_four
set_option linter.unusedVariables false
set_option linter.unusedSimpArgs false
/-! ### laws.markInt64SS: by hand (each row's marks are put in by laws.markInt64S) -/
def laws_markInt64SS.l0 : Nat → List (List Int) → Int → Int → Option (Int × List (List Int))
  | 0, _, _, _ => none
  | k + 1, x0, x1, x5 => if x5 < (x0.length : Int) then (if 0 ≤ x5 then ((laws_markInt64S.f k (rd_L1 x0 x5) x1).bind fun t => laws_markInt64SS.l0 k (x0.set x5.toNat t.2) t.1 (wrap64 (x5 + 1))) else none) else some (x1, x0)
def laws_markInt64SS.f (k : Nat) (l0 : List (List Int)) (a1 : Int) : Option (Int × List (List Int)) := laws_markInt64SS.l0 k l0 a1 0
set_option maxHeartbeats 8000000 in
set_option maxRecDepth 100000 in
theorem markSS_calls (k : Nat) (u : Value) (l0 : List (List Int)) (a1 : Int) (r1 : Int) (r2 : List (List Int)) (w0 w : World) (hB : Below w0.heap.size w0 w) (ho0 : Kd.S (Kd.slice 2 (Kd.int .i64)) 22 w w0.heap.size (fun _ => True) u l0) (h : laws_markInt64SS.f k l0 a1 = some (r1, r2)) :
    Calls Tryd.prog 20 #[u, .int .i64 a1] w fun e w' => e = .returned (.int .i64 r1) ∧ Kd.S (Kd.slice 2 (Kd.int .i64)) 22 w' w0.heap.size (fun _ => True) u r2 ∧ Below w0.heap.size w0 w' := by
  have HS := Aside0.mk ho0
  have HB := Aside0.mk hB
  have H : (laws_markInt64SS.l0 k l0 a1 0) = some (r1, r2) := h
  clear hB ho0 h
  have H' := Aside0.mk H
  clear H
  go_enter Tryd.func20, Tryd.ntmps20
  go_wp2
  go_loopg [1, 5] k (fun kq v1 v5 w' => ∃ (x0_1 : List (List Int)) (x1_1 : Int) (x5_1 : Int), v1 = .int .i64 x1_1 ∧ v5 = .int .i64 x5_1 ∧ Aside0 (laws_markInt64SS.l0 kq x0_1 x1_1 x5_1 = some (r1, r2)) ∧ Aside0 (kq ≤ k) ∧ Aside0 (Kd.S (Kd.slice 2 (Kd.int .i64)) 22 w' w0.heap.size (fun _ => True) u x0_1) ∧ Aside0 (Below w0.heap.size w0 w'))
  case atStart => exact ⟨(l0), (a1), (0), (by first | rfl | (simp; done) | (simp [*]; done)), (by first | rfl | (simp; done) | (simp [*]; done)), H', ⟨Nat.le_refl _⟩, ⟨HS.out⟩, ⟨HB.out⟩⟩
  case round =>
    clear H' HS HB
    obtain ⟨x0_1, x1_1, x5_1, rfl, rfl, HA, HK1, HS, HB⟩ := hrel
    cases gk with
    | zero => exact absurd HA.out (by simp [laws_markInt64SS.l0])
    | succ k1 =>
      have H := HA.out
      clear HA
      simp only [laws_markInt64SS.l0] at H
      by_cases c3 : x5_1 < (x0_1.length : Int)
      · rw [if_pos c3] at H
        have c3b0 : decide (x5_1 < (x0_1.length : Int)) = true := decide_eq_true c3
        by_cases c4 : 0 ≤ x5_1
        · rw [if_pos c4] at H
          have c4b0 : decide (0 ≤ x5_1) = true := decide_eq_true c4
          replace H := Option.bind_eq_some_iff.mp H
          obtain ⟨⟨t1, t2⟩, A0, H⟩ := H
          replace H : laws_markInt64SS.l0 k1 (x0_1.set x5_1.toNat t2) t1 (wrap64 (x5_1 + 1)) = some (r1, r2) := H
          have H' := Aside0.mk H
          clear H
          obtain ⟨g, cap, hu, hgb, hgl, hgc⟩ := Kd.S_form HS.out (by omega)
          subst hu
          obtain ⟨oki, cc, hcl, hM, hcc, hoki, hH⟩ := Kd.S_lend HS.out ([] : List Int) x5_1 c4 c3
          obtain ⟨row, hrow⟩ : ∃ row, x0_1.getD x5_1.toNat ([] : List Int) = row := ⟨_, rfl⟩
          rw [hrow] at hM
          have A1 := Aside0.mk (show laws_markInt64S.f k1 row x1_1 = some (t1, t2) by rw [← hrow]; exact A0)
          clear A0 hrow
          obtain ⟨vi, rfl, hRi⟩ := hM
          have hx := hcc 0 vi rfl
          rw [show (Kd.slice 2 (Kd.int .i64)).sz = 1 from rfl, Nat.mul_one, Nat.add_zero] at hx
          clear hcl hcc hgb hgl hgc
          have p5 : (0 ≤ (x5_1 : Int)) = True := eq_true c4
          have q5 : ((x5_1 : Int) < ((x0_1.length : Int) : Int)) = True := eq_true c3
          have HR := Aside0.mk hRi
          have HH := Aside0.mk hH
          have HO := Aside0.mk hoki
          clear hRi hH hoki c3 c4 HS
          obtain ⟨Ai, ci, ei⟩ := Kd.R_slice HR.out
          subst ei
          go_wp2_with (first | ((with_reducible refine gate_callee (f := 15) rfl ?_); refine goesL_ (some 17) rfl rfl Tryd.func15 (by kernel_rfl) rfl #[.slice Ai row.length ci, .int .i64 x1_1] rfl (by (try simp only [List.map_toArray, List.map_cons, List.map_nil]); first | done | rfl) ?_; (with_reducible refine (laws_markInt64S.calls k1 oki _ row x1_1 t1 t2 w0 _ ?side1 ?side2 A1.out).mono ?_); (case side1 => exact HB.out); (case side2 => exact HR.out); rintro e w5 ⟨rfl, hy, hb, hkp⟩; refine ⟨_, rfl, ?_⟩; have n0_ := Aside0.mk (Kd.H_back (Kd.H_step HH.out (fun k_ _ hn hlt => hkp.2 k_ hlt hn)) (Kd.M_row (Kd.R_reok rfl hy (fun k_ e_ => HR.out.1 k_ e_))) (fun _ h_ => h_)); have n1_ := Aside0.mk hb; clear hb hkp hy HH HR HO HB hx; have HS := n0_; have HB := n1_; clear n0_ n1_))
          go_roundg k1
          case measure => have := HK1.out; omega
          case rel => exact ⟨_, t1, (wrap64 (x5_1 + 1)), (by first | rfl | (simp; done) | (simp [*]; done)), (by first | rfl | (simp; done) | (simp [*]; done)), H', ⟨by have := HK1.out; omega⟩, ⟨HS.out⟩, ⟨HB.out⟩⟩
        · rw [if_neg c4] at H
          exact absurd H (by simp)
      · rw [if_neg c3] at H
        have c3b0 : decide (x5_1 < (x0_1.length : Int)) = false := decide_eq_false c3
        clear c3
        simp only [Option.some.injEq, Prod.mk.injEq] at H
        obtain ⟨rfl, rfl⟩ := H
        obtain ⟨Ao9, co9, eo9⟩ := Kd.S_slice HS.out
        subst eo9
        go_wp2
        go_ret
        exact ⟨rfl, HS.out, HB.out⟩

theorem laws_markInt64SS.ev_l (l : List (List Int)) (hl : l.length ≤ 100000) (hr : ∀ j : Nat, (rd_L1 l (j : Int)).length ≤ 1000) (d : Nat) : ∀ (i : Nat) (x : List (List Int)), i + d = l.length → x.length = l.length →
    (∀ j : Nat, j < i → (rd_L1 x (j : Int)).length = (rd_L1 l (j : Int)).length ∧ ∀ k : Nat, k < (rd_L1 x (j : Int)).length → rd (rd_L1 x (j : Int)) (k : Int) = 1 + lenTo l j + k) → (∀ j : Nat, i ≤ j → rd_L1 x (j : Int) = rd_L1 l (j : Int)) →
    ∃ m, Ev (fun k => laws_markInt64SS.l0 k x (1 + lenTo l i) (i : Int)) (1 + lenTo l l.length, m) ∧ Marked 1 l m := by
  have hb := lenTo_le hr
  induction d with
  | zero =>
    intro i x h3 hx h1 h2
    have : i = l.length := by omega
    subst this
    refine ⟨x, Ev.step (fun k => laws_markInt64SS.l0.eq_2 ..) ?_, hx, h1⟩
    simp only [if_neg (show ¬ ((l.length : Int) < (x.length : Int)) by omega)]
    exact Ev.now _
  | succ d ih =>
    intro i x h3 hx h1 h2
    have hi := hr i
    have hbi := hb i
    have := Nat.mul_le_mul (show i ≤ 100000 by omega) (Nat.le_refl 1000)
    obtain ⟨m, hm, hml, hmv⟩ := laws_markInt64S.ev (rd_L1 l (i : Int)) (1 + lenTo l i) (by omega) (by omega)
    obtain ⟨r, hE, hM⟩ := ih (i + 1) (x.set i m) (by omega) (by rw [List.length_set]; exact hx) (fun j hj => by
      by_cases c : i = j
      · subst c
        rw [rd_L1_set_self _ _ (by omega)]
        exact ⟨hml, fun k hk => hmv k (by omega)⟩
      · rw [rd_L1_set_ne _ _ _ c]; exact h1 j (by omega)) fun j hj => by rw [rd_L1_set_ne _ _ _ (by omega)]; exact h2 j (by omega)
    refine ⟨r, Ev.step (fun k => laws_markInt64SS.l0.eq_2 ..) ?_, hM⟩
    simp only [if_pos (show (i : Int) < (x.length : Int) by omega), if_pos (show (0 : Int) ≤ (i : Int) by omega), h2 i (Nat.le_refl _), Int.toNat_natCast]
    refine Ev.bind hm ?_
    simp only
    rw [w64 (by omega) (by omega), show (1 : Int) + lenTo l i + ((rd_L1 l (i : Int)).length : Int) = 1 + ((lenTo l (i + 1) : Nat) : Int) by rw [lenTo]; omega]
    exact hE
theorem laws_markInt64SS.ev (l : List (List Int)) (hl : l.length ≤ 100000) (hr : ∀ j : Nat, (rd_L1 l (j : Int)).length ≤ 1000) : ∃ m, Ev (fun k => laws_markInt64SS.f k l 1) (1 + lenTo l l.length, m) ∧ Marked 1 l m := by
  unfold laws_markInt64SS.f
  have := laws_markInt64SS.ev_l l hl hr l.length 0 l (by omega) rfl (fun j hj => by omega) (fun j _ => rfl)
  simpa [lenTo] using this

set_option maxHeartbeats 8000000 in
set_option maxRecDepth 100000 in
theorem direct (a0 : Int) (A0 : Option Addr) (c0 : Nat) (l0 : List Int) (w : World) (m0 : l0.length ≤ maxLen) (hr0 : Kd.C (Kd.int .i64) w A0 l0.length l0) (hc0 : l0.length ≤ c0) (ht : Tab w) :
    Calls Tryd.prog 5 #[.agg #[.int .i64 a0, .slice A0 l0.length c0]] w fun e w' => e = .returned (.bool true) ∧ Below w.heap.size w w' := by
  have hu1 := Tryd.underlying24
  have hu2 := Tryd.underlying26
  unfold maxLen at m0
  have HR := Aside0.mk hr0
  have HC := Aside0.mk hc0
  have HT := Aside0.mk ht
  have HB := Aside0.mk (Below.refl w.heap.size w)
  clear hr0 hc0 ht
  rcases laws_szGraph.sp (n := a0) (l := l0) (a := 1048576) (by omega) (by omega) (by omega) with ⟨e0, cz⟩ | ⟨e0, cz⟩
  · have S0 := Aside0.mk e0
    clear e0 cz m0
    go_enter Tryd.func5, Tryd.ntmps5
    go_wp2_with (first | ((with_reducible refine gate_dst (N := 1) rfl ?_); refine box_event ?hg (N := 1) ?hd (cs := #[.int .i64 a0, .slice A0 l0.length c0]) (t := 24) ?hr ?_; (case hd => rfl); (case hg => rfl); (case hr => first | (go_simp; done) | (go_simp; rfl)); intro g1 hg w1 hbox hb; have n0_ := Aside0.mk (below_step (by repeat (first | (with_reducible first | exact HB.out | apply below_alloc | apply pw_below_drewN | apply below_drew1) | exact HB.out)) hb); have n1_ := Aside0.mk (hbox); clear HB; have HB := n0_; have B1 := n1_; clear n0_ n1_; clear hb hbox hg; have hczg1_0 : w1.cell? ⟨g1, 0, none⟩ = some (.int .i64 a0) := (blk_cell B1.out 0).trans rfl; have hczg1_1 : w1.cell? ⟨g1, 1, none⟩ = some (.slice A0 l0.length c0) := (blk_cell B1.out 1).trans rfl; have hfzg1_0 := blk_frozen B1.out 0; have hfzg1_1 := blk_frozen B1.out 1) | ((with_reducible refine gate_callee (f := 7) rfl ?_); refine goesL_ (some 16) rfl rfl Tryd.func7 (by kernel_rfl) rfl #[.agg #[.int .i64 a0, .slice A0 l0.length c0], .int .i64 1048576] rfl (by (try simp only [List.map_toArray, List.map_cons, List.map_nil]); first | done | rfl) ?_; (with_reducible refine (laws_szGraph.calls a0 _ _ l0 1048576 _ _ ?side1 ?side2 S0.out).mono ?_); (case side1 => repeat (first | exact (Kd.C_below HR.out HB.out) | (with_reducible refine Kd.C_alloc ?_ _) | (with_reducible refine Kd.C_drewN ?_ _) | (with_reducible refine Kd.C_drew ?_))); (case side2 => exact HC.out); rintro e w2 ⟨rfl, hb⟩; refine ⟨_, rfl, ?_⟩; have n0_ := Aside0.mk (blk_below (g := g1) (o := .cells #[.int .i64 a0, .slice A0 l0.length c0] 24 (0, 0)) (by (with_reducible repeat (first | refine blk_drewN ?_ _ | refine blk_drew ?_ | refine blk_alloc ?_ _)); exact B1.out) hb); have n1_ := Aside0.mk (below_step (by repeat (first | (with_reducible first | exact HB.out | apply below_alloc | apply pw_below_drewN | apply below_drew1) | exact HB.out)) hb); clear B1; clear HB; have B1 := n0_; have HB := n1_; clear n0_ n1_; clear hb; have hczg1_0 : w2.cell? ⟨g1, 0, none⟩ = some (.int .i64 a0) := (blk_cell B1.out 0).trans rfl; have hczg1_1 : w2.cell? ⟨g1, 1, none⟩ = some (.slice A0 l0.length c0) := (blk_cell B1.out 1).trans rfl; have hfzg1_0 := blk_frozen B1.out 0; have hfzg1_1 := blk_frozen B1.out 1))
    go_ret
    exact ⟨rfl, (by repeat (first | (with_reducible first | exact HB.out | apply below_alloc | apply pw_below_drewN | apply below_drew1) | exact HB.out))⟩
  · have S0 := Aside0.mk e0
    obtain ⟨kto, hto⟩ := laws_toGraph.ev a0 l0 (by omega)
    have STO := Aside0.mk (hto kto (Nat.le_refl _))
    obtain ⟨ksp, hsp⟩ := spec_PartsOf.ev a0 l0
    obtain ⟨kim, him⟩ := impl_PartsOf.ev a0 l0
    have hsm := partsR_small a0 l0
    have SSP := hsp ksp (Nat.le_refl _)
    have SIM := him kim (Nat.le_refl _)
    generalize partsR a0 l0 = R at SSP SIM hsm
    clear hsp him
    obtain ⟨E, cd⟩ := R
    replace SSP := Aside0.mk SSP
    replace SIM := Aside0.mk SIM
    have hE : E.length ≤ 4000 := hsm.1
    have hE2 : ∀ j : Nat, (rd_L1 E (j : Int)).length ≤ 62 := fun j => by
      rcases Nat.lt_or_ge j E.length with z | z
      · have : rd_L1 E (j : Int) = E[j] := by simp [rd_L1, z]
        rw [this]
        exact hsm.2 _ (List.getElem_mem z)
      · have : rd_L1 E (j : Int) = [] := by simp [rd_L1, z]
        rw [this]; simp
    obtain ⟨keq, heq⟩ := laws_eqInt64SS.ev E (by omega) (fun j => by have := hE2 j; omega)
    have SEQ := Aside0.mk (heq keq (Nat.le_refl _))
    obtain ⟨m, ⟨kmk, hmk⟩, hM⟩ := laws_markInt64SS.ev E (by omega) (fun j => by have := hE2 j; omega)
    obtain ⟨khd, hhd⟩ := laws_heldInt64SS.ev E m hM (by omega) (fun j => by have := hE2 j; omega)
    have hlt := lenTo_le hE2 E.length
    have hmul := Nat.mul_le_mul hE (Nat.le_refl 62)
    obtain ⟨MK, hMK⟩ : ∃ MK : Int, MK = 1 + lenTo E E.length := ⟨_, rfl⟩
    have mk0 : decide (MK < 0) = false := decide_eq_false (by omega)
    have SMK := hmk kmk (Nat.le_refl _)
    have SHD := hhd khd (Nat.le_refl _)
    rw [← hMK] at SMK SHD
    replace SMK := Aside0.mk SMK
    replace SHD := Aside0.mk SHD
    have ML := Aside0.mk hM.1
    obtain ⟨keg, heg⟩ := laws_eqGraph.ev a0 l0 (by omega)
    have SEG := Aside0.mk (heg keg (Nat.le_refl _))
    obtain ⟨mx, ⟨kmg, hmg⟩, _, _⟩ := laws_markGraph.ev a0 l0 1 (by omega) (by omega)
    have SMG := Aside0.mk (hmg kmg (Nat.le_refl _))
    have sz0 : decide ((1048576 : Int) - l0.length < 0) = false := decide_eq_false (by omega)
    have mg0 : decide ((1 : Int) + l0.length < 0) = false := decide_eq_false (by omega)
    have cd0 : (cd != cd) = false := by simp
    have mm0 : (MK != MK) = false := by simp
    clear e0 cz m0 hto heq hmk hhd hM hlt hmul hMK heg hmg hsm hE hE2
    go_enter Tryd.func5, Tryd.ntmps5
    go_wp2_with (first | ((with_reducible refine gate_dst (N := 1) rfl ?_); refine box_event ?hg (N := 1) ?hd (cs := #[.int .i64 a0, .slice A0 l0.length c0]) (t := 24) ?hr ?_; (case hd => rfl); (case hg => rfl); (case hr => first | (go_simp; done) | (go_simp; rfl)); intro g1 hg w1 hbox hb; have n0_ := Aside0.mk (below_step (by repeat (first | (with_reducible first | exact HB.out | apply below_alloc | apply pw_below_drewN | apply below_drew1) | exact HB.out)) hb); have n1_ := Aside0.mk (hbox); clear HB; have HB := n0_; have B1 := n1_; clear n0_ n1_; clear hb hbox hg; have hczg1_0 : w1.cell? ⟨g1, 0, none⟩ = some (.int .i64 a0) := (blk_cell B1.out 0).trans rfl; have hczg1_1 : w1.cell? ⟨g1, 1, none⟩ = some (.slice A0 l0.length c0) := (blk_cell B1.out 1).trans rfl; have hfzg1_0 := blk_frozen B1.out 0; have hfzg1_1 := blk_frozen B1.out 1) | ((with_reducible refine gate_callee (f := 7) rfl ?_); refine goesL_ (some 16) rfl rfl Tryd.func7 (by kernel_rfl) rfl #[.agg #[.int .i64 a0, .slice A0 l0.length c0], .int .i64 1048576] rfl (by (try simp only [List.map_toArray, List.map_cons, List.map_nil]); first | done | rfl) ?_; (with_reducible refine (laws_szGraph.calls a0 _ _ l0 1048576 _ _ ?side1 ?side2 S0.out).mono ?_); (case side1 => repeat (first | exact (Kd.C_below HR.out HB.out) | (with_reducible refine Kd.C_alloc ?_ _) | (with_reducible refine Kd.C_drewN ?_ _) | (with_reducible refine Kd.C_drew ?_))); (case side2 => exact HC.out); rintro e w2 ⟨rfl, hb⟩; refine ⟨_, rfl, ?_⟩; have n0_ := Aside0.mk (blk_below (g := g1) (o := .cells #[.int .i64 a0, .slice A0 l0.length c0] 24 (0, 0)) (by (with_reducible repeat (first | refine blk_drewN ?_ _ | refine blk_drew ?_ | refine blk_alloc ?_ _)); exact B1.out) hb); have n1_ := Aside0.mk (below_step (by repeat (first | (with_reducible first | exact HB.out | apply below_alloc | apply pw_below_drewN | apply below_drew1) | exact HB.out)) hb); clear B1; clear HB; have B1 := n0_; have HB := n1_; clear n0_ n1_; clear hb; have hczg1_0 : w2.cell? ⟨g1, 0, none⟩ = some (.int .i64 a0) := (blk_cell B1.out 0).trans rfl; have hczg1_1 : w2.cell? ⟨g1, 1, none⟩ = some (.slice A0 l0.length c0) := (blk_cell B1.out 1).trans rfl; have hfzg1_0 := blk_frozen B1.out 0; have hfzg1_1 := blk_frozen B1.out 1) | ((with_reducible refine gate_callee (f := 9) rfl ?_); refine goesL_ (some 21) rfl rfl Tryd.func9 (by kernel_rfl) rfl #[.agg #[.int .i64 a0, .slice A0 l0.length c0]] rfl (by (try simp only [List.map_toArray, List.map_cons, List.map_nil]); first | done | rfl) ?_; (with_reducible refine (laws_toGraph.calls kto a0 _ _ l0 a0 l0 _ ?side1 ?side2 STO.out).mono ?_); (case side1 => repeat (first | exact (Kd.C_below HR.out HB.out) | (with_reducible refine Kd.C_alloc ?_ _) | (with_reducible refine Kd.C_drewN ?_ _) | (with_reducible refine Kd.C_drew ?_))); (case side2 => exact HC.out); rintro e w3 ⟨v3, rfl, ho0, hb⟩; refine ⟨_, rfl, ?_⟩; have n0_ := Aside0.mk (ho0); have n1_ := Aside0.mk (blk_below (g := g1) (o := .cells #[.int .i64 a0, .slice A0 l0.length c0] 24 (0, 0)) (by (with_reducible repeat (first | refine blk_drewN ?_ _ | refine blk_drew ?_ | refine blk_alloc ?_ _)); exact B1.out) hb); have n2_ := Aside0.mk (below_step (by repeat (first | (with_reducible first | exact HB.out | apply below_alloc | apply pw_below_drewN | apply below_drew1) | exact HB.out)) hb); clear B1; clear HB; have H3 := n0_; have B1 := n1_; have HB := n2_; clear n0_ n1_ n2_; clear hb ho0; obtain ⟨A3, c3, e3⟩ := Kd.R_slice H3.out; subst e3) | ((with_reducible refine gate_callee (f := 22) rfl ?_); refine goesL_ (some 22) rfl rfl Tryd.func22 (by kernel_rfl) rfl #[.agg #[.int .i64 a0, .slice A3 l0.length c3]] rfl (by (try simp only [List.map_toArray, List.map_cons, List.map_nil]); first | done | rfl) ?_; (with_reducible refine (spec_PartsOf.calls ksp a0 _ _ l0 E cd _ ?side1 ?side2 SSP.out).mono ?_); (case side1 => repeat (first | exact (Kd.R_reads' H3.out).2.2 | (with_reducible refine Kd.C_alloc ?_ _) | (with_reducible refine Kd.C_drewN ?_ _) | (with_reducible refine Kd.C_drew ?_))); (case side2 => exact (Kd.R_reads' H3.out).2.1); rintro e w4 ⟨v4, rfl, ho0, hb⟩; refine ⟨_, rfl, ?_⟩; have n0_ := Aside0.mk (ho0); have n1_ := Aside0.mk (blk_below (g := g1) (o := .cells #[.int .i64 a0, .slice A0 l0.length c0] 24 (0, 0)) (by (with_reducible repeat (first | refine blk_drewN ?_ _ | refine blk_drew ?_ | refine blk_alloc ?_ _)); exact B1.out) hb); have n2_ := Aside0.mk (below_step (by repeat (first | (with_reducible first | exact HB.out | apply below_alloc | apply pw_below_drewN | apply below_drew1) | exact HB.out)) hb); have n3_ := Aside0.mk (Below.refl w4.heap.size w4); clear B1; clear HB; have HW := n0_; have B1 := n1_; have HB := n2_; have H1 := n3_; clear n0_ n1_ n2_ n3_; clear hb ho0 H3; have hczg1_0 : w4.cell? ⟨g1, 0, none⟩ = some (.int .i64 a0) := (blk_cell B1.out 0).trans rfl; have hczg1_1 : w4.cell? ⟨g1, 1, none⟩ = some (.slice A0 l0.length c0) := (blk_cell B1.out 1).trans rfl; have hfzg1_0 := blk_frozen B1.out 0; have hfzg1_1 := blk_frozen B1.out 1) | ((with_reducible refine gate_callee (f := 9) rfl ?_); refine goesL_ (some 26) rfl rfl Tryd.func9 (by kernel_rfl) rfl #[.agg #[.int .i64 a0, .slice A0 l0.length c0]] rfl (by (try simp only [List.map_toArray, List.map_cons, List.map_nil]); first | done | rfl) ?_; (with_reducible refine (laws_toGraph.calls kto a0 _ _ l0 a0 l0 _ ?side1 ?side2 STO.out).mono ?_); (case side1 => repeat (first | exact (Kd.C_below HR.out HB.out) | (with_reducible refine Kd.C_alloc ?_ _) | (with_reducible refine Kd.C_drewN ?_ _) | (with_reducible refine Kd.C_drew ?_))); (case side2 => exact HC.out); rintro e w5 ⟨v5, rfl, ho0, hb⟩; refine ⟨_, rfl, ?_⟩; have n0_ := Aside0.mk (ho0); have n1_ := Aside0.mk (hb); clear H1; have HX := n0_; have H1 := n1_; clear n0_ n1_; clear hb ho0) | ((with_reducible refine gate_dst (N := 6) rfl ?_); refine box_event ?hg (N := 6) ?hd (cs := #[.int .i64 0, .slice none 0 0]) (t := 26) ?hr ?_; (case hd => rfl); (case hg => rfl); (case hr => first | (go_simp; done) | (go_simp; rfl)); intro g6 hg w6 hbox hb; have n0_ := Aside0.mk (hbox); have n1_ := Aside0.mk ((by rw [hg]; exact below_size H1.out : w4.heap.size ≤ g6)); have n2_ := Aside0.mk (Kd.R_below HX.out hb); have n3_ := Aside0.mk (below_step H1.out hb); clear HX; clear H1; have B6 := n0_; have G6 := n1_; have HX := n2_; have H1 := n3_; clear n0_ n1_ n2_ n3_; clear hb hbox hg; have hczg6_0 : w6.cell? ⟨g6, 0, none⟩ = some (.int .i64 0) := (blk_cell B6.out 0).trans rfl; have hczg6_1 : w6.cell? ⟨g6, 1, none⟩ = some (.slice none 0 0) := (blk_cell B6.out 1).trans rfl; have hfzg6_0 := blk_frozen B6.out 0; have hfzg6_1 := blk_frozen B6.out 1; obtain ⟨A5, c5, e5⟩ := Kd.R_slice HX.out; subst e5) | ((with_reducible refine gate_callee (f := 23) rfl ?_); refine goesL_ (some 29) rfl rfl Tryd.func23 (by kernel_rfl) rfl #[.agg #[.int .i64 a0, .slice A5 l0.length c5]] rfl (by (try simp only [List.map_toArray, List.map_cons, List.map_nil]); first | done | rfl) ?_; (with_reducible refine (impl_PartsOf.calls kim a0 _ _ l0 E cd _ ?side1 ?side2 ?side3 SIM.out).mono ?_); (case side1 => refine (Kd.R_reads' (e := 2) (base := w4.heap.size) (ok := fun _ => True) (n := l0.length) (c := c5) ?_).2.2; exact (Kd.R_mono (Kd.R_far (p := ⟨g6, 1, none⟩) (Kd.R_far (p := ⟨g6, 0, none⟩) (Kd.R_types HX.out B6.out (by decide)) (fun _ hk => hk.2) (.int .i64 a0)) (fun _ hk => hk.2) (.slice A5 l0.length c5)) (fun _ _ => trivial))); (case side2 => exact (Kd.R_reads' HX.out).2.1); (case side3 => exact Tab.below HT.out (below_step HB.out (by repeat (first | (with_reducible first | exact H1.out | apply below_alloc | apply pw_below_drewN | apply below_drew1 | refine below_set ?_ G6.out) | exact H1.out)))); rintro e w7 ⟨v7, rfl, ho0, hb⟩; refine ⟨_, rfl, ?_⟩; have n0_ := Aside0.mk (Kd.S_lower (Kd.S_new' (u := (.slice A5 l0.length c5 : Value)) ho0 (Kd.R_lt (Kd.R_mono (Kd.R_far (p := ⟨g6, 1, none⟩) (Kd.R_far (p := ⟨g6, 0, none⟩) (Kd.R_types HX.out B6.out (by decide)) (fun _ hk => hk.2) (.int .i64 a0)) (fun _ hk => hk.2) (.slice A5 l0.length c5)) (fun _ _ => trivial)))) (below_size (by repeat (first | (with_reducible first | exact H1.out | apply below_alloc | apply pw_below_drewN | apply below_drew1 | refine below_set ?_ G6.out) | exact H1.out)))); have n1_ := Aside0.mk (Kd.R_below (Kd.R_mono (Kd.R_far (p := ⟨g6, 1, none⟩) (Kd.R_far (p := ⟨g6, 0, none⟩) (Kd.R_types HX.out B6.out (by decide)) (fun _ hk => hk.2) (.int .i64 a0)) (fun _ hk => hk.2) (.slice A5 l0.length c5)) (fun _ _ => trivial)) hb); have n2_ := Aside0.mk (below_step (by repeat (first | (with_reducible first | exact H1.out | apply below_alloc | apply pw_below_drewN | apply below_drew1 | refine below_set ?_ G6.out) | exact H1.out)) hb); have n3_ := Aside0.mk (blk_below (g := g6) (o := .cells #[.int .i64 a0, .slice A5 l0.length c5] 26 (0, 0)) (by refine blk_put (cs := #[.int .i64 a0, .slice none 0 0]) ?_ 1 _ rfl; refine blk_put (cs := #[.int .i64 0, .slice none 0 0]) ?_ 0 _ rfl; exact B6.out) hb); clear HX; clear H1; clear B6; have HG := n0_; have HX := n1_; have H1 := n2_; have B6 := n3_; clear n0_ n1_ n2_ n3_; clear hb ho0; obtain ⟨A7, c7, e7⟩ := Kd.S_slice HG.out; subst e7; obtain ⟨A4, c4, e4⟩ := Kd.S_slice HW.out; subst e4) | ((with_reducible refine gate_callee (f := 19) rfl ?_); refine goesL_ (some 34) rfl rfl Tryd.func19 (by kernel_rfl) rfl #[.slice A7 E.length c7, .slice A4 E.length c4] rfl (by (try simp only [List.map_toArray, List.map_cons, List.map_nil]); first | done | rfl) ?_; (with_reducible refine (laws_eqInt64SS.calls keq _ _ E _ _ E true _ ?side1 ?side2 ?side3 ?side4 SEQ.out).mono ?_); (case side1 => repeat (first | exact (Kd.S_reads' HG.out).2.2 | (with_reducible refine Kd.C_alloc ?_ _) | (with_reducible refine Kd.C_drewN ?_ _) | (with_reducible refine Kd.C_drew ?_))); (case side2 => exact (Kd.S_reads' HG.out).2.1); (case side3 => repeat (first | exact (Kd.S_reads' (Kd.S_below HW.out (by repeat (first | (with_reducible first | exact H1.out | apply below_alloc | apply pw_below_drewN | apply below_drew1 | refine below_set ?_ G6.out) | exact H1.out)))).2.2 | (with_reducible refine Kd.C_alloc ?_ _) | (with_reducible refine Kd.C_drewN ?_ _) | (with_reducible refine Kd.C_drew ?_))); (case side4 => exact (Kd.S_reads' HW.out).2.1); rintro e w8 ⟨rfl, hb⟩; refine ⟨_, rfl, ?_⟩; (try replace hb := hb.below); have n0_ := Aside0.mk (Kd.S_below (by (with_reducible repeat (first | apply Kd.S_alloc | apply Kd.S_drewN | apply Kd.S_drew)); exact HG.out) hb); have n1_ := Aside0.mk (Kd.R_below (by (with_reducible repeat (first | apply Kd.R_alloc | apply Kd.R_drewN | apply Kd.R_drew)); exact HX.out) hb); have n2_ := Aside0.mk (below_step (by repeat (first | (with_reducible first | exact H1.out | apply below_alloc | apply pw_below_drewN | apply below_drew1 | refine below_set ?_ G6.out) | exact H1.out)) hb); have n3_ := Aside0.mk (blk_below (g := g6) (o := .cells #[.int .i64 a0, .slice A5 l0.length c5] 26 (0, 0)) (by (with_reducible repeat (first | refine blk_drewN ?_ _ | refine blk_drew ?_ | refine blk_alloc ?_ _)); exact B6.out) hb); clear HG; clear HX; clear H1; clear B6; have HG := n0_; have HX := n1_; have H1 := n2_; have B6 := n3_; clear n0_ n1_ n2_ n3_; clear hb))
    have n0_ := Aside0.mk (Kd.S_drew HG.out)
    have n1_ := Aside0.mk (Kd.R_drew HX.out)
    have n2_ := Aside0.mk (blk_drew B6.out)
    have n3_ := Aside0.mk (below_drew1 H1.out)
    clear HG HX B6 H1
    have HG := n0_
    have HX := n1_
    have B6 := n2_
    have H1 := n3_
    clear n0_ n1_ n2_ n3_
    have BQ := Aside0.mk (blk_below B1.out H1.out)
    refine start_ (n := 5) (S := fun w' => w'.cell? ⟨g6, 0, none⟩ = some (.int .i64 a0) ∧ w'.cell? ⟨g6, 1, none⟩ = some (.slice A5 l0.length c5) ∧ w'.cell? ⟨g1, 0, none⟩ = some (.int .i64 a0) ∧ w'.cell? ⟨g1, 1, none⟩ = some (.slice A0 l0.length c0)) (ds := []) #[false, false, false, false, false] (by kernel_rfl) rfl rfl ⟨(blk_cell B6.out 0).trans rfl, (blk_cell B6.out 1).trans rfl, (blk_cell BQ.out 0).trans rfl, (blk_cell BQ.out 1).trans rfl⟩ (fun hHeld => ?_)
    generalize w8.drew = w9 at HG HX B6 H1 BQ hHeld ⊢
    refine take_ (i := 0) (N := some 41) (v := ?_) (a' := ?_) #[true, false, false, false, false] rfl rfl (by kernel_rfl) (fun _ _ _ h => h) (Or.inl ⟨by rfl, ?_⟩) hHeld ?_ ?_
    rotate_left
    · rintro w' ⟨s0, s1, s2, s3⟩
      go_simp
      with_reducible rfl
    rotate_left
    · simp only [Act.put, List.setIfInBounds_toArray, List.set_cons_zero, List.set_cons_succ, i64_w, i32_w]
      rfl
    refine take_ (i := 1) (N := some 42) (v := ?_) (a' := ?_) #[true, true, false, false, false] rfl rfl (by kernel_rfl) (fun _ _ _ h => h) (Or.inl ⟨by rfl, ?_⟩) hHeld ?_ ?_
    rotate_left
    · rintro w' ⟨s0, s1, s2, s3⟩
      go_simp
      with_reducible rfl
    rotate_left
    · simp only [Act.put, List.setIfInBounds_toArray, List.set_cons_zero, List.set_cons_succ, i64_w, i32_w]
      rfl
    refine one_ (i := 2) (N := some 43) #[true, true, true, false, false] rfl rfl (by kernel_rfl) (by decide) (fun K hK => ?_)
    refine goes_ Tryd.func9 (by kernel_rfl) rfl #[.agg #[.int .i64 a0, .slice A0 l0.length c0]] (by rfl) rfl rfl (by (try simp only [List.map_toArray, List.map_cons, List.map_nil]); first | done | rfl) ?_
    with_reducible refine (laws_toGraph.calls kto a0 _ _ l0 a0 l0 _ ?side1 ?side2 STO.out).mono ?_
    (case side1 => repeat (first | exact (Kd.C_below HR.out (below_step HB.out H1.out)) | (with_reducible refine Kd.C_alloc ?_ _) | (with_reducible refine Kd.C_drewN ?_ _) | (with_reducible refine Kd.C_drew ?_)))
    (case side2 => exact HC.out)
    rintro e w10 ⟨v10, rfl, ho0, hb⟩
    refine ⟨_, rfl, ?_⟩
    have n0_ := Aside0.mk (Kd.S_below HG.out hb)
    have n1_ := Aside0.mk (Kd.R_below HX.out hb)
    have n2_ := Aside0.mk (blk_below B6.out hb)
    have n3_ := Aside0.mk (below_step H1.out hb)
    have HV := Aside0.mk ho0
    have n4_ := Aside0.mk (blk_below BQ.out hb)
    clear HG HX B6 H1 ho0 hb BQ
    have HG := n0_
    have HX := n1_
    have B6 := n2_
    have H1 := n3_
    have BQ := n4_
    clear n0_ n1_ n2_ n3_ n4_
    obtain ⟨A10, c10, e10⟩ := Kd.R_slice HV.out
    subst e10
    refine hK.out _ _ ⟨(blk_cell B6.out 0).trans rfl, (blk_cell B6.out 1).trans rfl, (blk_cell BQ.out 0).trans rfl, (blk_cell BQ.out 1).trans rfl⟩ (fun hHeld => ?_)
    clear hK K
    refine norm_ (a' := ?_) ?_ ?_
    rotate_left
    · show Act.put _ (some 43) _ = _
      simp only [Act.put, List.setIfInBounds_toArray, List.set_cons_zero, List.set_cons_succ, i64_w, i32_w]
      rfl
    refine one_ (i := 3) (N := some 44) #[true, true, true, true, false] rfl rfl (by kernel_rfl) (by decide) (fun K hK => ?_)
    refine goes_ Tryd.func12 (by kernel_rfl) rfl #[.agg #[.int .i64 a0, .slice A5 l0.length c5], .agg #[.int .i64 a0, .slice A10 l0.length c10]] (by rfl) rfl rfl (by (try simp only [List.map_toArray, List.map_cons, List.map_nil]); first | done | rfl) ?_
    with_reducible refine (laws_eqGraph.calls keg a0 _ _ l0 a0 _ _ l0 true _ ?side1 ?side2 ?side3 ?side4 SEG.out).mono ?_
    (case side1 => exact (Kd.R_reads' HX.out).2.2)
    (case side2 => exact (Kd.R_reads' HX.out).2.1)
    (case side3 => exact (Kd.R_reads' HV.out).2.2)
    (case side4 => exact (Kd.R_reads' HV.out).2.1)
    rintro e w11 ⟨rfl, hb⟩
    refine ⟨_, rfl, ?_⟩
    have n0_ := Aside0.mk (Kd.S_below HG.out hb)
    have n1_ := Aside0.mk (Kd.R_below HX.out hb)
    have n2_ := Aside0.mk (blk_below B6.out hb)
    have n3_ := Aside0.mk (below_step H1.out hb)
    have n4_ := Aside0.mk (blk_below BQ.out hb)
    clear HG HX B6 H1 hb HV BQ
    have HG := n0_
    have HX := n1_
    have B6 := n2_
    have H1 := n3_
    have BQ := n4_
    clear n0_ n1_ n2_ n3_ n4_
    refine hK.out _ _ ⟨(blk_cell B6.out 0).trans rfl, (blk_cell B6.out 1).trans rfl, (blk_cell BQ.out 0).trans rfl, (blk_cell BQ.out 1).trans rfl⟩ (fun hHeld => ?_)
    clear hK K
    refine norm_ (a' := ?_) ?_ ?_
    rotate_left
    · show Act.put _ (some 44) _ = _
      simp only [Act.put, List.setIfInBounds_toArray, List.set_cons_zero, List.set_cons_succ, i64_w, i32_w]
      rfl
    refine pure_ (i := 4) (N := some 45) (v := ?_) (a' := ?_) #[true, true, true, true, true] rfl rfl (by kernel_rfl) (fun _ _ _ h => h) (Or.inl ⟨by rfl, ?_⟩) ?_ ?_
    rotate_left
    · intro w'
      go_simp
      with_reducible rfl
    rotate_left
    · simp only [Act.put, List.setIfInBounds_toArray, List.set_cons_zero, List.set_cons_succ, i64_w, i32_w]
      rfl
    refine done_ (by kernel_rfl) ?_
    have hczg6_0 : w11.cell? ⟨g6, 0, none⟩ = some (.int .i64 a0) := (blk_cell B6.out 0).trans rfl
    have hczg6_1 : w11.cell? ⟨g6, 1, none⟩ = some (.slice A5 l0.length c5) := (blk_cell B6.out 1).trans rfl
    have hfzg6_0 := blk_frozen B6.out 0
    have hfzg6_1 := blk_frozen B6.out 1
    clear BQ hHeld
    go_wp2_with (first | ((with_reducible refine gate_callee (f := 14) rfl ?_); refine goesL_ (some 48) rfl rfl Tryd.func14 (by kernel_rfl) rfl #[.agg #[.int .i64 a0, .slice A5 l0.length c5], .int .i64 1] rfl (by (try simp only [List.map_toArray, List.map_cons, List.map_nil]); first | done | rfl) ?_; (with_reducible refine (laws_markGraph.calls kmg a0 (fun k_ => some k_ = (.slice A5 l0.length c5 : Value).ownBlock) (.slice A5 l0.length c5) l0 1 (1 + (l0.length : Int)) mx w4 _ ?side1 ?side2 SMG.out).mono ?_); (case side1 => exact (by repeat (first | (with_reducible first | exact H1.out | apply below_alloc | apply pw_below_drewN | apply below_drew1 | refine below_set ?_ G6.out) | exact H1.out))); (case side2 => exact Kd.R_tight rfl (by (with_reducible repeat (first | apply Kd.R_alloc | apply Kd.R_drewN | apply Kd.R_drew)); exact HX.out)); rintro e w12 ⟨rfl, _, hb, hkp⟩; refine ⟨_, rfl, ?_⟩; have n0_ := Aside0.mk (Kd.S_kept (by (with_reducible repeat (first | apply Kd.S_alloc | apply Kd.S_drewN | apply Kd.S_drew)); exact HG.out) hkp (fun k (hk : True ∧ some k ≠ (.slice A5 l0.length c5 : Value).ownBlock) hs => hk.2 hs)); have n1_ := Aside0.mk (hb); clear HG; clear H1; have HG := n0_; have H1 := n1_; clear n0_ n1_; clear hb hkp HX B6) | ((with_reducible refine gate_callee (f := 20) rfl ?_); refine goesL_ (some 64) rfl rfl Tryd.func20 (by kernel_rfl) rfl #[.slice A7 E.length c7, .int .i64 1] rfl (by (try simp only [List.map_toArray, List.map_cons, List.map_nil]); first | done | rfl) ?_; (with_reducible refine (markSS_calls kmk (.slice A7 E.length c7) E 1 MK m w4 _ ?side1 ?side2 SMK.out).mono ?_); (case side1 => exact (by repeat (first | (with_reducible first | exact H1.out | apply below_alloc | apply pw_below_drewN | apply below_drew1 | refine below_set ?_ G6.out) | exact H1.out))); (case side2 => exact Kd.S_mono (by (with_reducible repeat (first | apply Kd.S_alloc | apply Kd.S_drewN | apply Kd.S_drew)); exact HG.out) (fun _ _ => trivial)); rintro e w14 ⟨rfl, hs, hb⟩; refine ⟨_, rfl, ?_⟩; have n0_ := Aside0.mk (hs); have n1_ := Aside0.mk (hb); clear HG; clear H1; have HG := n0_; have H1 := n1_; clear n0_ n1_; clear hb hs) | ((with_reducible refine gate_callee (f := 21) rfl ?_); refine goesL_ (some 67) rfl rfl Tryd.func21 (by kernel_rfl) rfl #[.slice A7 E.length c7, .int .i64 1] rfl (by (try simp only [List.map_toArray, List.map_cons, List.map_nil]); first | done | rfl) ?_; refine calls_of_args (args' := #[.slice A7 m.length c7, .int .i64 1]) (by rw [ML.out]) ?_; (with_reducible refine (laws_heldInt64SS.calls khd _ _ m 1 MK _ ?side1 ?side2 SHD.out).mono ?_); (case side1 => have hz_ := (Kd.S_reads' HG.out).2.2; repeat (first | exact hz_ | (with_reducible refine Kd.C_alloc ?_ _) | (with_reducible refine Kd.C_drewN ?_ _) | (with_reducible refine Kd.C_drew ?_))); (case side2 => rw [ML.out]; exact (Kd.S_reads' HG.out).2.1); rintro e w15 ⟨rfl, hb⟩; refine ⟨_, rfl, ?_⟩; (try replace hb := hb.below); have n0_ := Aside0.mk (Kd.S_below (by (with_reducible repeat (first | apply Kd.S_alloc | apply Kd.S_drewN | apply Kd.S_drew)); exact HG.out) hb); have n1_ := Aside0.mk (below_step (by repeat (first | (with_reducible first | exact H1.out | apply below_alloc | apply pw_below_drewN | apply below_drew1 | refine below_set ?_ G6.out) | exact H1.out)) hb); clear HG; clear H1; have HG := n0_; have H1 := n1_; clear n0_ n1_; clear hb; have hbk1 := Aside0.mk (blk_below B1.out H1.out); have hczg1_0 : w15.cell? ⟨g1, 0, none⟩ = some (.int .i64 a0) := (blk_cell hbk1.out 0).trans rfl; have hczg1_1 : w15.cell? ⟨g1, 1, none⟩ = some (.slice A0 l0.length c0) := (blk_cell hbk1.out 1).trans rfl; have hfzg1_0 := blk_frozen hbk1.out 0; have hfzg1_1 := blk_frozen hbk1.out 1) | ((with_reducible refine gate_callee (f := 9) rfl ?_); refine goesL_ (some 75) rfl rfl Tryd.func9 (by kernel_rfl) rfl #[.agg #[.int .i64 a0, .slice A0 l0.length c0]] rfl (by (try simp only [List.map_toArray, List.map_cons, List.map_nil]); first | done | rfl) ?_; (with_reducible refine (laws_toGraph.calls kto a0 _ _ l0 a0 l0 _ ?side1 ?side2 STO.out).mono ?_); (case side1 => repeat (first | exact (Kd.C_below HR.out (below_step HB.out (by repeat (first | (with_reducible first | exact H1.out | apply below_alloc | apply pw_below_drewN | apply below_drew1 | refine below_set ?_ G6.out) | exact H1.out)))) | (with_reducible refine Kd.C_alloc ?_ _) | (with_reducible refine Kd.C_drewN ?_ _) | (with_reducible refine Kd.C_drew ?_))); (case side2 => exact HC.out); rintro e w16 ⟨v16, rfl, ho0, hb⟩; refine ⟨_, rfl, ?_⟩; have n0_ := Aside0.mk (ho0); have n1_ := Aside0.mk (Kd.S_below (by (with_reducible repeat (first | apply Kd.S_alloc | apply Kd.S_drewN | apply Kd.S_drew)); exact HG.out) hb); have n2_ := Aside0.mk (below_step (by repeat (first | (with_reducible first | exact H1.out | apply below_alloc | apply pw_below_drewN | apply below_drew1 | refine below_set ?_ G6.out) | exact H1.out)) hb); clear HG; clear H1; have HY := n0_; have HG := n1_; have H1 := n2_; clear n0_ n1_ n2_; clear hb ho0; obtain ⟨A16, c16, e16⟩ := Kd.R_slice HY.out; subst e16) | ((with_reducible refine gate_callee (f := 23) rfl ?_); refine goesL_ (some 76) rfl rfl Tryd.func23 (by kernel_rfl) rfl #[.agg #[.int .i64 a0, .slice A16 l0.length c16]] rfl (by (try simp only [List.map_toArray, List.map_cons, List.map_nil]); first | done | rfl) ?_; (with_reducible refine (impl_PartsOf.calls kim a0 _ _ l0 E cd _ ?side1 ?side2 ?side3 SIM.out).mono ?_); (case side1 => repeat (first | exact (Kd.R_reads' HY.out).2.2 | (with_reducible refine Kd.C_alloc ?_ _) | (with_reducible refine Kd.C_drewN ?_ _) | (with_reducible refine Kd.C_drew ?_))); (case side2 => exact (Kd.R_reads' HY.out).2.1); (case side3 => exact Tab.below HT.out (below_step HB.out (by repeat (first | (with_reducible first | exact H1.out | apply below_alloc | apply pw_below_drewN | apply below_drew1 | refine below_set ?_ G6.out) | exact H1.out)))); rintro e w17 ⟨v17, rfl, ho0, hb⟩; refine ⟨_, rfl, ?_⟩; have n0_ := Aside0.mk (ho0); have n1_ := Aside0.mk (Kd.S_below (by (with_reducible repeat (first | apply Kd.S_alloc | apply Kd.S_drewN | apply Kd.S_drew)); exact HG.out) hb); have n2_ := Aside0.mk (below_step (by repeat (first | (with_reducible first | exact H1.out | apply below_alloc | apply pw_below_drewN | apply below_drew1 | refine below_set ?_ G6.out) | exact H1.out)) hb); clear HG; clear H1; have HZ := n0_; have HG := n1_; have H1 := n2_; clear n0_ n1_ n2_; clear hb ho0; obtain ⟨A17, c17, e17⟩ := Kd.S_slice HZ.out; subst e17) | ((with_reducible refine gate_callee (f := 19) rfl ?_); refine goesL_ (some 81) rfl rfl Tryd.func19 (by kernel_rfl) rfl #[.slice A17 E.length c17, .slice A4 E.length c4] rfl (by (try simp only [List.map_toArray, List.map_cons, List.map_nil]); first | done | rfl) ?_; (with_reducible refine (laws_eqInt64SS.calls keq _ _ E _ _ E true _ ?side1 ?side2 ?side3 ?side4 SEQ.out).mono ?_); (case side1 => repeat (first | exact (Kd.S_reads' HZ.out).2.2 | (with_reducible refine Kd.C_alloc ?_ _) | (with_reducible refine Kd.C_drewN ?_ _) | (with_reducible refine Kd.C_drew ?_))); (case side2 => exact (Kd.S_reads' HZ.out).2.1); (case side3 => repeat (first | exact (Kd.S_reads' (Kd.S_below HW.out (by repeat (first | (with_reducible first | exact H1.out | apply below_alloc | apply pw_below_drewN | apply below_drew1 | refine below_set ?_ G6.out) | exact H1.out)))).2.2 | (with_reducible refine Kd.C_alloc ?_ _) | (with_reducible refine Kd.C_drewN ?_ _) | (with_reducible refine Kd.C_drew ?_))); (case side4 => exact (Kd.S_reads' HW.out).2.1); rintro e w18 ⟨rfl, hb⟩; refine ⟨_, rfl, ?_⟩; (try replace hb := hb.below); have n0_ := Aside0.mk (Kd.S_below (by (with_reducible repeat (first | apply Kd.S_alloc | apply Kd.S_drewN | apply Kd.S_drew)); exact HG.out) hb); have n1_ := Aside0.mk (below_step (by repeat (first | (with_reducible first | exact H1.out | apply below_alloc | apply pw_below_drewN | apply below_drew1 | refine below_set ?_ G6.out) | exact H1.out)) hb); clear HG; clear H1; have HG := n0_; have H1 := n1_; clear n0_ n1_; clear hb) | ((with_reducible refine gate_callee (f := 21) rfl ?_); refine goesL_ (some 90) rfl rfl Tryd.func21 (by kernel_rfl) rfl #[.slice A7 E.length c7, .int .i64 1] rfl (by (try simp only [List.map_toArray, List.map_cons, List.map_nil]); first | done | rfl) ?_; refine calls_of_args (args' := #[.slice A7 m.length c7, .int .i64 1]) (by rw [ML.out]) ?_; (with_reducible refine (laws_heldInt64SS.calls khd _ _ m 1 MK _ ?side1 ?side2 SHD.out).mono ?_); (case side1 => have hz_ := (Kd.S_reads' HG.out).2.2; repeat (first | exact hz_ | (with_reducible refine Kd.C_alloc ?_ _) | (with_reducible refine Kd.C_drewN ?_ _) | (with_reducible refine Kd.C_drew ?_))); (case side2 => rw [ML.out]; exact (Kd.S_reads' HG.out).2.1); rintro e w19 ⟨rfl, hb⟩; refine ⟨_, rfl, ?_⟩; (try replace hb := hb.below); have n0_ := Aside0.mk (below_step (by repeat (first | (with_reducible first | exact H1.out | apply below_alloc | apply pw_below_drewN | apply below_drew1 | refine below_set ?_ G6.out) | exact H1.out)) hb); clear H1; have H1 := n0_; clear n0_; clear hb) | (go_at_call 19; (with_reducible refine (laws_eqInt64SS.calls keq _ _ E _ _ E true _ ?side1 ?side2 ?side3 ?side4 SEQ.out).mono ?_); (case side1 => repeat (first | exact (Kd.S_reads' HG.out).2.2 | (with_reducible refine Kd.C_alloc ?_ _) | (with_reducible refine Kd.C_drewN ?_ _) | (with_reducible refine Kd.C_drew ?_))); (case side2 => exact (Kd.S_reads' HG.out).2.1); (case side3 => repeat (first | exact (Kd.S_reads' (Kd.S_below HW.out (by repeat (first | (with_reducible first | exact H1.out | apply below_alloc | apply pw_below_drewN | apply below_drew1 | refine below_set ?_ G6.out) | exact H1.out)))).2.2 | (with_reducible refine Kd.C_alloc ?_ _) | (with_reducible refine Kd.C_drewN ?_ _) | (with_reducible refine Kd.C_drew ?_))); (case side4 => exact (Kd.S_reads' HW.out).2.1); rintro e w13 ⟨rfl, hb⟩; (try replace hb := hb.below); have n0_ := Aside0.mk (Kd.S_below (by (with_reducible repeat (first | apply Kd.S_alloc | apply Kd.S_drewN | apply Kd.S_drew)); exact HG.out) hb); have n1_ := Aside0.mk (below_step (by repeat (first | (with_reducible first | exact H1.out | apply below_alloc | apply pw_below_drewN | apply below_drew1 | refine below_set ?_ G6.out) | exact H1.out)) hb); clear HG; clear H1; have HG := n0_; have H1 := n1_; clear n0_ n1_; clear hb))
    go_ret
    exact ⟨rfl, below_step HB.out (by repeat (first | (with_reducible first | exact H1.out | apply below_alloc | apply pw_below_drewN | apply below_drew1 | refine below_set ?_ G6.out) | exact H1.out))⟩
end Go.Proofs.YthnjnhdalpcfpaaDoor.XFnExactPartsOf
