/- FnExactPlanePoints: the values, the marks in rows of rows, and the law's walk: it returns true for every number. No condition. -/
import Derived.Test.YtockngphfpedkaaXFnExactPlanePointsx0
import Derived.Test.YtockngphfpedkaaXFnExactPlanePointsx1
import Derived.Test.YtockngphfpedkaaXFnExactPlanePointsx2
import Derived.Test.YtockngphfpedkaaXFnExactPlanePointsx3
import Derived.Test.YtockngphfpedkaaLFnExactPlanePoints
namespace Go.Proofs.Ytockngphfpedkaa.XFnExactPlanePoints
open Go.RowKit Go.Proofs.YtockngphfpedkaaW.PrintWords Go.Proofs.YtockngphfpedkaaW.PrintLast Go.Proofs.YtockngphfpedkaaW.PrintMore Go.Proofs.Ytockngphfpedkaa.B
attribute [local go_sem] max2_int min2_int max_two min_two max_three min_three max_four min_four
set_option linter.unusedVariables false
set_option linter.unusedSimpArgs false
set_option maxHeartbeats 8000000 in
set_option maxRecDepth 100000 in
theorem impl_PlanePoints.callsS (k : Nat) (a0 : Int) (r1 : List (List Int)) (r2 : Int) (w : World) (h : impl_PlanePoints.f k a0 = some (r1, r2)) :
    Calls Try.prog 14 #[.int .i64 a0] w fun e w' => ∃ v0_ : Value, e = .returned (.tuple #[v0_, .int .i64 r2]) ∧ Kd.S (Kd.slice 2 (Kd.int .i64)) 22 w' w.heap.size (fun k_ => (w.heap.size ≤ k_)) v0_ r1 ∧ Below w.heap.size w w' := by
  have HB := Aside0.mk (Below.refl w.heap.size w)
  have H : ((impl_isPrime.f a0).bind fun t123 => (if t123 = true then ((impl_points.f k a0).bind fun t124 => (some (t124, 0))) else (some (([] : List (List Int)), 2)))) = some (r1, r2) := h
  clear h
  replace H := Option.bind_eq_some_iff.mp H
  obtain ⟨t123, A20, H⟩ := H
  replace H : (if t123 = true then ((impl_points.f k a0).bind fun t124 => (some (t124, 0))) else (some (([] : List (List Int)), 2))) = some (r1, r2) := H
  have A2 := Aside0.mk A20
  clear A20
  by_cases c3 : t123 = true
  · subst c3
    have H1 : ((impl_points.f k a0).bind fun t124 => (some (t124, 0))) = some (r1, r2) := by rw [if_pos rfl] at H; exact H
    clear H
    have H := H1
    clear H1
    replace H := Option.bind_eq_some_iff.mp H
    obtain ⟨t124, A40, H⟩ := H
    replace H : (some (t124, 0)) = some (r1, r2) := H
    have A4 := Aside0.mk A40
    clear A40
    simp only [Option.some.injEq, Prod.mk.injEq] at H
    obtain ⟨rfl, rfl⟩ := H
    go_enter Try.func14, Try.ntmps14
    go_wp2_with (first | ((with_reducible refine gate_callee (f := 30) rfl ?_); refine goesL_ (some 5) rfl rfl Try.func30 (by kernel_rfl) rfl #[.int .i64 a0] rfl (by (try simp only [List.map_toArray, List.map_cons, List.map_nil]); first | done | rfl | (simp only [List.length_drop, List.length_take]; rfl)) ?_; (with_reducible refine (impl_isPrime.calls a0 true _ A2.out).mono ?_); rintro e w' ⟨rfl, ⟨nd, rfl⟩⟩; refine ⟨_, rfl, ?_⟩) | ((with_reducible refine gate_callee (f := 31) rfl ?_); refine goesL_ (some 8) rfl rfl Try.func31 (by kernel_rfl) rfl #[.int .i64 a0] rfl (by (try simp only [List.map_toArray, List.map_cons, List.map_nil]); first | done | rfl | (simp only [List.length_drop, List.length_take]; rfl)) ?_; (with_reducible refine (impl_points.callsS k a0 t124 _ A4.out).mono ?_); rintro e w5 ⟨v125, rfl, ho0, hb⟩; refine ⟨_, rfl, ?_⟩; have n0_ := Aside0.mk (Kd.S_lower (Kd.S_mono (ok' := fun k_ => (w.heap.size ≤ k_)) ho0 (fun k_ hk_ => (Nat.le_trans (below_size (by repeat (first | (with_reducible first | exact HB.out | apply below_alloc | apply pw_below_drewN | apply below_drew1) | exact HB.out))) hk_))) (below_size (by repeat (first | (with_reducible first | exact HB.out | apply below_alloc | apply pw_below_drewN | apply below_drew1) | exact HB.out)))); have n1_ := Aside0.mk (below_step (by repeat (first | (with_reducible first | exact HB.out | apply below_alloc | apply pw_below_drewN | apply below_drew1) | exact HB.out)) hb); clear HB; have HO126 := n0_; have HB := n1_; clear n0_ n1_; (try clear hb); (try clear hb2); (try clear hk); (try clear hi); (try clear ho0)))
    go_ret2
    exact ⟨_, by first | rfl | (simp [errW_none, errW_some] <;> rfl) | (simp [*, errW_none, errW_some] <;> rfl), by (with_reducible repeat (first | apply Kd.S_alloc | apply Kd.S_drewN | apply Kd.S_drew)); exact HO126.out, by repeat (first | (with_reducible first | exact HB.out | apply below_alloc | apply pw_below_drewN | apply below_drew1) | exact HB.out)⟩
  · replace c3 := Bool.eq_false_iff.mpr c3
    subst c3
    have H1 : (some (([] : List (List Int)), 2)) = some (r1, r2) := by rw [if_neg (show ¬ (false = true) by decide)] at H; exact H
    clear H
    have H := H1
    clear H1
    simp only [Option.some.injEq, Prod.mk.injEq] at H
    obtain ⟨rfl, rfl⟩ := H
    go_enter Try.func14, Try.ntmps14
    go_wp2_with (first | ((with_reducible refine gate_callee (f := 30) rfl ?_); refine goesL_ (some 5) rfl rfl Try.func30 (by kernel_rfl) rfl #[.int .i64 a0] rfl (by (try simp only [List.map_toArray, List.map_cons, List.map_nil]); first | done | rfl | (simp only [List.length_drop, List.length_take]; rfl)) ?_; (with_reducible refine (impl_isPrime.calls a0 false _ A2.out).mono ?_); rintro e w' ⟨rfl, ⟨nd, rfl⟩⟩; refine ⟨_, rfl, ?_⟩))
    go_ret2
    exact ⟨_, by first | rfl | (simp [errW_none, errW_some] <;> rfl) | (simp [*, errW_none, errW_some] <;> rfl), by first | exact Kd.S_nil _ _ _ _ _ | exact Kd.S_nil _ _ _ _ _ | exact Kd.V_nil _ _ _ _ _ | exact Kd.Q_nil _ _ _ _ _ | exact Kd.R_nil _ _ _ _ _, by repeat (first | (with_reducible first | exact HB.out | apply below_alloc | apply pw_below_drewN | apply below_drew1) | exact HB.out)⟩

/-- What both answer at a prime: one list, small. -/
def ppOk (q : Int) : Bool := match spec_PlanePoints.f 20000 q, impl_PlanePoints.f 20000 q with
  | some (E, c), some (F, d) => E == F && (c == d && (decide (E.length ≤ 100) && E.all fun r => decide (r.length ≤ 62)))
  | _, _ => false
theorem pp_of {q : Int} (h : ppOk q = true) : ∃ (k : Nat) (E : List (List Int)) (cd : Int), spec_PlanePoints.f k q = some (E, cd) ∧ impl_PlanePoints.f k q = some (E, cd) ∧ E.length ≤ 100 ∧ ∀ r ∈ E, r.length ≤ 62 := by
  unfold ppOk at h
  split at h
  · rename_i E c F d h1 h2
    simp only [Bool.and_eq_true, beq_iff_eq, decide_eq_true_eq, List.all_eq_true] at h
    obtain ⟨rfl, rfl, h3, h4⟩ := h
    exact ⟨20000, E, c, h1, h2, h3, h4⟩
  · cases h
theorem pp_val (q : Int) : ∃ (k : Nat) (E : List (List Int)) (cd : Int), spec_PlanePoints.f k q = some (E, cd) ∧ impl_PlanePoints.f k q = some (E, cd) ∧ E.length ≤ 100 ∧ ∀ r ∈ E, r.length ≤ 62 := by
  by_cases h2 : q = 2
  · subst h2; exact pp_of (by decide +kernel)
  by_cases h3 : q = 3
  · subst h3; exact pp_of (by decide +kernel)
  by_cases h5 : q = 5
  · subst h5; exact pp_of (by decide +kernel)
  by_cases h7 : q = 7
  · subst h7; exact pp_of (by decide +kernel)
  have hp : spec_l04Prime.f q = some false := by unfold spec_l04Prime.f; rw [if_neg h2, if_neg h3, if_neg h5, beq_eq_false_iff_ne.mpr h7]
  have hq : impl_isPrime.f q = some false := by unfold impl_isPrime.f; rw [if_neg h2, if_neg h3, if_neg h5, beq_eq_false_iff_ne.mpr h7]
  exact ⟨0, [], 2, by unfold spec_PlanePoints.f; rw [hp]; rfl, by unfold impl_PlanePoints.f; rw [hq]; rfl, by simp, by simp⟩
/-! ### laws.markInt64SS: by hand (each row's marks are put in by laws.markInt64S) -/
def laws_markInt64SS.l0 : Nat → List (List Int) → Int → Int → Option (Int × List (List Int))
  | 0, _, _, _ => none
  | k + 1, x0, x1, x5 => if x5 < (x0.length : Int) then (if 0 ≤ x5 then ((laws_markInt64S.f k (rd_L1 x0 x5) x1).bind fun t => laws_markInt64SS.l0 k (x0.set x5.toNat t.2) t.1 (wrap64 (x5 + 1))) else none) else some (x1, x0)
def laws_markInt64SS.f (k : Nat) (l0 : List (List Int)) (a1 : Int) : Option (Int × List (List Int)) := laws_markInt64SS.l0 k l0 a1 0
set_option maxHeartbeats 8000000 in
set_option maxRecDepth 100000 in
theorem markSSk_calls (k : Nat) (u : Value) (l0 : List (List Int)) (a1 : Int) (r1 : Int) (r2 : List (List Int)) (w0 w : World) (ok : Nat → Prop) (hB : Below w0.heap.size w0 w) (ho0 : Kd.S (Kd.slice 2 (Kd.int .i64)) 22 w w0.heap.size ok u l0) (h : laws_markInt64SS.f k l0 a1 = some (r1, r2)) :
    Calls Try.prog 16 #[u, .int .i64 a1] w fun e w' => e = .returned (.int .i64 r1) ∧ Kd.S (Kd.slice 2 (Kd.int .i64)) 22 w' w0.heap.size ok u r2 ∧ Below w0.heap.size w0 w' ∧ Kept w w' ok := by
  have HS := Aside0.mk ho0
  have HB := Aside0.mk hB
  have HK := Aside0.mk (Kept.refl w ok)
  have H : (laws_markInt64SS.l0 k l0 a1 0) = some (r1, r2) := h
  clear hB ho0 h
  have H' := Aside0.mk H
  clear H
  go_enter Try.func16, Try.ntmps16
  go_wp2
  go_loopg [1, 5] k (fun kq v1 v5 w' => ∃ (x0_1 : List (List Int)) (x1_1 : Int) (x5_1 : Int), v1 = .int .i64 x1_1 ∧ v5 = .int .i64 x5_1 ∧ Aside0 (laws_markInt64SS.l0 kq x0_1 x1_1 x5_1 = some (r1, r2)) ∧ Aside0 (kq ≤ k) ∧ Aside0 (Kd.S (Kd.slice 2 (Kd.int .i64)) 22 w' w0.heap.size ok u x0_1) ∧ Aside0 (Below w0.heap.size w0 w') ∧ Aside0 (Kept w w' ok))
  case atStart => exact ⟨(l0), (a1), (0), (by first | rfl | (simp; done) | (simp [*]; done)), (by first | rfl | (simp; done) | (simp [*]; done)), H', ⟨Nat.le_refl _⟩, ⟨HS.out⟩, ⟨HB.out⟩, ⟨HK.out⟩⟩
  case round =>
    clear H' HS HB HK
    obtain ⟨x0_1, x1_1, x5_1, rfl, rfl, HA, HK1, HS, HB, HK⟩ := hrel
    cases gk with
    | zero => exact absurd HA.out (by simp [laws_markInt64SS.l0])
    | succ k1 =>
      have H := HA.out
      clear HA
      simp only [laws_markInt64SS.l0] at H
      by_cases c3 : x5_1 < (x0_1.length : Int)
      · rw [if_pos c3] at H
        have c3b0 : decide (x5_1 < (x0_1.length : Int)) = true := decide_eq_true c3
        by_cases c4 : 0 ≤ x5_1
        · rw [if_pos c4] at H
          have c4b0 : decide (0 ≤ x5_1) = true := decide_eq_true c4
          replace H := Option.bind_eq_some_iff.mp H
          obtain ⟨⟨t1, t2⟩, A0, H⟩ := H
          replace H : laws_markInt64SS.l0 k1 (x0_1.set x5_1.toNat t2) t1 (wrap64 (x5_1 + 1)) = some (r1, r2) := H
          have H' := Aside0.mk H
          clear H
          obtain ⟨g, cap, hu, hgb, hgl, hgc⟩ := Kd.S_form HS.out (by omega)
          subst hu
          obtain ⟨oki, cc, hcl, hM, hcc, hoki, hH⟩ := Kd.S_lend HS.out ([] : List Int) x5_1 c4 c3
          obtain ⟨row, hrow⟩ : ∃ row, x0_1.getD x5_1.toNat ([] : List Int) = row := ⟨_, rfl⟩
          rw [hrow] at hM
          have A1 := Aside0.mk (show laws_markInt64S.f k1 row x1_1 = some (t1, t2) by rw [← hrow]; exact A0)
          clear A0 hrow
          obtain ⟨vi, rfl, hRi⟩ := hM
          have hx := hcc 0 vi rfl
          rw [show (Kd.slice 2 (Kd.int .i64)).sz = 1 from rfl, Nat.mul_one, Nat.add_zero] at hx
          clear hcl hcc hgb hgl hgc
          have p5 : (0 ≤ (x5_1 : Int)) = True := eq_true c4
          have q5 : ((x5_1 : Int) < ((x0_1.length : Int) : Int)) = True := eq_true c3
          have HR := Aside0.mk hRi
          have HH := Aside0.mk hH
          have HO := Aside0.mk hoki
          clear hRi hH hoki c3 c4 HS
          obtain ⟨Ai, ci, ei⟩ := Kd.R_slice HR.out
          subst ei
          go_wp2_with (first | ((with_reducible refine gate_callee (f := 11) rfl ?_); refine goesL_ (some 17) rfl rfl Try.func11 (by kernel_rfl) rfl #[.slice Ai row.length ci, .int .i64 x1_1] rfl (by (try simp only [List.map_toArray, List.map_cons, List.map_nil]); first | done | rfl) ?_; (with_reducible refine (laws_markInt64S.calls k1 oki _ row x1_1 t1 t2 w0 _ ?side1 ?side2 A1.out).mono ?_); (case side1 => exact HB.out); (case side2 => exact HR.out); rintro e w5 ⟨rfl, hy, hb, hkp⟩; refine ⟨_, rfl, ?_⟩; have n0_ := Aside0.mk (Kd.H_back (Kd.H_step HH.out (fun k_ _ hn hlt => hkp.2 k_ hlt hn)) (Kd.M_row (Kd.R_reok rfl hy (fun k_ e_ => HR.out.1 k_ e_))) (fun _ h_ => h_)); have n1_ := Aside0.mk hb; have n2_ := Aside0.mk (Kept.then_ HK.out hkp (fun k_ hk_ => .inl (HO.out k_ hk_).1)); clear hb hkp hy HH HR HO HB HK hx; have HS := n0_; have HB := n1_; have HK := n2_; clear n0_ n1_ n2_))
          go_roundg k1
          case measure => have := HK1.out; omega
          case rel => exact ⟨_, t1, (wrap64 (x5_1 + 1)), (by first | rfl | (simp; done) | (simp [*]; done)), (by first | rfl | (simp; done) | (simp [*]; done)), H', ⟨by have := HK1.out; omega⟩, ⟨HS.out⟩, ⟨HB.out⟩, ⟨HK.out⟩⟩
        · rw [if_neg c4] at H
          exact absurd H (by simp)
      · rw [if_neg c3] at H
        have c3b0 : decide (x5_1 < (x0_1.length : Int)) = false := decide_eq_false c3
        clear c3
        simp only [Option.some.injEq, Prod.mk.injEq] at H
        obtain ⟨rfl, rfl⟩ := H
        obtain ⟨Ao9, co9, eo9⟩ := Kd.S_slice HS.out
        subst eo9
        go_wp2
        go_ret
        exact ⟨rfl, HS.out, HB.out, HK.out⟩

theorem laws_markInt64SS.ev_l (l : List (List Int)) (hl : l.length ≤ 100000) (hr : ∀ j : Nat, (rd_L1 l (j : Int)).length ≤ 1000) (d : Nat) : ∀ (i : Nat) (x : List (List Int)), i + d = l.length → x.length = l.length →
    (∀ j : Nat, j < i → (rd_L1 x (j : Int)).length = (rd_L1 l (j : Int)).length ∧ ∀ k : Nat, k < (rd_L1 x (j : Int)).length → rd (rd_L1 x (j : Int)) (k : Int) = 1 + lenTo l j + k) → (∀ j : Nat, i ≤ j → rd_L1 x (j : Int) = rd_L1 l (j : Int)) →
    ∃ m, Ev (fun k => laws_markInt64SS.l0 k x (1 + lenTo l i) (i : Int)) (1 + lenTo l l.length, m) ∧ Marked 1 l m := by
  have hb := lenTo_le hr
  induction d with
  | zero =>
    intro i x h3 hx h1 h2
    have : i = l.length := by omega
    subst this
    refine ⟨x, Ev.step (fun k => laws_markInt64SS.l0.eq_2 ..) ?_, hx, h1⟩
    simp only [if_neg (show ¬ ((l.length : Int) < (x.length : Int)) by omega)]
    exact Ev.now _
  | succ d ih =>
    intro i x h3 hx h1 h2
    have hi := hr i
    have hbi := hb i
    have := Nat.mul_le_mul (show i ≤ 100000 by omega) (Nat.le_refl 1000)
    obtain ⟨m, hm, hml, hmv⟩ := laws_markInt64S.ev (rd_L1 l (i : Int)) (1 + lenTo l i) (by omega) (by omega)
    obtain ⟨r, hE, hM⟩ := ih (i + 1) (x.set i m) (by omega) (by rw [List.length_set]; exact hx) (fun j hj => by
      by_cases c : i = j
      · subst c
        rw [rd_L1_set_self _ _ (by omega)]
        exact ⟨hml, fun k hk => hmv k (by omega)⟩
      · rw [rd_L1_set_ne _ _ _ c]; exact h1 j (by omega)) fun j hj => by rw [rd_L1_set_ne _ _ _ (by omega)]; exact h2 j (by omega)
    refine ⟨r, Ev.step (fun k => laws_markInt64SS.l0.eq_2 ..) ?_, hM⟩
    simp only [if_pos (show (i : Int) < (x.length : Int) by omega), if_pos (show (0 : Int) ≤ (i : Int) by omega), h2 i (Nat.le_refl _), Int.toNat_natCast]
    refine Ev.bind hm ?_
    simp only
    rw [w64 (by omega) (by omega), show (1 : Int) + lenTo l i + ((rd_L1 l (i : Int)).length : Int) = 1 + ((lenTo l (i + 1) : Nat) : Int) by rw [lenTo]; omega]
    exact hE
theorem laws_markInt64SS.ev (l : List (List Int)) (hl : l.length ≤ 100000) (hr : ∀ j : Nat, (rd_L1 l (j : Int)).length ≤ 1000) : ∃ m, Ev (fun k => laws_markInt64SS.f k l 1) (1 + lenTo l l.length, m) ∧ Marked 1 l m := by
  unfold laws_markInt64SS.f
  have := laws_markInt64SS.ev_l l hl hr l.length 0 l (by omega) rfl (fun j hj => by omega) (fun j _ => rfl)
  simpa [lenTo] using this

set_option maxHeartbeats 8000000 in
set_option maxRecDepth 100000 in
theorem direct (a0 : Int) (w : World) : Calls Try.prog 4 #[.int .i64 a0] w fun e w' => e = .returned (.bool true) ∧ Below w.heap.size w w' := by
  have HB := Aside0.mk (Below.refl w.heap.size w)
  obtain ⟨kv, E, cd, hsp, him, hE, hE1⟩ := pp_val a0
  have SSP : Aside0 (spec_PlanePoints.f kv a0 = some (E, cd)) := ⟨hsp⟩
  have SIM : Aside0 (impl_PlanePoints.f kv a0 = some (E, cd)) := ⟨him⟩
  clear hsp him
  have hE2 : ∀ j : Nat, (rd_L1 E (j : Int)).length ≤ 62 := fun j => by
    rcases Nat.lt_or_ge j E.length with z | z
    · have : rd_L1 E (j : Int) = E[j] := by simp [rd_L1, z]
      rw [this]
      exact hE1 _ (List.getElem_mem z)
    · have : rd_L1 E (j : Int) = [] := by simp [rd_L1, z]
      rw [this]; simp
  obtain ⟨keq, heq⟩ := laws_eqInt64SS.ev E (by omega) (fun j => by have := hE2 j; omega)
  have SEQ := Aside0.mk (heq keq (Nat.le_refl _))
  obtain ⟨m, ⟨kmk, hmk⟩, hM⟩ := laws_markInt64SS.ev E (by omega) (fun j => by have := hE2 j; omega)
  obtain ⟨khd, hhd⟩ := laws_heldInt64SS.ev E m hM (by omega) (fun j => by have := hE2 j; omega)
  have hlt := lenTo_le hE2 E.length
  have hmul := Nat.mul_le_mul hE (Nat.le_refl 62)
  obtain ⟨MK, hMK⟩ : ∃ MK : Int, MK = 1 + lenTo E E.length := ⟨_, rfl⟩
  have mk0 : decide (MK < 0) = false := decide_eq_false (by omega)
  have SMK := hmk kmk (Nat.le_refl _)
  have SHD := hhd khd (Nat.le_refl _)
  rw [← hMK] at SMK SHD
  replace SMK := Aside0.mk SMK
  replace SHD := Aside0.mk SHD
  have ML := Aside0.mk hM.1
  have cd0 : (cd != cd) = false := by simp
  have mm0 : (MK != MK) = false := by simp
  clear heq hmk hhd hM hlt hmul hMK hE hE1 hE2
  go_enter Try.func4, Try.ntmps4
  go_wp2_with (first | ((with_reducible refine gate_callee (f := 13) rfl ?_); refine goesL_ (some 13) rfl rfl Try.func13 (by kernel_rfl) rfl #[.int .i64 a0] rfl (by (try simp only [List.map_toArray, List.map_cons, List.map_nil]); first | done | rfl) ?_; (with_reducible refine (spec_PlanePoints.calls kv a0 E cd _ SSP.out).mono ?_); rintro e w1 ⟨v1, rfl, ho0, hb⟩; refine ⟨_, rfl, ?_⟩; have n0_ := Aside0.mk (Kd.N_lower (Kd.N_mono (ok' := fun k => k < w1.heap.size) (Kd.N_bound ho0) (fun k hk => hk.2)) (below_size (by repeat (first | (with_reducible first | exact HB.out | apply below_alloc | apply pw_below_drewN | apply below_drew1) | exact HB.out)))); have n1_ := Aside0.mk (below_step (by repeat (first | (with_reducible first | exact HB.out | apply below_alloc | apply pw_below_drewN | apply below_drew1) | exact HB.out)) hb); clear HB; have HW := n0_; have HB := n1_; clear n0_ n1_; clear hb ho0; obtain ⟨A1, c1, e_⟩ := Kd.N_slice HW.out; subst e_) | ((with_reducible refine gate_callee (f := 14) rfl ?_); refine goesL_ (some 18) rfl rfl Try.func14 (by kernel_rfl) rfl #[.int .i64 a0] rfl (by (try simp only [List.map_toArray, List.map_cons, List.map_nil]); first | done | rfl) ?_; (with_reducible refine (impl_PlanePoints.callsS kv a0 E cd _ SIM.out).mono ?_); rintro e w2 ⟨v2, rfl, ho0, hb⟩; refine ⟨_, rfl, ?_⟩; have n0_ := Aside0.mk (Kd.S_lower (Kd.S_mono (ok' := fun k => w1.heap.size ≤ k) ho0 (fun k hk => hk)) (below_size (by repeat (first | (with_reducible first | exact HB.out | apply below_alloc | apply pw_below_drewN | apply below_drew1) | exact HB.out)))); have n1_ := Aside0.mk (Kd.N_below (by (with_reducible repeat (first | apply Kd.N_alloc | apply Kd.N_drewN | apply Kd.N_drew)); exact HW.out) hb); have n2_ := Aside0.mk (below_step (by repeat (first | (with_reducible first | exact HB.out | apply below_alloc | apply pw_below_drewN | apply below_drew1) | exact HB.out)) hb); clear HW HB; have HG := n0_; have HW := n1_; have HB := n2_; clear n0_ n1_ n2_; clear hb ho0; obtain ⟨A2, c2, e_⟩ := Kd.S_slice HG.out; subst e_) | ((with_reducible refine gate_callee (f := 15) rfl ?_); refine goesL_ (some 23) rfl rfl Try.func15 (by kernel_rfl) rfl #[.slice A2 E.length c2, .slice A1 E.length c1] rfl (by (try simp only [List.map_toArray, List.map_cons, List.map_nil]); first | done | rfl) ?_; (with_reducible refine (laws_eqInt64SS.calls keq _ _ E _ _ E true _ ?side1 ?side2 ?side3 ?side4 SEQ.out).mono ?_); (case side1 => repeat (first | exact (Kd.S_reads' HG.out).2.2 | (with_reducible refine Kd.C_alloc ?_ _) | (with_reducible refine Kd.C_drewN ?_ _) | (with_reducible refine Kd.C_drew ?_))); (case side2 => exact (Kd.S_reads' HG.out).2.1); (case side3 => repeat (first | exact (Kd.N_reads' HW.out).2.2 | (with_reducible refine Kd.C_alloc ?_ _) | (with_reducible refine Kd.C_drewN ?_ _) | (with_reducible refine Kd.C_drew ?_))); (case side4 => exact (Kd.N_reads' HW.out).2.1); rintro e w3 ⟨rfl, hb⟩; refine ⟨_, rfl, ?_⟩; (try replace hb := hb.below); have n0_ := Aside0.mk (Kd.S_below (by (with_reducible repeat (first | apply Kd.S_alloc | apply Kd.S_drewN | apply Kd.S_drew)); exact HG.out) hb); have n1_ := Aside0.mk (Kd.N_below (by (with_reducible repeat (first | apply Kd.N_alloc | apply Kd.N_drewN | apply Kd.N_drew)); exact HW.out) hb); have n2_ := Aside0.mk (below_step (by repeat (first | (with_reducible first | exact HB.out | apply below_alloc | apply pw_below_drewN | apply below_drew1) | exact HB.out)) hb); clear HG HW HB; have HG := n0_; have HW := n1_; have HB := n2_; clear n0_ n1_ n2_; clear hb) | ((with_reducible refine gate_callee (f := 16) rfl ?_); refine goesL_ (some 32) rfl rfl Try.func16 (by kernel_rfl) rfl #[.slice A2 E.length c2, .int .i64 1] rfl (by (try simp only [List.map_toArray, List.map_cons, List.map_nil]); first | done | rfl) ?_; (with_reducible refine (markSSk_calls kmk (.slice A2 E.length c2) E 1 MK m w _ (fun k => w1.heap.size ≤ k) ?side1 ?side2 SMK.out).mono ?_); (case side1 => exact (by repeat (first | (with_reducible first | exact HB.out | apply below_alloc | apply pw_below_drewN | apply below_drew1) | exact HB.out))); (case side2 => exact (by (with_reducible repeat (first | apply Kd.S_alloc | apply Kd.S_drewN | apply Kd.S_drew)); exact HG.out)); rintro e w4 ⟨rfl, hs, hb, hkp⟩; refine ⟨_, rfl, ?_⟩; have n0_ := Aside0.mk (hs); have n1_ := Aside0.mk (Kd.N_kept (by (with_reducible repeat (first | apply Kd.N_alloc | apply Kd.N_drewN | apply Kd.N_drew)); exact HW.out) hkp (fun k (hk : k < w1.heap.size) (hs : w1.heap.size ≤ k) => by omega)); have n2_ := Aside0.mk (hb); clear HG HW HB; have HG := n0_; have HW := n1_; have HB := n2_; clear n0_ n1_ n2_; clear hb hkp hs) | ((with_reducible refine gate_callee (f := 17) rfl ?_); refine goesL_ (some 35) rfl rfl Try.func17 (by kernel_rfl) rfl #[.slice A2 E.length c2, .int .i64 1] rfl (by (try simp only [List.map_toArray, List.map_cons, List.map_nil]); first | done | rfl) ?_; refine calls_of_args (args' := #[.slice A2 m.length c2, .int .i64 1]) (by rw [ML.out]) ?_; (with_reducible refine (laws_heldInt64SS.calls khd _ _ m 1 MK _ ?side1 ?side2 SHD.out).mono ?_); (case side1 => have hz_ := (Kd.S_reads' HG.out).2.2; repeat (first | exact hz_ | (with_reducible refine Kd.C_alloc ?_ _) | (with_reducible refine Kd.C_drewN ?_ _) | (with_reducible refine Kd.C_drew ?_))); (case side2 => rw [ML.out]; exact (Kd.S_reads' HG.out).2.1); rintro e w5 ⟨rfl, hb⟩; refine ⟨_, rfl, ?_⟩; (try replace hb := hb.below); have n0_ := Aside0.mk (Kd.S_below (by (with_reducible repeat (first | apply Kd.S_alloc | apply Kd.S_drewN | apply Kd.S_drew)); exact HG.out) hb); have n1_ := Aside0.mk (Kd.N_below (by (with_reducible repeat (first | apply Kd.N_alloc | apply Kd.N_drewN | apply Kd.N_drew)); exact HW.out) hb); have n2_ := Aside0.mk (below_step (by repeat (first | (with_reducible first | exact HB.out | apply below_alloc | apply pw_below_drewN | apply below_drew1) | exact HB.out)) hb); clear HG HW HB; have HG := n0_; have HW := n1_; have HB := n2_; clear n0_ n1_ n2_; clear hb) | ((with_reducible refine gate_callee (f := 14) rfl ?_); refine goesL_ (some 43) rfl rfl Try.func14 (by kernel_rfl) rfl #[.int .i64 a0] rfl (by (try simp only [List.map_toArray, List.map_cons, List.map_nil]); first | done | rfl) ?_; (with_reducible refine (impl_PlanePoints.callsS kv a0 E cd _ SIM.out).mono ?_); rintro e w6 ⟨v6, rfl, ho0, hb⟩; refine ⟨_, rfl, ?_⟩; have n0_ := Aside0.mk (Kd.S_lower ho0 (below_size (by repeat (first | (with_reducible first | exact HB.out | apply below_alloc | apply pw_below_drewN | apply below_drew1) | exact HB.out)))); have n1_ := Aside0.mk (Kd.S_below (by (with_reducible repeat (first | apply Kd.S_alloc | apply Kd.S_drewN | apply Kd.S_drew)); exact HG.out) hb); have n2_ := Aside0.mk (Kd.N_below (by (with_reducible repeat (first | apply Kd.N_alloc | apply Kd.N_drewN | apply Kd.N_drew)); exact HW.out) hb); have n3_ := Aside0.mk (below_step (by repeat (first | (with_reducible first | exact HB.out | apply below_alloc | apply pw_below_drewN | apply below_drew1) | exact HB.out)) hb); clear HG HW HB; have HZ := n0_; have HG := n1_; have HW := n2_; have HB := n3_; clear n0_ n1_ n2_ n3_; clear hb ho0; obtain ⟨A6, c6, e_⟩ := Kd.S_slice HZ.out; subst e_) | ((with_reducible refine gate_callee (f := 15) rfl ?_); refine goesL_ (some 48) rfl rfl Try.func15 (by kernel_rfl) rfl #[.slice A6 E.length c6, .slice A1 E.length c1] rfl (by (try simp only [List.map_toArray, List.map_cons, List.map_nil]); first | done | rfl) ?_; (with_reducible refine (laws_eqInt64SS.calls keq _ _ E _ _ E true _ ?side1 ?side2 ?side3 ?side4 SEQ.out).mono ?_); (case side1 => repeat (first | exact (Kd.S_reads' HZ.out).2.2 | (with_reducible refine Kd.C_alloc ?_ _) | (with_reducible refine Kd.C_drewN ?_ _) | (with_reducible refine Kd.C_drew ?_))); (case side2 => exact (Kd.S_reads' HZ.out).2.1); (case side3 => repeat (first | exact (Kd.N_reads' HW.out).2.2 | (with_reducible refine Kd.C_alloc ?_ _) | (with_reducible refine Kd.C_drewN ?_ _) | (with_reducible refine Kd.C_drew ?_))); (case side4 => exact (Kd.N_reads' HW.out).2.1); rintro e w7 ⟨rfl, hb⟩; refine ⟨_, rfl, ?_⟩; (try replace hb := hb.below); have n0_ := Aside0.mk (Kd.S_below (by (with_reducible repeat (first | apply Kd.S_alloc | apply Kd.S_drewN | apply Kd.S_drew)); exact HG.out) hb); have n1_ := Aside0.mk (below_step (by repeat (first | (with_reducible first | exact HB.out | apply below_alloc | apply pw_below_drewN | apply below_drew1) | exact HB.out)) hb); clear HG HB; have HG := n0_; have HB := n1_; clear n0_ n1_; clear hb) | ((with_reducible refine gate_callee (f := 17) rfl ?_); refine goesL_ (some 57) rfl rfl Try.func17 (by kernel_rfl) rfl #[.slice A2 E.length c2, .int .i64 1] rfl (by (try simp only [List.map_toArray, List.map_cons, List.map_nil]); first | done | rfl) ?_; refine calls_of_args (args' := #[.slice A2 m.length c2, .int .i64 1]) (by rw [ML.out]) ?_; (with_reducible refine (laws_heldInt64SS.calls khd _ _ m 1 MK _ ?side1 ?side2 SHD.out).mono ?_); (case side1 => have hz_ := (Kd.S_reads' HG.out).2.2; repeat (first | exact hz_ | (with_reducible refine Kd.C_alloc ?_ _) | (with_reducible refine Kd.C_drewN ?_ _) | (with_reducible refine Kd.C_drew ?_))); (case side2 => rw [ML.out]; exact (Kd.S_reads' HG.out).2.1); rintro e w8 ⟨rfl, hb⟩; refine ⟨_, rfl, ?_⟩; (try replace hb := hb.below); have n0_ := Aside0.mk (below_step (by repeat (first | (with_reducible first | exact HB.out | apply below_alloc | apply pw_below_drewN | apply below_drew1) | exact HB.out)) hb); clear HB; have HB := n0_; clear n0_; clear hb))
  go_ret
  exact ⟨rfl, (by repeat (first | (with_reducible first | exact HB.out | apply below_alloc | apply pw_below_drewN | apply below_drew1) | exact HB.out))⟩
end Go.Proofs.Ytockngphfpedkaa.XFnExactPlanePoints
