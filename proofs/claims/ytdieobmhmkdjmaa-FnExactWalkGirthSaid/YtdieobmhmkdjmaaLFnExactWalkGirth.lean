/- What the functions that FnExactWalkGirth reaches compute. -/
import Derived.Test.YtdieobmhmkdjmaaLFnExactWalkGirthp2
import Derived.Test.YtdieobmhmkdjmaaGr
namespace Go.Proofs.Ytdieobmhmkdjmaa.XFnExactWalkGirth
open Go.RowKit Go.Proofs.YtdieobmhmkdjmaaW.PrintWords Go.Proofs.YtdieobmhmkdjmaaW.PrintLast Go.Proofs.Ytdieobmhmkdjmaa.B
open Classical
set_option linter.unusedVariables false
set_option linter.unusedSimpArgs false
set_option linter.unusedSectionVars false

section
variable {n : Int} {m : Nat} {l : List S60} (h : BaseOK n (m : Int) l) {first : Nat} (hf : first < 2 * l.length)
include h hf
theorem impl_girthFrom.ev_3 {N : Nat} (hN : N = 2 * l.length) {P : Nat → Prop} {j : Nat} (hj : j < N) {S : Nat} (hS : S < 2 ^ m) (hSP : ∀ r, S.testBit r = true ↔ r < m ∧ P (j * m + r)) (most len : Int) (home : Int) (X : List Int) (R : Int)
    (next : ∀ Y, RowsP N m Y (PtR m l N P j N) → Ev (fun q => impl_girthFrom.l2 q (first : Int) most (N : Int) home len Y X (N : Int) ((j : Int) + 1) n (m : Int) l) R) (d : Nat) :
    ∀ (t : Nat) (Y : List Int), t + d = N → RowsP N m Y (PtR m l N P j t) →
    Ev (fun q => impl_girthFrom.l3 q (first : Int) most (N : Int) home len Y (j : Int) (S : Int) (stepV m l (j : Int)).2.1 X (N : Int) (j : Int) (N : Int) (t : Int) n (m : Int) l) R := by
  have hl := h.2.2.2.2.2.1
  have hm := h.2.2.1
  have hm1 := h.2.2.2.1
  have hp := pow62 (n := m) (by omega)
  induction d with
  | zero =>
    intro t Y e hY
    refine Ev.step (fun k => impl_girthFrom.l3.eq_2 ..) ?_
    simp only [if_neg (show ¬ ((t : Int) < (N : Int)) by omega)]
    rw [w64 (by omega) (by omega)]
    have : t = N := by omega
    exact next Y (this ▸ hY)
  | succ d ih =>
    intro t Y e hY
    refine Ev.step (fun k => impl_girthFrom.l3.eq_2 ..) ?_
    have b := stepV_bd h (s := (t : Int)) (by omega) (by omega)
    have hN' : ((N : Int)) < 1000 := by omega
    simp only [if_pos (show (t : Int) < (N : Int) by omega), impl_step.sp h (s := (t : Int)) (by omega) (by omega), Option.bind_some]
    rw [w64 (n := (t : Int) + 1) (by omega) (by omega), xor1' (a := j) (by omega), ← rv_cast, w64 (n := (m : Int) - _) (by omega) (by omega)]
    by_cases c1 : (stepV m l (t : Int)).1 = (stepV m l (j : Int)).2.1
    · simp only [if_pos c1]
      by_cases c2 : (t : Int) = ((rv j : Nat) : Int)
      · simp only [if_pos c2]
        refine ih (t + 1) Y (by omega) (hY.congr fun x _ => ?_)
        rw [PtR_succ]
        refine ⟨.inl, fun a => a.elim id ?_⟩
        rintro ⟨r, a1, _, a3⟩
        exact absurd (by omega) ((Tr_split a1).1 a3).2.1
      · have hYl := hY.1
        simp only [if_neg c2, if_pos (show (0 : Int) ≤ (t : Int) by omega), if_pos (show (t : Int) < (Y.length : Int) by omega), if_pos b.2.2.2.2.1, if_pos (show 0 ≤ (m : Int) - (stepV m l (t : Int)).2.2 by omega), impl_all.sp (n := (m : Int)) (by omega) (by omega), Option.bind_some]
        generalize hv : (stepV m l (t : Int)).2.2 = V at *
        obtain ⟨v, rfl⟩ := Int.eq_ofNat_of_zero_le b.2.2.2.2.1
        obtain ⟨c, e1, e2, e3⟩ := rot_bits m v S (by omega) (by omega) (by omega) hS
        rw [Int.toNat_natCast, Int.toNat_natCast, e1]
        refine ih (t + 1) _ (by omega) (hY.or (by omega) (by omega) e2 fun s r hs hr => ?_)
        rw [PtR_succ]
        refine or_congr Iff.rfl ?_
        constructor
        · rintro ⟨r0, a1, a2, a3⟩
          have a4 := ((Tr_split a1).1 a3).2.2
          rw [hv, Int.toNat_natCast, idx_inj hr (Nat.mod_lt _ (by omega))] at a4
          exact ⟨a4.1, (e3 r).2 ⟨hr, r0, a1, (hSP r0).2 ⟨a1, a2⟩, a4.2.symm⟩⟩
        · rintro ⟨rfl, a⟩
          obtain ⟨_, r0, a1, a2, a3⟩ := (e3 r).1 a
          refine ⟨r0, a1, ((hSP r0).1 a2).2, (Tr_split a1).2 ⟨c1, fun a => c2 (by omega), ?_⟩⟩
          rw [hv, Int.toNat_natCast, a3]
    · simp only [if_neg c1]
      refine ih (t + 1) Y (by omega) (hY.congr fun x _ => ?_)
      rw [PtR_succ]
      refine ⟨.inl, fun a => a.elim id ?_⟩
      rintro ⟨r, a1, _, a3⟩
      exact absurd ((Tr_split a1).1 a3).1 c1
theorem impl_girthFrom.ev_2 {N : Nat} (hN : N = 2 * l.length) {P : Nat → Prop} (most len : Int) (home : Int) (hlen : 0 ≤ len ∧ len ≤ 100) (X : List Int) (hX : RowsP N m X P) (R : Int)
    (next : ∀ Y, RowsP N m Y (PtR m l N P N 0) → Ev (fun q => impl_girthFrom.l0 q (first : Int) most (N : Int) home Y (len + 1) n (m : Int) l) R) (d : Nat) :
    ∀ (j : Nat) (Y : List Int), j + d = N → RowsP N m Y (PtR m l N P j 0) →
    Ev (fun q => impl_girthFrom.l2 q (first : Int) most (N : Int) home len Y X (N : Int) (j : Int) n (m : Int) l) R := by
  have hl := h.2.2.2.2.2.1
  have hXl := hX.1
  induction d with
  | zero =>
    intro j Y e hY
    refine Ev.step (fun k => impl_girthFrom.l2.eq_2 ..) ?_
    simp only [if_neg (show ¬ ((j : Int) < (N : Int)) by omega)]
    rw [w64 (by omega) (by omega)]
    have : j = N := by omega
    exact next Y (this ▸ hY)
  | succ d ih =>
    intro j Y e hY
    refine Ev.step (fun k => impl_girthFrom.l2.eq_2 ..) ?_
    simp only [if_pos (show (j : Int) < (N : Int) by omega), if_pos (show (0 : Int) ≤ (j : Int) by omega), if_pos (show (j : Int) < (X.length : Int) by omega)]
    rw [w64 (by omega) (by omega)]
    obtain ⟨S, e1, e2, e3⟩ := hX.2 j (by omega)
    rw [e1]
    by_cases c : (S : Int) = 0
    · simp only [if_pos c]
      refine ih (j + 1) Y (by omega) (hY.congr fun x _ => ?_)
      rw [PtR_next]
      refine PtR_none fun r hr a => ?_
      have := (e3 r).2 ⟨hr, a⟩
      rw [show S = 0 by omega] at this
      simp at this
    · simp only [if_neg c, impl_step.sp h (s := (j : Int)) (by omega) (by omega), Option.bind_some]
      refine impl_girthFrom.ev_3 h hf hN (P := P) (j := j) (by omega) e2 e3 most len home X R (fun Z hZ => ?_) N 0 Y (by omega) hY
      exact ih (j + 1) Z (by omega) (hZ.congr fun x _ => PtR_next.symm)
theorem impl_girthFrom.ev_1 {N : Nat} (hN : N = 2 * l.length) {k : Nat} (most len : Int) (hlen : 0 ≤ len ∧ len ≤ 100) (X : List Int) (hX : RowsP N m X (Lv m l first k)) (R : Int)
    (yes : Found m l first k → R = len)
    (next : ¬ Found m l first k → ∀ Y, RowsP N m Y (Lv m l first (k + 1)) → Ev (fun q => impl_girthFrom.l0 q (first : Int) most (N : Int) (stepV m l (first : Int)).1 Y (len + 1) n (m : Int) l) R) (d : Nat) :
    ∀ (j : Nat), j + d = N → (∀ s, s < j → ¬ ((stepV m l (s : Int)).2.1 = (stepV m l (first : Int)).1 ∧ Lv m l first k (s * m + 0) ∧ rv s ≠ first)) →
    Ev (fun q => impl_girthFrom.l1 q (first : Int) most (N : Int) (stepV m l (first : Int)).1 X len X (N : Int) (j : Int) n (m : Int) l) R := by
  have hl := h.2.2.2.2.2.1
  have hXl := hX.1
  have hm := h.2.2.1
  induction d with
  | zero =>
    intro j e hj
    refine Ev.step (fun k => impl_girthFrom.l1.eq_2 ..) ?_
    simp only [if_neg (show ¬ ((j : Int) < (N : Int)) by omega), if_pos (show (0 : Int) ≤ (N : Int) by omega), Int.toNat_natCast, if_pos (show N ≤ 35184372088832 by omega), hXl]
    refine impl_girthFrom.ev_2 h hf hN (P := Lv m l first k) most len _ hlen X hX R (fun Y hY => next ?_ Y (hY.congr fun x _ => ?_)) N 0 _ (by omega) ((RowsP.zero N m).congr fun x _ => ⟨False.elim, PtR_zero⟩)
    · rw [Found_iff (by omega)]
      rintro ⟨s, a, b⟩
      exact hj s (by omega) b
    · rw [hN]; exact PtR_all (by omega)
  | succ d ih =>
    intro j e hj
    refine Ev.step (fun k => impl_girthFrom.l1.eq_2 ..) ?_
    simp only [if_pos (show (j : Int) < (N : Int) by omega), if_pos (show (0 : Int) ≤ (j : Int) by omega), if_pos (show (j : Int) < (X.length : Int) by omega), impl_step.sp h (s := (j : Int)) (by omega) (by omega), Option.bind_some]
    rw [w64 (by omega) (by omega), xor1' (a := j) (by omega), ← rv_cast, ofInt_and1]
    obtain ⟨S, e1, e2, e3⟩ := hX.2 j (by omega)
    rw [e1]
    have e4 := e3 0
    rw [Nat.testBit_zero, decide_eq_true_eq] at e4
    have go : ¬ ((stepV m l (j : Int)).2.1 = (stepV m l (first : Int)).1 ∧ Lv m l first k (j * m + 0) ∧ rv j ≠ first) → Ev (fun q => impl_girthFrom.l1 q (first : Int) most (N : Int) (stepV m l (first : Int)).1 X len X (N : Int) ((j : Int) + 1) n (m : Int) l) R := fun a => ih (j + 1) (by omega) fun s hs => by
      rcases Nat.lt_succ_iff_lt_or_eq.1 hs with b | rfl
      · exact hj s b
      · exact a
    by_cases c1 : (stepV m l (j : Int)).2.1 = (stepV m l (first : Int)).1
    · simp only [if_pos c1]
      by_cases c2 : (S : Int) % 2 = 1
      · simp only [if_pos c2]
        by_cases c3 : ((rv j : Nat) : Int) = (first : Int)
        · simp only [if_pos c3]
          exact go fun a => a.2.2 (by omega)
        · simp only [if_neg c3]
          refine ev_some ((yes ?_).symm)
          rw [Found_iff (by omega)]
          exact ⟨j, by omega, c1, (e4.1 (by omega)).2, fun a => c3 (by omega)⟩
      · simp only [if_neg c2]
        exact go fun a => by have := e4.2 ⟨by omega, a.2.1⟩; omega
    · simp only [if_neg c1]
      exact go fun a => c1 a.1
theorem impl_girthFrom.ev_0 {N : Nat} (hN : N = 2 * l.length) (d : Nat) : ∀ (k : Nat) (X : List Int), k + 1 + d ≤ 100 → RowsP N m X (Lv m l first k) →
    Ev (fun q => impl_girthFrom.l0 q (first : Int) ((k + 1 + d : Nat) : Int) (N : Int) (stepV m l (first : Int)).1 X ((k + 1 : Nat) : Int) n (m : Int) l) ((Gf m l first d (k + 1) : Nat) : Int) := by
  induction d with
  | zero =>
    intro k X e hX
    refine Ev.step (fun k => impl_girthFrom.l0.eq_2 ..) ?_
    simp only [if_neg (show ¬ (((k + 1 : Nat) : Int) < ((k + 1 + 0 : Nat) : Int)) by omega)]
    exact ev_some rfl
  | succ d ih =>
    intro k X e hX
    refine Ev.step (fun k => impl_girthFrom.l0.eq_2 ..) ?_
    simp only [if_pos (show (((k + 1 : Nat) : Int) < ((k + 1 + (d + 1) : Nat) : Int)) by omega), hX.1]
    refine impl_girthFrom.ev_1 h hf hN (k := k) _ _ (by omega) X hX _ (fun a => ?_) (fun a Y hY => ?_) N 0 (by omega) (fun s a => by omega)
    · simp only [Gf, Nat.add_sub_cancel, if_pos a]
    · simp only [Gf, Nat.add_sub_cancel, if_neg a]
      have := ih (k + 1) Y (by omega) hY
      rw [show k + 1 + (d + 1) = k + 1 + 1 + d by omega]
      exact this
theorem impl_girthFrom.ev (most : Nat) (h1 : 1 ≤ most) (h2 : most ≤ 100) : Ev (fun q => impl_girthFrom.f q n (m : Int) l (first : Int) (most : Int)) ((Gf m l first (most - 1) 1 : Nat) : Int) := by
  have hl := h.2.2.2.2.2.1
  have hm := h.2.2.1
  have hm1 := h.2.2.2.1
  have hp := pow62 (n := m) (by omega)
  have b := stepV_bd h (s := (first : Int)) (by omega) (by omega)
  unfold impl_girthFrom.f
  simp only [impl_steps.sp hl, impl_step.sp h (s := (first : Int)) (by omega) (by omega), Option.bind_some, if_pos (show (0 : Int) ≤ 2 * (l.length : Int) by omega), if_pos (show (2 * (l.length : Int)).toNat ≤ 35184372088832 by omega), if_pos b.2.2.2.2.1, if_pos (show (0 : Int) ≤ (first : Int) by omega), List.length_replicate, if_pos (show (first : Int) < (((2 * (l.length : Int)).toNat : Nat) : Int) by omega)]
  rw [show (2 * (l.length : Int)).toNat = 2 * l.length by omega, show 2 * (l.length : Int) = ((2 * l.length : Nat) : Int) by omega, Int.toNat_natCast, shl_one b.2.2.2.2.1 (by omega)]
  have := impl_girthFrom.ev_0 h hf rfl (most - 1) 0 ((List.replicate (2 * l.length) 0).set first ((2 ^ (stepV m l (first : Int)).2.2.toNat : Nat) : Int)) (by omega) ?_
  · rw [show 0 + 1 + (most - 1) = most by omega] at this
    exact this
  · refine ⟨by simp, fun s hs => ?_⟩
    by_cases c : s = first
    · subst c
      refine ⟨_, rd_set_self _ _ (by simpa using hs) _, Nat.pow_lt_pow_right (by decide) (by omega), fun r => ?_⟩
      rw [Nat.testBit_two_pow, decide_eq_true_eq]
      unfold Lv
      omega
    · refine ⟨0, ?_, Nat.two_pow_pos m, fun r => ?_⟩
      · rw [rd_set_ne _ _ _ (fun a => c a.symm), rd_nat]; simp [hs]
      · rw [Nat.zero_testBit]
        refine ⟨fun a => (by cases a), fun a => absurd ?_ c⟩
        have a2 := a.2
        unfold Lv at a2
        exact ((idx_inj a.1 (by omega)).1 a2).1
end

noncomputable def wgirthR (n m : Int) (l : List S60) : Int × Int := if BaseOK n m l then (if Wf m.toNat l (2 * l.length) 0 15 = 15 then (0, 4) else ((Wf m.toNat l (2 * l.length) 0 15 : Nat), 0)) else (0, 1)
theorem spec_WalkGirth.ev (n m : Int) (l : List S60) : Ev (fun q => spec_WalkGirth.f q n m l) (wgirthR n m l) := by
  unfold spec_WalkGirth.f wgirthR
  refine Ev.bind (spec_l03Is.ev n m l) ?_
  by_cases h : BaseOK n m l
  · obtain ⟨M, rfl⟩ := Int.eq_ofNat_of_zero_le (show 0 ≤ m from by have := h.2.2.1; omega)
    simp only [h, decide_true, if_true, Int.toNat_natCast]
    refine Ev.bind (spec_l03Levels.ev h) ?_
    have := Wf_le (m := M) (l := l) (2 * l.length) 0 15 (by omega)
    unfold bestOf
    by_cases c : Wf M l (2 * l.length) 0 15 = 15
    · simp only [if_pos c, if_true]
      exact Ev.now _
    · simp only [if_neg c, if_neg (show ¬ (((Wf M l (2 * l.length) 0 15 : Nat) : Int) = 0) by omega)]
      exact Ev.now _
  · simp only [h, decide_false, Bool.false_eq_true, if_false]
    exact Ev.now _
theorem impl_WalkGirth.ev_l {n : Int} {m : Nat} {l : List S60} (h : BaseOK n (m : Int) l) (d : Nat) : ∀ (i most : Nat), i + d = 2 * l.length → 1 ≤ most → most ≤ 15 →
    Ev (fun q => impl_WalkGirth.l0 q (most : Int) (2 * (l.length : Int)) (i : Int) n (m : Int) l) (if Wf m l d i most = 15 then (0, 4) else ((Wf m l d i most : Nat), 0)) := by
  have hl := h.2.2.2.2.2.1
  induction d with
  | zero =>
    intro i most e h1 h2
    refine Ev.step (fun k => impl_WalkGirth.l0.eq_2 ..) ?_
    simp only [if_neg (show ¬ ((i : Int) < 2 * (l.length : Int)) by omega), Wf]
    by_cases c : most = 15
    · simp only [if_pos (show (most : Int) > 14 by omega)]
      exact ev_some (if_pos c).symm
    · simp only [if_neg (show ¬ (most : Int) > 14 by omega)]
      exact ev_some (if_neg c).symm
  | succ d ih =>
    intro i most e h1 h2
    refine Ev.step (fun k => impl_WalkGirth.l0.eq_2 ..) ?_
    simp only [if_pos (show (i : Int) < 2 * (l.length : Int) by omega)]
    refine Ev.bind (impl_girthFrom.ev h (first := i) (by omega) most h1 (by omega)) ?_
    rw [w64 (by omega) (by omega)]
    simp only [Wf]
    have := Gf_le m l i (most - 1) 1
    exact ih (i + 1) _ (by omega) (by omega) (by omega)
theorem impl_WalkGirth.ev (n m : Int) (l : List S60) : Ev (fun q => impl_WalkGirth.f q n m l) (wgirthR n m l) := by
  unfold impl_WalkGirth.f wgirthR
  simp only [impl_IsBase.sp, Option.bind_some]
  by_cases h : BaseOK n m l
  · obtain ⟨M, rfl⟩ := Int.eq_ofNat_of_zero_le (show 0 ≤ m from by have := h.2.2.1; omega)
    simp only [h, decide_true, if_true, impl_steps.sp h.2.2.2.2.2.1, Option.bind_some, Int.toNat_natCast]
    exact impl_WalkGirth.ev_l h (2 * l.length) 0 15 (by omega) (by omega) (by omega)
  · simp only [h, decide_false, Bool.false_eq_true, if_false]
    exact Ev.now _

end Go.Proofs.Ytdieobmhmkdjmaa.XFnExactWalkGirth
