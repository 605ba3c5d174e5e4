/- What the functions that FnExactWalkGirth reaches compute. -/
import Derived.Test.YtdieobmhmkdjmaaLFnExactWalkGirthp1
import Derived.Test.YtdieobmhmkdjmaaGr
namespace Go.Proofs.Ytdieobmhmkdjmaa.XFnExactWalkGirth
open Go.RowKit Go.Proofs.YtdieobmhmkdjmaaW.PrintWords Go.Proofs.YtdieobmhmkdjmaaW.PrintLast Go.Proofs.Ytdieobmhmkdjmaa.B
open Classical
set_option linter.unusedVariables false
set_option linter.unusedSimpArgs false
set_option linter.unusedSectionVars false

section
variable {n : Int} {m : Nat} {l : List S60} (h : BaseOK n (m : Int) l) {first : Nat} (hf : first < 2 * l.length)
include h hf
theorem spec_l03Levels.ev_1 {N : Nat} (hN : N = 2 * l.length) (most : Nat) (hmost : most ≤ 15) (R : Int) (d : Nat) : ∀ (k : Nat) (X : List Bool), k + 1 + d = most → Marks (N * m) X (Lv m l first k) →
    Ev (fun q => spec_l03Levels.l0 q (N : Int) (m : Int) (bestOf (Gf m l first d (k + 1))) ((first : Int) + 1) n (m : Int) l) R →
    Ev (fun q => spec_l03Levels.l1 q (N : Int) (m : Int) (bestOf most) (first : Int) (stepV m l (first : Int)).1 X ((k + 1 : Nat) : Int) n (m : Int) l) R := by
  have hl := h.2.2.2.2.2.1
  have hm := h.2.2.1
  have hm1 := h.2.2.2.1
  have hNm : N * m ≤ 32 * 62 := Nat.mul_le_mul (by omega) (by omega)
  have hw : wrap64 ((N : Int) * (m : Int)) = ((N * m : Nat) : Int) := by rw [← Int.natCast_mul, w64 (by omega) (by omega)]
  induction d with
  | zero =>
    intro k X e hX hR
    refine Ev.step (fun k => spec_l03Levels.l1.eq_2 ..) ?_
    have out : Ev (fun q => spec_l03Levels.j2 q (N : Int) (m : Int) (bestOf most) (first : Int) (stepV m l (first : Int)).1 X ((k + 1 : Nat) : Int) false n (m : Int) l) R := by
      refine Ev.step (fun k => spec_l03Levels.j2.eq_2 ..) ?_
      simp only [Bool.false_eq_true, if_false]
      rw [w64 (by omega) (by omega)]
      simp only [Gf] at hR
      rw [← e]
      exact hR
    by_cases c : ((k + 1 : Nat) : Int) ≤ 14
    · simp only [if_pos c]
      have b : bestOf most = (most : Int) := if_neg (by omega)
      simp only [if_neg (show ¬ bestOf most = 0 by omega), decide_eq_false (show ¬ (((k + 1 : Nat) : Int) < bestOf most) by omega)]
      exact out
    · simp only [if_neg c]
      exact out
  | succ d ih =>
    intro k X e hX hR
    refine Ev.step (fun k => spec_l03Levels.l1.eq_2 ..) ?_
    have b : bestOf (k + 1) = ((k + 1 : Nat) : Int) := if_neg (by omega)
    have inn : Ev (fun q => spec_l03Levels.j2 q (N : Int) (m : Int) (bestOf most) (first : Int) (stepV m l (first : Int)).1 X ((k + 1 : Nat) : Int) true n (m : Int) l) R := by
      refine Ev.step (fun k => spec_l03Levels.j2.eq_2 ..) ?_
      rw [hw]
      simp only [if_true, Int.toNat_natCast, if_pos (show (0 : Int) ≤ ((N * m : Nat) : Int) by omega), if_pos (show N * m ≤ 281474976710656 by omega)]
      refine spec_l03Levels.ev_2 h hf hN (k := k) (bestOf most) _ (by omega) X hX R (fun a => ?_) (fun a Y hY => ?_) (N * m) 0 _ false (by omega) ⟨fun a => (by cases a), fun ⟨s, a, _⟩ => (by omega)⟩ ((Marks.zero (N * m)).congr fun x _ => ⟨False.elim, PtM_zero⟩)
      · simp only [Gf, Nat.add_sub_cancel, if_pos a] at hR
        rw [b] at hR
        exact hR
      · simp only [Gf, Nat.add_sub_cancel, if_neg a] at hR
        exact ih (k + 1) Y (by omega) hY hR
    simp only [if_pos (show ((k + 1 : Nat) : Int) ≤ 14 by omega)]
    unfold bestOf at inn ⊢
    by_cases c : most = 15
    · simp only [if_pos c, if_true] at inn ⊢
      exact inn
    · simp only [if_neg c, if_neg (show ¬ ((most : Int) = 0) by omega), decide_eq_true (show (((k + 1 : Nat) : Int) < (most : Int)) by omega)] at inn ⊢
      exact inn
end
theorem spec_l03Levels.ev_0 {n : Int} {m : Nat} {l : List S60} (h : BaseOK n (m : Int) l) {N : Nat} (hN : N = 2 * l.length) (d : Nat) : ∀ (first most : Nat), first + d = N → 1 ≤ most → most ≤ 15 →
    Ev (fun q => spec_l03Levels.l0 q (N : Int) (m : Int) (bestOf most) (first : Int) n (m : Int) l) (bestOf (Wf m l d first most)) := by
  have hl := h.2.2.2.2.2.1
  have hm := h.2.2.1
  have hm1 := h.2.2.2.1
  have hNm : N * m ≤ 32 * 62 := Nat.mul_le_mul (by omega) (by omega)
  have hw : wrap64 ((N : Int) * (m : Int)) = ((N * m : Nat) : Int) := by rw [← Int.natCast_mul, w64 (by omega) (by omega)]
  induction d with
  | zero =>
    intro first most e h1 h2
    refine Ev.step (fun k => spec_l03Levels.l0.eq_2 ..) ?_
    simp only [if_neg (show ¬ ((first : Int) < (N : Int)) by omega), Wf]
    exact Ev.now _
  | succ d ih =>
    intro first most e h1 h2
    refine Ev.step (fun k => spec_l03Levels.l0.eq_2 ..) ?_
    have b := stepV_bd h (s := (first : Int)) (by omega) (by omega)
    simp only [if_pos (show (first : Int) < (N : Int) by omega)]
    refine Ev.bind (ev_eq fun _ => spec_l03Step.sp h (s := (first : Int)) (by omega) (by omega)) ?_
    rw [hw]
    simp only [Int.toNat_natCast, if_pos (show (0 : Int) ≤ ((N * m : Nat) : Int) by omega), if_pos (show N * m ≤ 281474976710656 by omega)]
    refine Ev.bind (ev_eq fun _ => rfl) ?_
    simp only [List.length_replicate, Wf]
    have hg := Gf_le m l first (most - 1) 1
    have nx := ih (first + 1) (Gf m l first (most - 1) 1) (by omega) (by omega) (by omega)
    have hv0 := b.2.2.2.2.1
    have hv1 := b.2.2.2.2.2
    generalize hv : (stepV m l (first : Int)).2.2 = V at hv0 hv1 ⊢
    obtain ⟨v, rfl⟩ := Int.eq_ofNat_of_zero_le hv0
    have hi := idx_lt (N := N) (m := m) (s := first) (r := v) (by omega) (by omega)
    rw [← Int.natCast_mul, w64 (n := ((first * m : Nat) : Int)) (by omega) (by omega), ← Int.natCast_add, w64 (by omega) (by omega), Int.toNat_natCast]
    simp only [if_pos (show (0 : Int) ≤ ((first * m + v : Nat) : Int) by omega), if_pos (show ((first * m + v : Nat) : Int) < ((N * m : Nat) : Int) by omega)]
    refine spec_l03Levels.ev_1 h (first := first) (by omega) hN most h2 _ (most - 1) 0 _ (by omega) ((Marks.zero (N * m)).set hi fun x _ => ?_) nx
    unfold Lv
    rw [hv, Int.toNat_natCast]
    simp
theorem spec_l03Levels.ev {n : Int} {m : Nat} {l : List S60} (h : BaseOK n (m : Int) l) : Ev (fun q => spec_l03Levels.f q n (m : Int) l) (bestOf (Wf m l (2 * l.length) 0 15)) := by
  have hl := h.2.2.2.2.2.1
  unfold spec_l03Levels.f
  rw [w64 (by omega) (by omega), show 2 * (l.length : Int) = ((2 * l.length : Nat) : Int) by omega]
  exact spec_l03Levels.ev_0 h rfl (2 * l.length) 0 15 (by omega) (by omega) (by omega)


end Go.Proofs.Ytdieobmhmkdjmaa.XFnExactWalkGirth
