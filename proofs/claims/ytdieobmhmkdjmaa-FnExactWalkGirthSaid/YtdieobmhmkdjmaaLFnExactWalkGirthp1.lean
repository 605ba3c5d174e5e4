/- What the functions that FnExactWalkGirth reaches compute. -/
import Derived.Test.YtdieobmhmkdjmaaLFnExactWalkGirthp0
import Derived.Test.YtdieobmhmkdjmaaGr
namespace Go.Proofs.Ytdieobmhmkdjmaa.XFnExactWalkGirth
open Go.RowKit Go.Proofs.YtdieobmhmkdjmaaW.PrintWords Go.Proofs.YtdieobmhmkdjmaaW.PrintLast Go.Proofs.Ytdieobmhmkdjmaa.B
open Classical
set_option linter.unusedVariables false
set_option linter.unusedSimpArgs false
set_option linter.unusedSectionVars false

noncomputable def Wf (m : Nat) (l : List S60) : Nat → Nat → Nat → Nat
  | 0, _, most => most
  | d + 1, first, most => Wf m l d (first + 1) (Gf m l first (most - 1) 1)
theorem Wf_le {m : Nat} {l : List S60} (d : Nat) : ∀ first most, 1 ≤ most → 1 ≤ Wf m l d first most ∧ Wf m l d first most ≤ most := by
  induction d with
  | zero => intro first most h; simp only [Wf]; omega
  | succ d ih =>
    intro first most h
    simp only [Wf]
    have a := Gf_le m l first (most - 1) 1
    have b := ih (first + 1) (Gf m l first (most - 1) 1) (by omega)
    omega
/-- The best length so far, 0 for none, by the least length that is still too long. -/
def bestOf (most : Nat) : Int := if most = 15 then 0 else (most : Int)
/-- The list marks the numbers of P. -/
def Marks (K : Nat) (Z : List Bool) (P : Nat → Prop) : Prop := Z.length = K ∧ ∀ x : Nat, x < K → (rdOf false Z (x : Int) = true ↔ P x)
theorem Marks.congr {K : Nat} {Z : List Bool} {P Q : Nat → Prop} (h : Marks K Z P) (e : ∀ x, x < K → (P x ↔ Q x)) : Marks K Z Q := ⟨h.1, fun x hx => (h.2 x hx).trans (e x hx)⟩
theorem Marks.zero (K : Nat) : Marks K (List.replicate K false) fun _ => False := ⟨List.length_replicate .., fun x hx => by simp [rdOf, hx]⟩
theorem Marks.set {K : Nat} {Z : List Bool} {P Q : Nat → Prop} (h : Marks K Z P) {y : Nat} (hy : y < K) (e : ∀ x, x < K → (Q x ↔ P x ∨ x = y)) : Marks K (Z.set y true) Q := by
  refine ⟨by rw [List.length_set]; exact h.1, fun x hx => ?_⟩
  rw [e x hx, ← h.2 x hx]
  have := h.1
  unfold rdOf
  rw [Int.toNat_natCast]
  by_cases c : x = y
  · subst c
    simp [List.getD_eq_getElem?_getD, List.getElem?_set, this, hx]
  · simp only [List.getD_eq_getElem?_getD, List.getElem?_set, if_neg (fun a : y = x => c a.symm)]
    exact ⟨.inl, fun a => a.elim id fun b => absurd b c⟩
/-- As PtR, over the pairs one by one. -/
def PtM (m : Nat) (l : List S60) (N : Nat) (P : Nat → Prop) (j t x : Nat) : Prop := (∃ s, s < j ∧ P s ∧ ∃ t', t' < N ∧ Tr m l s t' x) ∨ (P j ∧ ∃ t', t' < t ∧ Tr m l j t' x)
section
variable {m : Nat} {l : List S60} {N : Nat} {P : Nat → Prop} {j t x : Nat}
theorem PtM_succ : PtM m l N P j (t + 1) x ↔ PtM m l N P j t x ∨ (P j ∧ Tr m l j t x) := by
  unfold PtM
  constructor
  · rintro (a | ⟨b, t', c, d⟩)
    · exact .inl (.inl a)
    · rcases Nat.lt_succ_iff_lt_or_eq.1 c with c | rfl
      · exact .inl (.inr ⟨b, t', c, d⟩)
      · exact .inr ⟨b, d⟩
  · rintro ((a | ⟨b, t', c, d⟩) | ⟨b, d⟩)
    · exact .inl a
    · exact .inr ⟨b, t', by omega, d⟩
    · exact .inr ⟨b, t, by omega, d⟩
theorem PtM_next : PtM m l N P (j + 1) 0 x ↔ PtM m l N P j N x := by
  unfold PtM
  constructor
  · rintro (⟨s, a, b⟩ | ⟨_, t', a, _⟩)
    · rcases Nat.lt_succ_iff_lt_or_eq.1 a with a | rfl
      · exact .inl ⟨s, a, b⟩
      · exact .inr b
    · omega
  · rintro (⟨s, a, b⟩ | a)
    · exact .inl ⟨s, by omega, b⟩
    · exact .inl ⟨j, by omega, a⟩
theorem PtM_none (h : ¬ P j) : PtM m l N P j 0 x ↔ PtM m l N P j N x := by
  unfold PtM
  constructor
  · rintro (a | ⟨_, t', a, _⟩)
    · exact .inl a
    · omega
  · rintro (a | ⟨b, _⟩)
    · exact .inl a
    · exact absurd b h
theorem PtM_zero : ¬ PtM m l N P 0 0 x := by
  rintro (⟨s, a, _⟩ | ⟨_, t', a, _⟩) <;> omega
theorem PtM_all {first k : Nat} : PtM m l (2 * l.length) (Lv m l first k) (2 * l.length * m) 0 x ↔ Lv m l first (k + 1) x := by
  unfold PtM
  rw [Lv]
  constructor
  · rintro (⟨s, a, c, t, d, e⟩ | ⟨_, t', a, _⟩)
    · exact ⟨s, a, c, t, d, e⟩
    · omega
  · rintro ⟨st, a, b, t, c, d⟩
    exact .inl ⟨st, a, b, t, c, d⟩
end
section
variable {n : Int} {m : Nat} {l : List S60} (h : BaseOK n (m : Int) l) {first : Nat} (hf : first < 2 * l.length)
include h hf
theorem spec_l03Levels.ev_3 {N : Nat} (hN : N = 2 * l.length) {P : Nat → Prop} {j : Nat} (hj : j < N * m) (hP : P j) (best len : Int) (home : Int) (X : List Bool) (fd : Bool) (R : Int)
    (next : ∀ Y, Marks (N * m) Y (PtM m l N P j N) → Ev (fun q => spec_l03Levels.l2 q (N : Int) (m : Int) best (first : Int) home X len Y fd ((j : Int) + 1) n (m : Int) l) R) (d : Nat) :
    ∀ (t : Nat) (Y : List Bool), t + d = N → Marks (N * m) Y (PtM m l N P j t) →
    Ev (fun q => spec_l03Levels.l3 q (N : Int) (m : Int) best (first : Int) home X len Y fd (j : Int) ((j % m : Nat) : Int) (stepV m l ((j / m : Nat) : Int)).2.1 ((rv (j / m) : Nat) : Int) (t : Int) n (m : Int) l) R := by
  have hl := h.2.2.2.2.2.1
  have hm := h.2.2.1
  have hm1 := h.2.2.2.1
  have hNm : N * m ≤ 32 * 62 := Nat.mul_le_mul (by omega) (by omega)
  induction d with
  | zero =>
    intro t Y e hY
    refine Ev.step (fun k => spec_l03Levels.l3.eq_2 ..) ?_
    simp only [if_neg (show ¬ ((t : Int) < (N : Int)) by omega)]
    rw [w64 (by omega) (by omega)]
    have : t = N := by omega
    exact next Y (this ▸ hY)
  | succ d ih =>
    intro t Y e hY
    refine Ev.step (fun k => spec_l03Levels.l3.eq_2 ..) ?_
    have b := stepV_bd h (s := (t : Int)) (by omega) (by omega)
    simp only [if_pos (show (t : Int) < (N : Int) by omega), spec_l03Step.sp h (s := (t : Int)) (by omega) (by omega), Option.bind_some]
    rw [w64 (n := (t : Int) + 1) (by omega) (by omega)]
    by_cases c1 : (stepV m l (t : Int)).1 = (stepV m l ((j / m : Nat) : Int)).2.1
    · simp only [if_pos c1]
      by_cases c2 : (t : Int) = ((rv (j / m) : Nat) : Int)
      · simp only [if_pos c2]
        refine ih (t + 1) Y (by omega) (hY.congr fun x _ => ?_)
        rw [PtM_succ]
        exact ⟨.inl, fun a => a.elim id fun a => absurd (by omega) a.2.2.1⟩
      · simp only [if_neg c2, if_neg (show ¬ ((m : Int) = 0) by omega)]
        generalize hv : (stepV m l (t : Int)).2.2 = V at *
        obtain ⟨v, rfl⟩ := Int.eq_ofNat_of_zero_le b.2.2.2.2.1
        have hjm := Nat.mod_lt j (show 0 < m by omega)
        have q0 : (0 : Int) ≤ ((j % m : Nat) : Int) := Int.natCast_nonneg _
        have q1 : ((j % m : Nat) : Int) < (m : Int) := by exact_mod_cast hjm
        have hr := Nat.mod_lt (j % m + v) (show 0 < m by omega)
        have hi := idx_lt (N := N) (m := m) (s := t) (by omega) hr
        have htm : t * m ≤ N * m := Nat.mul_le_mul_right m (by omega)
        rw [w64 (n := ((j % m : Nat) : Int) + (v : Int)) (by omega) (by omega), tmod_pos (by omega), ← Int.natCast_add, ← Int.natCast_emod, ← Int.natCast_mul, w64 (n := ((t * m : Nat) : Int)) (by omega) (by omega), ← Int.natCast_add, w64 (by omega) (by omega), Int.toNat_natCast]
        have hYl := hY.1
        simp only [if_pos (show (0 : Int) ≤ ((t * m + (j % m + v) % m : Nat) : Int) by omega), if_pos (show ((t * m + (j % m + v) % m : Nat) : Int) < (Y.length : Int) by omega)]
        refine ih (t + 1) _ (by omega) (hY.set hi fun x _ => ?_)
        rw [PtM_succ]
        refine or_congr Iff.rfl ⟨fun a => ?_, fun a => ⟨hP, c1, fun a => c2 (by omega), ?_⟩⟩
        · have := a.2.2.2
          rw [hv, Int.toNat_natCast] at this
          exact this
        · rw [hv, Int.toNat_natCast]; exact a
    · simp only [if_neg c1]
      refine ih (t + 1) Y (by omega) (hY.congr fun x _ => ?_)
      rw [PtM_succ]
      exact ⟨.inl, fun a => a.elim id fun a => absurd a.2.1 c1⟩
theorem spec_l03Levels.ev_2 {N : Nat} (hN : N = 2 * l.length) {k : Nat} (best len : Int) (hlen : 0 ≤ len ∧ len ≤ 100) (X : List Bool) (hX : Marks (N * m) X (Lv m l first k)) (R : Int)
    (yes : Found m l first k → Ev (fun q => spec_l03Levels.l0 q (N : Int) (m : Int) len ((first : Int) + 1) n (m : Int) l) R)
    (next : ¬ Found m l first k → ∀ Y, Marks (N * m) Y (Lv m l first (k + 1)) → Ev (fun q => spec_l03Levels.l1 q (N : Int) (m : Int) best (first : Int) (stepV m l (first : Int)).1 Y (len + 1) n (m : Int) l) R) (d : Nat) :
    ∀ (j : Nat) (Y : List Bool) (fd : Bool), j + d = N * m → (fd = true ↔ ∃ s, s < j ∧ Lv m l first k s ∧ Fd1 m l first s) → Marks (N * m) Y (PtM m l N (Lv m l first k) j 0) →
    Ev (fun q => spec_l03Levels.l2 q (N : Int) (m : Int) best (first : Int) (stepV m l (first : Int)).1 X len Y fd (j : Int) n (m : Int) l) R := by
  have hl := h.2.2.2.2.2.1
  have hm := h.2.2.1
  have hm1 := h.2.2.2.1
  have hXl := hX.1
  have hNm : N * m ≤ 32 * 62 := Nat.mul_le_mul (by omega) (by omega)
  have hw : wrap64 ((N : Int) * (m : Int)) = ((N * m : Nat) : Int) := by rw [← Int.natCast_mul, w64 (by omega) (by omega)]
  induction d with
  | zero =>
    intro j Y fd e hfd hY
    refine Ev.step (fun k => spec_l03Levels.l2.eq_2 ..) ?_
    rw [hw]
    simp only [if_neg (show ¬ ((j : Int) < ((N * m : Nat) : Int)) by omega)]
    rw [w64 (n := (first : Int) + 1) (by omega) (by omega), w64 (n := len + 1) (by omega) (by omega)]
    have hj : j = N * m := by omega
    have hF : fd = true ↔ Found m l first k := by rw [hfd, hj, hN]; exact Iff.rfl
    by_cases c : fd = true
    · simp only [if_pos c]
      exact yes (hF.1 c)
    · simp only [if_neg c]
      refine next (fun a => c (hF.2 a)) Y (hY.congr fun x _ => ?_)
      rw [hj, hN]; exact PtM_all
  | succ d ih =>
    intro j Y fd e hfd hY
    refine Ev.step (fun k => spec_l03Levels.l2.eq_2 ..) ?_
    rw [hw]
    have hjd : j / m < 2 * l.length := by rw [← hN]; exact (Nat.div_lt_iff_lt_mul (by omega)).2 (by omega)
    have hjl : j / m ≤ j := Nat.div_le_self ..
    have q0 : (0 : Int) ≤ ((j / m : Nat) : Int) := Int.natCast_nonneg _
    have q1 : ((j / m : Nat) : Int) < 2 * (l.length : Int) := by exact_mod_cast hjd
    simp only [if_pos (show (j : Int) < ((N * m : Nat) : Int) by omega), if_pos (show (0 : Int) ≤ (j : Int) by omega), if_pos (show (j : Int) < (X.length : Int) by omega), if_neg (show ¬ ((m : Int) = 0) by omega)]
    rw [w64 (n := (j : Int) + 1) (by omega) (by omega)]
    have hx := hX.2 j (by omega)
    by_cases c : rdOf false X (j : Int) = true
    · have hP := hx.1 c
      simp only [if_pos c]
      rw [tdiv_pos (by omega), tmod_pos (a := (j : Int)) (by omega), ← Int.natCast_ediv, ← Int.natCast_emod, w64 (n := ((j / m : Nat) : Int)) (by omega) (by omega), tmod_pos (by omega), w64 (n := ((j / m : Nat) : Int) + 1) (by omega) (by omega), w64 (n := 2 * _) (by omega) (by omega), w64 (n := _ - _) (by omega) (by omega), ← rv_cast]
      simp only [spec_l03Step.sp h (s := ((j / m : Nat) : Int)) (by omega) (by omega), Option.bind_some]
      have go : ∀ fd' : Bool, (fd' = true ↔ ∃ s, s < j + 1 ∧ Lv m l first k s ∧ Fd1 m l first s) → Ev (fun q => spec_l03Levels.j4 q (N : Int) (m : Int) best (first : Int) (stepV m l (first : Int)).1 X len Y fd' (j : Int) ((j % m : Nat) : Int) (stepV m l ((j / m : Nat) : Int)).2.1 ((rv (j / m) : Nat) : Int) n (m : Int) l) R := by
        intro fd' hfd'
        refine Ev.step (fun k => spec_l03Levels.j4.eq_2 ..) ?_
        refine spec_l03Levels.ev_3 h hf hN (by omega) hP best len _ X fd' R (fun Z hZ => ?_) N 0 Y (by omega) hY
        exact ih (j + 1) Z fd' (by omega) hfd' (hZ.congr fun x _ => PtM_next.symm)
      have more : (∃ s, s < j + 1 ∧ Lv m l first k s ∧ Fd1 m l first s) ↔ fd = true ∨ Fd1 m l first j := by
        rw [hfd]
        constructor
        · rintro ⟨s, a, b⟩
          rcases Nat.lt_succ_iff_lt_or_eq.1 a with a | rfl
          · exact .inl ⟨s, a, b⟩
          · exact .inr b.2
        · rintro (⟨s, a, b⟩ | a)
          · exact ⟨s, by omega, b⟩
          · exact ⟨j, by omega, hP, a⟩
      by_cases d0 : fd = true
      · simp only [if_pos d0]
        exact go true (by rw [more]; exact ⟨fun _ => .inl d0, fun _ => rfl⟩)
      · simp only [if_neg d0]
        have m2 := more.trans ⟨fun a => a.elim (fun a => absurd a d0) id, .inr⟩
        unfold Fd1 at m2
        by_cases d1 : (stepV m l ((j / m : Nat) : Int)).2.1 = (stepV m l (first : Int)).1
        · simp only [if_pos d1]
          by_cases d2 : ((j % m : Nat) : Int) = 0
          · simp only [if_pos d2]
            refine go _ ?_
            unfold Fd1
            rw [m2, bne_iff_ne]
            exact ⟨fun a => ⟨d1, by omega, fun b => a (by omega)⟩, fun a b => a.2.2 (by omega)⟩
          · simp only [if_neg d2]
            refine go _ ?_
            unfold Fd1
            rw [m2]
            exact ⟨fun a => (by cases a), fun a => absurd a.2.1 (by omega)⟩
        · simp only [if_neg d1]
          refine go _ ?_
          unfold Fd1
          rw [m2]
          exact ⟨fun a => (by cases a), fun a => absurd a.1 d1⟩
    · simp only [if_neg c]
      have hP : ¬ Lv m l first k j := fun a => c (hx.2 a)
      refine ih (j + 1) Y fd (by omega) ?_ (hY.congr fun x _ => ?_)
      · rw [hfd]
        constructor
        · rintro ⟨s, a, b⟩; exact ⟨s, by omega, b⟩
        · rintro ⟨s, a, b⟩
          rcases Nat.lt_succ_iff_lt_or_eq.1 a with a | rfl
          · exact ⟨s, a, b⟩
          · exact absurd b.1 hP
      · rw [PtM_next]; exact PtM_none hP
end

end Go.Proofs.Ytdieobmhmkdjmaa.XFnExactWalkGirth
