/- What the functions that FnExactGirthBound reaches compute. -/
import Derived.Test.YtpnofgcgdebncaaPFnExactGirthBoundx0
import Derived.Test.YtpnofgcgdebncaaPFnExactGirthBoundx1
import Derived.Test.YtpnofgcgdebncaaGr
namespace Go.Proofs.Ytpnofgcgdebncaa.PFnExactGirthBound
open Go.RowKit Go.Proofs.YtpnofgcgdebncaaW.PrintWords Go.Proofs.YtpnofgcgdebncaaW.PrintLast Go.Proofs.Ytpnofgcgdebncaa.B
open Classical
set_option linter.unusedVariables false
set_option linter.unusedSimpArgs false

theorem spec_l01In.sp (a b c : Int) : spec_l01In.f a b c = some (decide (b ≤ a ∧ a ≤ c)) := by
  unfold spec_l01In.f
  by_cases h : b ≤ a <;> simp [h]

def told (n : Int) : Int × Int := if n > 1000000000000 then (0, 3) else (n, 0)
theorem spec_l02Told.sp (n : Int) : spec_l02Told.f n = some (told n) := by unfold spec_l02Told.f told; split <;> rfl

def sumRun (b : Int) : Nat → Int → Int → Int
  | 0, s, _ => s
  | d + 1, s, p => sumRun b d (mn (s + p) 1000000000001) (mn (p * b) 1000000000001)
theorem mn_bd {x : Int} (h : 0 ≤ x) : 0 ≤ mn x 1000000000001 ∧ mn x 1000000000001 ≤ 1000000000001 := by unfold mn; split <;> omega
theorem mul_bd {p b : Int} (h0 : 0 ≤ p) (h1 : p ≤ 1000000000001) (hb0 : 0 ≤ b) (hb1 : b ≤ 62) : 0 ≤ p * b ∧ p * b ≤ 62000000000062 := by
  refine ⟨Int.mul_nonneg h0 hb0, ?_⟩
  have := Int.mul_le_mul h1 hb1 hb0 (by decide : (0 : Int) ≤ 1000000000001)
  omega
theorem sumRun_bd (b : Int) (hb0 : 0 ≤ b) (d : Nat) : ∀ s p : Int, 0 ≤ s → s ≤ 1000000000001 → 0 ≤ p → 0 ≤ sumRun b d s p ∧ sumRun b d s p ≤ 1000000000001 := by
  induction d with
  | zero => intro s p h0 h1 _; exact ⟨h0, h1⟩
  | succ d ih =>
    intro s p h0 h1 h2
    have a := mn_bd (x := s + p) (by omega)
    have c := mn_bd (x := p * b) (Int.mul_nonneg h2 hb0)
    exact ih _ _ a.1 a.2 c.1
theorem spec_l02Sum.ev_l (k n : Int) (hk : 1 ≤ k) (hk1 : k ≤ 62) (hn1 : n ≤ 1000) (d : Nat) : ∀ (i s p : Int), 0 ≤ s → s ≤ 1000000000001 → 0 ≤ p → p ≤ 1000000000001 → 0 ≤ i → (i + d = n ∨ (d = 0 ∧ n ≤ i)) →
    Ev (fun q => spec_l02Sum.l0 q k n s p i) (sumRun (k - 1) d s p) := by
  induction d with
  | zero =>
    intro i s p _ _ _ _ _ h
    refine Ev.step (fun k => spec_l02Sum.l0.eq_2 ..) ?_
    simp only [if_neg (show ¬ (i < n) by omega)]
    exact Ev.now _
  | succ d ih =>
    intro i s p a0 a1 a2 a3 hi h
    refine Ev.step (fun k => spec_l02Sum.l0.eq_2 ..) ?_
    have hm := mul_bd a2 a3 (show 0 ≤ k - 1 by omega) (by omega)
    rw [w64 (n := k - 1) (by omega) (by omega), w64 (n := s + p) (by omega) (by omega), w64 (n := p * (k - 1)) (by omega) (by omega)]
    simp only [if_pos (show i < n by omega)]
    rw [w64 (by omega) (by omega)]
    have b := mn_bd (x := s + p) (by omega)
    have c := mn_bd hm.1
    exact ih (i + 1) _ _ b.1 b.2 c.1 c.2 (by omega) (by omega)
theorem spec_l02Sum.ev (k n : Int) (hk : 1 ≤ k) (hk1 : k ≤ 62) (hn1 : n ≤ 1000) : Ev (fun q => spec_l02Sum.f q k n) (sumRun (k - 1) n.toNat 0 1) := by
  unfold spec_l02Sum.f
  exact spec_l02Sum.ev_l k n hk hk1 hn1 n.toNat 0 0 1 (by omega) (by omega) (by omega) (by omega) (by omega) (by omega)

theorem impl_limited.sp (n : Int) : impl_limited.f n = some (told n) := by unfold impl_limited.f told; split <;> rfl

theorem impl_powers.ev_l (b n : Int) (hk : 0 ≤ b) (hk1 : b ≤ 62) (hn1 : n ≤ 1000) (d : Nat) : ∀ (i s p : Int), 0 ≤ s → s ≤ 1000000000001 → 0 ≤ p → p ≤ 1000000000001 → 0 ≤ i → (i + d = n ∨ (d = 0 ∧ n ≤ i)) →
    Ev (fun q => impl_powers.l0 q b s p n i) (sumRun b d s p) := by
  induction d with
  | zero =>
    intro i s p _ _ _ _ _ h
    refine Ev.step (fun k => impl_powers.l0.eq_2 ..) ?_
    simp only [if_neg (show ¬ (i < n) by omega)]
    exact Ev.now _
  | succ d ih =>
    intro i s p a0 a1 a2 a3 hi h
    refine Ev.step (fun k => impl_powers.l0.eq_2 ..) ?_
    have hm := mul_bd a2 a3 hk (by omega)
    rw [w64 (n := s + p) (by omega) (by omega), w64 (n := p * b) (by omega) (by omega)]
    simp only [if_pos (show i < n by omega)]
    rw [w64 (by omega) (by omega)]
    have e := mn_bd (x := s + p) (by omega)
    have c := mn_bd hm.1
    exact ih (i + 1) _ _ e.1 e.2 c.1 c.2 (by omega) (by omega)
theorem impl_powers.ev (b n : Int) (hk : 0 ≤ b) (hk1 : b ≤ 62) (hn1 : n ≤ 1000) : Ev (fun q => impl_powers.f q b n) (sumRun b n.toNat 0 1) := by
  unfold impl_powers.f
  exact impl_powers.ev_l b n hk hk1 hn1 n.toNat 0 0 1 (by omega) (by omega) (by omega) (by omega) (by omega) (by omega)

end Go.Proofs.Ytpnofgcgdebncaa.PFnExactGirthBound
