/- What the functions that FnExactNumbersAt reaches compute. -/
import Derived.Test.YtpnofgcgdebncaaPFnExactNumbersAtx0
import Derived.Test.YtpnofgcgdebncaaPFnExactNumbersAtx1
import Derived.Test.YtpnofgcgdebncaaPFnExactNumbersAtx2
import Derived.Test.YtpnofgcgdebncaaPFnExactNumbersAtx3
import Derived.Test.YtpnofgcgdebncaaGr
namespace Go.Proofs.Ytpnofgcgdebncaa.PFnExactNumbersAt
open Go.RowKit Go.Proofs.YtpnofgcgdebncaaW.PrintWords Go.Proofs.YtpnofgcgdebncaaW.PrintLast Go.Proofs.Ytpnofgcgdebncaa.B
open Classical
set_option linter.unusedVariables false
set_option linter.unusedSimpArgs false

theorem spec_l01In.sp (a b c : Int) : spec_l01In.f a b c = some (decide (b ≤ a ∧ a ≤ c)) := by
  unfold spec_l01In.f
  by_cases h : b ≤ a <;> simp [h]

def ListsOK (b c : List Int) : Prop := 1 ≤ b.length ∧ b.length ≤ 10 ∧ c.length = b.length ∧ ∀ j : Nat, 0 ≤ j → j < b.length → 1 ≤ rd b j ∧ rd b j ≤ 62 ∧ 1 ≤ rd c j ∧ rd c j ≤ 62
theorem spec_l06Lists.ev_l (b c : List Int) (h10 : b.length ≤ 10) (hl : c.length = b.length) (h1 : 1 ≤ b.length) (d : Nat) : ∀ i : Nat, i + d = b.length → ((∀ j : Nat, i ≤ j → j < b.length → 1 ≤ rd b j ∧ rd b j ≤ 62 ∧ 1 ≤ rd c j ∧ rd c j ≤ 62) ↔ ListsOK b c) →
    Ev (fun q => spec_l06Lists.l0 q b c (i : Int)) (decide (ListsOK b c)) := by
  induction d with
  | zero =>
    intro i h hj
    refine Ev.step (fun k => spec_l06Lists.l0.eq_2 ..) ?_
    simp only [if_neg (show ¬ ((i : Int) < (b.length : Int)) by omega)]
    rw [decide_eq_true (hj.1 (scan_end (by omega)))]
    exact Ev.now _
  | succ d ih =>
    intro i h hj
    refine Ev.step (fun k => spec_l06Lists.l0.eq_2 ..) ?_
    rw [w64 (by omega) (by omega)]
    simp only [if_pos (show (i : Int) < (b.length : Int) by omega), if_pos (show (0 : Int) ≤ (i : Int) by omega), if_pos (show (i : Int) < (c.length : Int) by omega), spec_l01In.sp, Option.bind_some, decide_eq_true_eq]
    by_cases c1 : 1 ≤ rd b (i : Int) ∧ rd b (i : Int) ≤ 62 ∧ 1 ≤ rd c (i : Int) ∧ rd c (i : Int) ≤ 62
    · simp only [if_pos (show 1 ≤ rd b (i : Int) ∧ rd b (i : Int) ≤ 62 from ⟨c1.1, c1.2.1⟩), if_pos c1.2.2]
      exact ih (i + 1) (by omega) ((scan_step (P := fun j : Nat => 1 ≤ rd b j ∧ rd b j ≤ 62 ∧ 1 ≤ rd c j ∧ rd c j ≤ 62) (i := i) c1).symm.trans hj)
    · have hn : ¬ ListsOK b c := fun a => scan_fail (P := fun j : Nat => 1 ≤ rd b j ∧ rd b j ≤ 62 ∧ 1 ≤ rd c j ∧ rd c j ≤ 62) (i := i) c1 (by omega) (hj.2 a)
      rw [decide_eq_false hn]
      by_cases c2 : 1 ≤ rd b (i : Int) ∧ rd b (i : Int) ≤ 62
      · simp only [if_pos c2, if_neg (show ¬ (1 ≤ rd c (i : Int) ∧ rd c (i : Int) ≤ 62) from fun a => c1 ⟨c2.1, c2.2, a⟩)]
        exact Ev.now _
      · simp only [if_neg c2]
        exact Ev.now _
theorem spec_l06Lists.ev (b c : List Int) : Ev (fun q => spec_l06Lists.f q b c) (decide (ListsOK b c)) := by
  unfold spec_l06Lists.f
  by_cases h1 : (b.length : Int) = (c.length : Int)
  · simp only [if_pos h1]
    by_cases h2 : (b.length : Int) < 1
    · simp only [if_pos h2]
      refine Ev.step (fun k => spec_l06Lists.j0.eq_2 ..) ?_
      simp only [if_true]
      rw [decide_eq_false (fun a => by have := a.1; omega)]
      exact Ev.now _
    · simp only [if_neg h2]
      refine Ev.step (fun k => spec_l06Lists.j0.eq_2 ..) ?_
      simp only [decide_eq_true_eq]
      by_cases h3 : (b.length : Int) > 10
      · simp only [if_pos h3]
        rw [decide_eq_false (fun a => by have := a.2.1; omega)]
        exact Ev.now _
      · simp only [if_neg h3]
        exact spec_l06Lists.ev_l b c (by omega) (by omega) (by omega) b.length 0 (by omega) ⟨fun a => ⟨by omega, by omega, by omega, a⟩, fun a => a.2.2.2⟩
  · simp only [if_neg h1]
    refine Ev.step (fun k => spec_l06Lists.j0.eq_2 ..) ?_
    simp only [if_true]
    rw [decide_eq_false (fun a => by have := a.2.2.1; omega)]
    exact Ev.now _

/-- The numbers at distances: d more, behind out, from i on. -/
def numsRun (b c : List Int) : Nat → Nat → List Int → List Int × Bool
  | 0, _, out => (out, true)
  | d + 1, i, out => if (rd out i * rd b i) % rd c i = 0 then numsRun b c d (i + 1) (out ++ [rd out i * rd b i / rd c i]) else ([], false)
def p62 : Nat → Int | 0 => 1 | n + 1 => 62 * p62 n
theorem p62_pos (n : Nat) : 1 ≤ p62 n := by
  induction n with
  | zero => simp [p62]
  | succ n ih => simp only [p62]; omega
theorem p62_le {n : Nat} (h : n ≤ 10) : p62 n ≤ 839299365868340224 := by
  have : ∀ n, n < 11 → p62 n ≤ 839299365868340224 := by decide
  exact this n (by omega)
theorem num_step {x b c : Int} {i : Nat} (h0 : 0 ≤ x) (h1 : x ≤ p62 i) (hb : 1 ≤ b) (hb1 : b ≤ 62) (hc : 1 ≤ c) : 0 ≤ x * b ∧ x * b ≤ p62 (i + 1) ∧ 0 ≤ x * b / c ∧ x * b / c ≤ p62 (i + 1) := by
  have e : 0 ≤ x * b := Int.mul_nonneg h0 (by omega)
  have f : x * b ≤ p62 (i + 1) := by
    have h3 := Int.mul_le_mul h1 hb1 (by omega) (by have := p62_pos i; omega)
    have : p62 (i + 1) = 62 * p62 i := rfl
    rw [this, Int.mul_comm 62]; exact h3
  have g : x * b / c ≤ x * b := Int.ediv_le_self c e
  exact ⟨e, f, Int.ediv_nonneg e (by omega), by omega⟩
theorem rd_append_lt (l : List Int) (x : Int) (i : Nat) (h : i < l.length) : rd (l ++ [x]) (i : Int) = rd l (i : Int) := by
  rw [rd_nat, rd_nat, List.getD_eq_getElem?_getD, List.getD_eq_getElem?_getD, List.getElem?_append_left h]
theorem rd_append_last (l : List Int) (x : Int) : rd (l ++ [x]) (l.length : Int) = x := by
  rw [rd_nat]; simp
theorem numsRun_inv (b c : List Int) (h : ListsOK b c) (d : Nat) : ∀ (i : Nat) (out : List Int), i + d = b.length → out.length = i + 1 → (∀ j : Nat, j < out.length → 0 ≤ rd out j ∧ rd out j ≤ p62 j) →
    (numsRun b c d i out).1.length ≤ 11 ∧ ((numsRun b c d i out).2 = true → (numsRun b c d i out).1.length = b.length + 1 ∧ ∀ j : Nat, j < b.length + 1 → 0 ≤ rd (numsRun b c d i out).1 j ∧ rd (numsRun b c d i out).1 j ≤ p62 j) := by
  have h10 := h.2.1
  induction d with
  | zero => intro i out h1 h2 h3; exact ⟨by simp only [numsRun]; omega, fun _ => ⟨by simp only [numsRun]; omega, fun j hj => h3 j (by omega)⟩⟩
  | succ d ih =>
    intro i out h1 h2 h3
    simp only [numsRun]
    split
    · have e := h.2.2.2 i (by omega) (by omega)
      have o := h3 i (by omega)
      have s := num_step o.1 o.2 e.1 e.2.1 e.2.2.1
      refine ih (i + 1) _ (by omega) (by simp [h2]) (fun j hj => ?_)
      simp only [List.length_append, List.length_cons, List.length_nil] at hj
      by_cases c1 : j < out.length
      · rw [rd_append_lt _ _ _ c1]; exact h3 j c1
      · have : j = out.length := by omega
        subst this
        rw [rd_append_last, h2]
        exact ⟨s.2.2.1, s.2.2.2⟩
    · exact ⟨by simp, fun a => by simp at a⟩
theorem spec_l06Numbers.ev_l (b c : List Int) (h : ListsOK b c) (d : Nat) : ∀ (i : Nat) (out : List Int), i + d = b.length → out.length = i + 1 → (∀ j : Nat, j < out.length → 0 ≤ rd out j ∧ rd out j ≤ p62 j) →
    Ev (fun q => spec_l06Numbers.l0 q b c out (i : Int)) (numsRun b c d i out) := by
  have h10 := h.2.1
  have hl := h.2.2.1
  induction d with
  | zero =>
    intro i out h1 h2 h3
    refine Ev.step (fun k => spec_l06Numbers.l0.eq_2 ..) ?_
    simp only [if_neg (show ¬ ((i : Int) < (b.length : Int)) by omega)]
    exact Ev.now _
  | succ d ih =>
    intro i out h1 h2 h3
    refine Ev.step (fun k => spec_l06Numbers.l0.eq_2 ..) ?_
    have e := h.2.2.2 i (by omega) (by omega)
    have o := h3 i (by omega)
    have s := num_step o.1 o.2 e.1 e.2.1 e.2.2.1
    have t := p62_le (show i + 1 ≤ 10 by omega)
    rw [w64 (n := rd out i * rd b i) (by omega) (by omega), tmod_pos s.1, tdiv_pos s.1, w64 (n := rd out i * rd b i / rd c i) (by omega) (by omega), w64 (by omega) (by omega)]
    simp only [if_pos (show (i : Int) < (b.length : Int) by omega), if_pos (show (0 : Int) ≤ (i : Int) by omega), if_pos (show (i : Int) < (c.length : Int) by omega), if_pos (show (i : Int) < (out.length : Int) by omega), if_neg (show ¬ rd c (i : Int) = 0 by omega), if_pos (show out.length < 17592186044416 by omega), numsRun]
    by_cases c1 : (rd out (i : Int) * rd b (i : Int)) % rd c (i : Int) = 0
    · simp only [if_pos c1]
      refine ih (i + 1) _ (by omega) (by simp [h2]) (fun j hj => ?_)
      simp only [List.length_append, List.length_cons, List.length_nil] at hj
      by_cases c2 : j < out.length
      · rw [rd_append_lt _ _ _ c2]; exact h3 j c2
      · have : j = out.length := by omega
        subst this
        rw [rd_append_last, h2]
        exact ⟨s.2.2.1, s.2.2.2⟩
    · simp only [if_neg c1]
      exact Ev.now _
theorem nums_start : ∀ j : Nat, j < ([1] : List Int).length → 0 ≤ rd [1] (j : Int) ∧ rd [1] (j : Int) ≤ p62 j := by
  intro j hj
  have : j = 0 := by simpa using hj
  subst this
  decide
theorem spec_l06Numbers.ev (b c : List Int) (h : ListsOK b c) : Ev (fun q => spec_l06Numbers.f q b c) (numsRun b c b.length 0 [1]) := by
  unfold spec_l06Numbers.f
  exact spec_l06Numbers.ev_l b c h b.length 0 [1] (by omega) rfl nums_start

theorem laws_toInt64S.ev_l (l : List Int) (hl : l.length ≤ 281474976710656) (d : Nat) : ∀ (i : Nat) (acc : List Int), acc.length = l.length → (∀ j, j < i → acc[j]? = l[j]?) → i + d = l.length →
    Ev (fun k => laws_toInt64S.l0 k l acc (i : Int)) l := by
  induction d with
  | zero =>
    intro i acc h1 h2 h3
    refine Ev.step (fun k => laws_toInt64S.l0.eq_2 ..) ?_
    simp only [if_neg (show ¬ ((i : Int) < (l.length : Int)) by omega)]
    refine ev_some (List.ext_getElem? fun j => ?_)
    by_cases hj : j < i
    · exact h2 j hj
    · rw [List.getElem?_eq_none (by omega), List.getElem?_eq_none (by omega)]
  | succ d ih =>
    intro i acc h1 h2 h3
    refine Ev.step (fun k => laws_toInt64S.l0.eq_2 ..) ?_
    simp only [if_pos (show (i : Int) < (l.length : Int) by omega), if_pos (show (0 : Int) ≤ (i : Int) by omega), if_pos (show (i : Int) < (acc.length : Int) by omega)]
    rw [w64 (by omega) (by omega)]
    have := ih (i + 1) (acc.set ((i : Int)).toNat (rd l i)) (by simp [h1]) (fun j hj => by
      rw [Int.toNat_natCast]
      by_cases e : i = j
      · subst e
        rw [List.getElem?_set_self (by omega), rd_get l i (by omega)]
        simp
      · rw [List.getElem?_set_ne e]
        exact h2 j (by omega)) (by omega)
    exact this
theorem laws_toInt64S.ev (l : List Int) (hl : l.length ≤ 35184372088832) : Ev (fun k => laws_toInt64S.f k l) l := by
  unfold laws_toInt64S.f
  simp only [if_pos (show (0 : Int) ≤ (l.length : Int) by omega), if_pos (show ((l.length : Int)).toNat ≤ 35184372088832 by omega)]
  exact laws_toInt64S.ev_l l (by omega) l.length 0 _ (by simp) (fun j hj => by omega) (by omega)

noncomputable def listsC (b c : List Int) : Int := if ListsOK b c then 0 else 2
theorem impl_listsCode.ev_l (b c : List Int) (h10 : b.length ≤ 10) (hl : c.length = b.length) (h1 : 1 ≤ b.length) (d : Nat) : ∀ i : Nat, i + d = b.length → ((∀ j : Nat, i ≤ j → j < b.length → 1 ≤ rd b j ∧ rd b j ≤ 62 ∧ 1 ≤ rd c j ∧ rd c j ≤ 62) ↔ ListsOK b c) →
    Ev (fun q => impl_listsCode.l0 q b c (b.length : Int) (i : Int)) (listsC b c) := by
  induction d with
  | zero =>
    intro i h hj
    refine Ev.step (fun k => impl_listsCode.l0.eq_2 ..) ?_
    simp only [if_neg (show ¬ ((i : Int) < (b.length : Int)) by omega)]
    unfold listsC
    rw [if_pos (hj.1 (scan_end (by omega)))]
    exact Ev.now _
  | succ d ih =>
    intro i h hj
    refine Ev.step (fun k => impl_listsCode.l0.eq_2 ..) ?_
    rw [w64 (by omega) (by omega)]
    simp only [if_pos (show (i : Int) < (b.length : Int) by omega), if_pos (show (0 : Int) ≤ (i : Int) by omega), if_pos (show (i : Int) < (c.length : Int) by omega)]
    by_cases c1 : 1 ≤ rd b (i : Int) ∧ rd b (i : Int) ≤ 62 ∧ 1 ≤ rd c (i : Int) ∧ rd c (i : Int) ≤ 62
    · simp only [if_neg (show ¬ rd b (i : Int) < 1 by omega), if_neg (show ¬ rd b (i : Int) > 62 by omega), if_neg (show ¬ rd c (i : Int) < 1 by omega), if_neg (show ¬ rd c (i : Int) > 62 by omega)]
      exact ih (i + 1) (by omega) ((scan_step (P := fun j : Nat => 1 ≤ rd b j ∧ rd b j ≤ 62 ∧ 1 ≤ rd c j ∧ rd c j ≤ 62) (i := i) c1).symm.trans hj)
    · have hn : ¬ ListsOK b c := fun a => scan_fail (P := fun j : Nat => 1 ≤ rd b j ∧ rd b j ≤ 62 ∧ 1 ≤ rd c j ∧ rd c j ≤ 62) (i := i) c1 (by omega) (hj.2 a)
      unfold listsC
      rw [if_neg hn]
      by_cases c2 : rd b (i : Int) < 1
      · simp only [if_pos c2]; exact Ev.now _
      by_cases c3 : rd b (i : Int) > 62
      · simp only [if_neg c2, if_pos c3]; exact Ev.now _
      by_cases c4 : rd c (i : Int) < 1
      · simp only [if_neg c2, if_neg c3, if_pos c4]; exact Ev.now _
      · simp only [if_neg c2, if_neg c3, if_neg c4, if_pos (show rd c (i : Int) > 62 by omega)]; exact Ev.now _
theorem impl_listsCode.ev (b c : List Int) : Ev (fun q => impl_listsCode.f q b c) (listsC b c) := by
  unfold impl_listsCode.f
  by_cases h2 : (b.length : Int) < 1
  · simp only [if_pos h2]
    refine Ev.step (fun k => impl_listsCode.j0.eq_2 ..) ?_
    simp only [if_true]
    unfold listsC
    rw [if_neg (fun a => by have := a.1; omega)]
    exact Ev.now _
  by_cases h3 : (b.length : Int) > 10
  · simp only [if_neg h2, if_pos h3]
    refine Ev.step (fun k => impl_listsCode.j0.eq_2 ..) ?_
    simp only [if_true]
    unfold listsC
    rw [if_neg (fun a => by have := a.2.1; omega)]
    exact Ev.now _
  simp only [if_neg h2, if_neg h3]
  refine Ev.step (fun k => impl_listsCode.j0.eq_2 ..) ?_
  by_cases h4 : (c.length : Int) = (b.length : Int)
  · simp only [bne_iff_ne, ne_eq, h4, not_true, if_false]
    exact impl_listsCode.ev_l b c (by omega) (by omega) (by omega) b.length 0 (by omega) ⟨fun a => ⟨by omega, by omega, by omega, a⟩, fun a => a.2.2.2⟩
  · simp only [bne_iff_ne, ne_eq, h4, not_false_eq_true, if_true]
    unfold listsC
    rw [if_neg (fun a => by have := a.2.2.1; omega)]
    exact Ev.now _

theorem impl_numbersAt.ev_l (b c : List Int) (h : ListsOK b c) (d : Nat) : ∀ (i : Nat) (out : List Int), i + d = b.length → out.length = i + 1 → (∀ j : Nat, j < out.length → 0 ≤ rd out j ∧ rd out j ≤ p62 j) →
    Ev (fun q => impl_numbersAt.l0 q b c out (b.length : Int) (i : Int)) (numsRun b c d i out) := by
  have h10 := h.2.1
  have hl := h.2.2.1
  induction d with
  | zero =>
    intro i out h1 h2 h3
    refine Ev.step (fun k => impl_numbersAt.l0.eq_2 ..) ?_
    simp only [if_neg (show ¬ ((i : Int) < (b.length : Int)) by omega)]
    exact Ev.now _
  | succ d ih =>
    intro i out h1 h2 h3
    refine Ev.step (fun k => impl_numbersAt.l0.eq_2 ..) ?_
    have e := h.2.2.2 i (by omega) (by omega)
    have o := h3 i (by omega)
    have s := num_step o.1 o.2 e.1 e.2.1 e.2.2.1
    have t := p62_le (show i + 1 ≤ 10 by omega)
    rw [w64 (n := rd out i * rd b i) (by omega) (by omega), tmod_pos s.1, tdiv_pos s.1, w64 (n := rd out i * rd b i / rd c i) (by omega) (by omega), w64 (by omega) (by omega)]
    simp only [if_pos (show (i : Int) < (b.length : Int) by omega), if_pos (show (0 : Int) ≤ (i : Int) by omega), if_pos (show (i : Int) < (c.length : Int) by omega), if_pos (show (i : Int) < (out.length : Int) by omega), if_neg (show ¬ rd c (i : Int) = 0 by omega), if_pos (show out.length < 17592186044416 by omega), numsRun]
    by_cases c1 : (rd out (i : Int) * rd b (i : Int)) % rd c (i : Int) = 0
    · simp only [if_pos c1]
      refine ih (i + 1) _ (by omega) (by simp [h2]) (fun j hj => ?_)
      simp only [List.length_append, List.length_cons, List.length_nil] at hj
      by_cases c2 : j < out.length
      · rw [rd_append_lt _ _ _ c2]; exact h3 j c2
      · have : j = out.length := by omega
        subst this
        rw [rd_append_last, h2]
        exact ⟨s.2.2.1, s.2.2.2⟩
    · simp only [if_neg c1]
      exact Ev.now _
theorem impl_numbersAt.ev (b c : List Int) (h : ListsOK b c) : Ev (fun q => impl_numbersAt.f q b c) (numsRun b c b.length 0 [1]) := by
  unfold impl_numbersAt.f
  exact impl_numbersAt.ev_l b c h b.length 0 [1] (by omega) rfl nums_start

noncomputable def numsR (b c : List Int) : List Int × Int := if ListsOK b c then (if (numsRun b c b.length 0 [1]).2 = true then ((numsRun b c b.length 0 [1]).1, 0) else ([], 5)) else ([], 2)
theorem numsR_length (b c : List Int) : (numsR b c).1.length ≤ 11 := by
  unfold numsR
  split
  · rename_i h
    have := (numsRun_inv b c h b.length 0 [1] (by omega) rfl nums_start).1
    split
    · exact this
    · simp
  · simp
theorem spec_NumbersAt.ev (b c : List Int) : Ev (fun q => spec_NumbersAt.f q b c) (numsR b c) := by
  unfold spec_NumbersAt.f numsR
  refine Ev.bind (spec_l06Lists.ev b c) ?_
  simp only [decide_eq_true_eq]
  by_cases h : ListsOK b c
  · simp only [if_pos h]
    refine Ev.bind (spec_l06Numbers.ev b c h) ?_
    split <;> exact Ev.now _
  · simp only [if_neg h]
    exact Ev.now _
theorem impl_NumbersAt.ev (b c : List Int) : Ev (fun q => impl_NumbersAt.f q b c) (numsR b c) := by
  unfold impl_NumbersAt.f numsR
  refine Ev.bind (impl_listsCode.ev b c) ?_
  unfold listsC
  by_cases h : ListsOK b c
  · simp only [if_pos h]
    simp only [if_true]
    refine Ev.bind (impl_numbersAt.ev b c h) ?_
    split <;> exact Ev.now _
  · simp only [if_neg h]
    exact Ev.now _

theorem laws_eqInt64S.ev_l (l : List Int) (hl : l.length ≤ 281474976710656) (d : Nat) : ∀ (i : Nat), i + d = l.length → Ev (fun k => laws_eqInt64S.l0 k l l (i : Int)) true := by
  induction d with
  | zero =>
    intro i h3
    refine Ev.step (fun k => laws_eqInt64S.l0.eq_2 ..) ?_
    simp only [if_neg (show ¬ ((i : Int) < (l.length : Int)) by omega)]
    exact Ev.now _
  | succ d ih =>
    intro i h3
    refine Ev.step (fun k => laws_eqInt64S.l0.eq_2 ..) ?_
    simp only [if_pos (show (i : Int) < (l.length : Int) by omega), if_pos (show (0 : Int) ≤ (i : Int) by omega), if_true]
    rw [w64 (by omega) (by omega)]
    exact ih (i + 1) (by omega)
theorem laws_eqInt64S.ev (l : List Int) (hl : l.length ≤ 281474976710656) : Ev (fun k => laws_eqInt64S.f k l l) true := by
  unfold laws_eqInt64S.f
  simp only [if_true]
  exact laws_eqInt64S.ev_l l hl l.length 0 (by omega)

/-- The marks a + i, from the place i on. -/
theorem laws_markInt64S.ev_l (n : Nat) (a : Int) (ha : 0 ≤ a) (han : a + n ≤ 4611686018427387904) (d : Nat) : ∀ (i : Nat) (l : List Int), l.length = n → i + d = n →
    ∃ m : List Int, Ev (fun k => laws_markInt64S.l0 k l (a + i) (i : Int)) (a + n, m) ∧ m.length = n ∧ (∀ j, j < i → m[j]? = l[j]?) ∧ ∀ j : Nat, i ≤ j → j < n → rd m j = a + j := by
  induction d with
  | zero =>
    intro i l h1 h3
    refine ⟨l, ?_, h1, fun _ _ => rfl, fun j h h' => by omega⟩
    refine Ev.step (fun k => laws_markInt64S.l0.eq_2 ..) ?_
    simp only [if_neg (show ¬ ((i : Int) < (l.length : Int)) by omega)]
    have : i = n := by omega
    rw [this]
    exact Ev.now _
  | succ d ih =>
    intro i l h1 h3
    obtain ⟨m, hm, h4, h5, h6⟩ := ih (i + 1) (l.set i (a + i)) (by simp [h1]) (by omega)
    refine ⟨m, ?_, h4, fun j hj => ?_, fun j hj hj' => ?_⟩
    · refine Ev.step (fun k => laws_markInt64S.l0.eq_2 ..) ?_
      simp only [if_pos (show (i : Int) < (l.length : Int) by omega), if_pos (show (0 : Int) ≤ (i : Int) by omega)]
      rw [w64 (by omega) (by omega), w64 (by omega) (by omega), Int.add_assoc, Int.toNat_natCast]
      exact hm
    · rw [h5 j (by omega), List.getElem?_set_ne (by omega)]
    · by_cases e : j = i
      · subst e
        have := h5 j (by omega)
        rw [List.getElem?_set_self (by omega)] at this
        rw [rd_nat]
        simp [this]
      · exact h6 j (by omega) hj'
theorem laws_markInt64S.ev (l : List Int) (a : Int) (ha : 0 ≤ a) (han : a + l.length ≤ 4611686018427387904) :
    ∃ m : List Int, Ev (fun k => laws_markInt64S.f k l a) (a + l.length, m) ∧ m.length = l.length ∧ ∀ j : Nat, j < l.length → rd m j = a + j := by
  obtain ⟨m, hm, h4, _, h6⟩ := laws_markInt64S.ev_l l.length a ha han l.length 0 l rfl (by omega)
  refine ⟨m, ?_, h4, fun j hj => h6 j (by omega) hj⟩
  unfold laws_markInt64S.f
  have := hm
  simp only [Int.natCast_zero, Int.add_zero] at this
  exact this

theorem laws_heldInt64S.ev_l (m : List Int) (a : Int) (ha : 0 ≤ a) (han : a + m.length ≤ 4611686018427387904) (hm : ∀ j : Nat, j < m.length → rd m j = a + j) (d : Nat) :
    ∀ (i : Nat), i + d = m.length → Ev (fun k => laws_heldInt64S.l0 k m (a + i) (i : Int)) (a + m.length) := by
  induction d with
  | zero =>
    intro i h3
    refine Ev.step (fun k => laws_heldInt64S.l0.eq_2 ..) ?_
    simp only [if_neg (show ¬ ((i : Int) < (m.length : Int)) by omega)]
    have : i = m.length := by omega
    rw [this]
    exact Ev.now _
  | succ d ih =>
    intro i h3
    refine Ev.step (fun k => laws_heldInt64S.l0.eq_2 ..) ?_
    simp only [if_pos (show (i : Int) < (m.length : Int) by omega), if_pos (show (0 : Int) ≤ (i : Int) by omega), if_pos (hm i (by omega))]
    rw [w64 (by omega) (by omega), w64 (by omega) (by omega), Int.add_assoc]
    exact ih (i + 1) (by omega)
theorem laws_heldInt64S.ev (m : List Int) (a : Int) (ha : 0 ≤ a) (han : a + m.length ≤ 4611686018427387904) (hm : ∀ j : Nat, j < m.length → rd m j = a + j) :
    Ev (fun k => laws_heldInt64S.f k m a) (a + m.length) := by
  unfold laws_heldInt64S.f
  have := laws_heldInt64S.ev_l m a ha han hm m.length 0 (by omega)
  simp only [Int.natCast_zero, Int.add_zero] at this
  exact this

end Go.Proofs.Ytpnofgcgdebncaa.PFnExactNumbersAt
