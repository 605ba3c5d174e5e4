/- What the functions that FnExactAreFeasible reaches compute. -/
import Derived.Test.YtpnofgcgdebncaaPFnExactAreFeasiblex0
import Derived.Test.YtpnofgcgdebncaaPFnExactAreFeasiblex1
import Derived.Test.YtpnofgcgdebncaaPFnExactAreFeasiblex2
import Derived.Test.YtpnofgcgdebncaaPFnExactAreFeasiblex3
import Derived.Test.YtpnofgcgdebncaaPFnExactAreFeasiblex4
import Derived.Test.YtpnofgcgdebncaaPFnExactAreFeasiblex5
import Derived.Test.YtpnofgcgdebncaaGr
namespace Go.Proofs.Ytpnofgcgdebncaa.PFnExactAreFeasible
open Go.RowKit Go.Proofs.YtpnofgcgdebncaaW.PrintWords Go.Proofs.YtpnofgcgdebncaaW.PrintLast Go.Proofs.Ytpnofgcgdebncaa.B
open Classical
set_option linter.unusedVariables false
set_option linter.unusedSimpArgs false

theorem laws_toInt64S.ev_l (l : List Int) (hl : l.length ≤ 281474976710656) (d : Nat) : ∀ (i : Nat) (acc : List Int), acc.length = l.length → (∀ j, j < i → acc[j]? = l[j]?) → i + d = l.length →
    Ev (fun k => laws_toInt64S.l0 k l acc (i : Int)) l := by
  induction d with
  | zero =>
    intro i acc h1 h2 h3
    refine Ev.step (fun k => laws_toInt64S.l0.eq_2 ..) ?_
    simp only [if_neg (show ¬ ((i : Int) < (l.length : Int)) by omega)]
    refine ev_some (List.ext_getElem? fun j => ?_)
    by_cases hj : j < i
    · exact h2 j hj
    · rw [List.getElem?_eq_none (by omega), List.getElem?_eq_none (by omega)]
  | succ d ih =>
    intro i acc h1 h2 h3
    refine Ev.step (fun k => laws_toInt64S.l0.eq_2 ..) ?_
    simp only [if_pos (show (i : Int) < (l.length : Int) by omega), if_pos (show (0 : Int) ≤ (i : Int) by omega), if_pos (show (i : Int) < (acc.length : Int) by omega)]
    rw [w64 (by omega) (by omega)]
    have := ih (i + 1) (acc.set ((i : Int)).toNat (rd l i)) (by simp [h1]) (fun j hj => by
      rw [Int.toNat_natCast]
      by_cases e : i = j
      · subst e
        rw [List.getElem?_set_self (by omega), rd_get l i (by omega)]
        simp
      · rw [List.getElem?_set_ne e]
        exact h2 j (by omega)) (by omega)
    exact this
theorem laws_toInt64S.ev (l : List Int) (hl : l.length ≤ 35184372088832) : Ev (fun k => laws_toInt64S.f k l) l := by
  unfold laws_toInt64S.f
  simp only [if_pos (show (0 : Int) ≤ (l.length : Int) by omega), if_pos (show ((l.length : Int)).toNat ≤ 35184372088832 by omega)]
  exact laws_toInt64S.ev_l l (by omega) l.length 0 _ (by simp) (fun j hj => by omega) (by omega)

theorem laws_eqInt64S.ev_l (l : List Int) (hl : l.length ≤ 281474976710656) (d : Nat) : ∀ (i : Nat), i + d = l.length → Ev (fun k => laws_eqInt64S.l0 k l l (i : Int)) true := by
  induction d with
  | zero =>
    intro i h3
    refine Ev.step (fun k => laws_eqInt64S.l0.eq_2 ..) ?_
    simp only [if_neg (show ¬ ((i : Int) < (l.length : Int)) by omega)]
    exact Ev.now _
  | succ d ih =>
    intro i h3
    refine Ev.step (fun k => laws_eqInt64S.l0.eq_2 ..) ?_
    simp only [if_pos (show (i : Int) < (l.length : Int) by omega), if_pos (show (0 : Int) ≤ (i : Int) by omega), if_true]
    rw [w64 (by omega) (by omega)]
    exact ih (i + 1) (by omega)
theorem laws_eqInt64S.ev (l : List Int) (hl : l.length ≤ 281474976710656) : Ev (fun k => laws_eqInt64S.f k l l) true := by
  unfold laws_eqInt64S.f
  simp only [if_true]
  exact laws_eqInt64S.ev_l l hl l.length 0 (by omega)

theorem spec_l01In.sp (a b c : Int) : spec_l01In.f a b c = some (decide (b ≤ a ∧ a ≤ c)) := by
  unfold spec_l01In.f
  by_cases h : b ≤ a <;> simp [h]

def ListsOK (b c : List Int) : Prop := 1 ≤ b.length ∧ b.length ≤ 10 ∧ c.length = b.length ∧ ∀ j : Nat, 0 ≤ j → j < b.length → 1 ≤ rd b j ∧ rd b j ≤ 62 ∧ 1 ≤ rd c j ∧ rd c j ≤ 62
theorem spec_l06Lists.ev_l (b c : List Int) (h10 : b.length ≤ 10) (hl : c.length = b.length) (h1 : 1 ≤ b.length) (d : Nat) : ∀ i : Nat, i + d = b.length → ((∀ j : Nat, i ≤ j → j < b.length → 1 ≤ rd b j ∧ rd b j ≤ 62 ∧ 1 ≤ rd c j ∧ rd c j ≤ 62) ↔ ListsOK b c) →
    Ev (fun q => spec_l06Lists.l0 q b c (i : Int)) (decide (ListsOK b c)) := by
  induction d with
  | zero =>
    intro i h hj
    refine Ev.step (fun k => spec_l06Lists.l0.eq_2 ..) ?_
    simp only [if_neg (show ¬ ((i : Int) < (b.length : Int)) by omega)]
    rw [decide_eq_true (hj.1 (scan_end (by omega)))]
    exact Ev.now _
  | succ d ih =>
    intro i h hj
    refine Ev.step (fun k => spec_l06Lists.l0.eq_2 ..) ?_
    rw [w64 (by omega) (by omega)]
    simp only [if_pos (show (i : Int) < (b.length : Int) by omega), if_pos (show (0 : Int) ≤ (i : Int) by omega), if_pos (show (i : Int) < (c.length : Int) by omega), spec_l01In.sp, Option.bind_some, decide_eq_true_eq]
    by_cases c1 : 1 ≤ rd b (i : Int) ∧ rd b (i : Int) ≤ 62 ∧ 1 ≤ rd c (i : Int) ∧ rd c (i : Int) ≤ 62
    · simp only [if_pos (show 1 ≤ rd b (i : Int) ∧ rd b (i : Int) ≤ 62 from ⟨c1.1, c1.2.1⟩), if_pos c1.2.2]
      exact ih (i + 1) (by omega) ((scan_step (P := fun j : Nat => 1 ≤ rd b j ∧ rd b j ≤ 62 ∧ 1 ≤ rd c j ∧ rd c j ≤ 62) (i := i) c1).symm.trans hj)
    · have hn : ¬ ListsOK b c := fun a => scan_fail (P := fun j : Nat => 1 ≤ rd b j ∧ rd b j ≤ 62 ∧ 1 ≤ rd c j ∧ rd c j ≤ 62) (i := i) c1 (by omega) (hj.2 a)
      rw [decide_eq_false hn]
      by_cases c2 : 1 ≤ rd b (i : Int) ∧ rd b (i : Int) ≤ 62
      · simp only [if_pos c2, if_neg (show ¬ (1 ≤ rd c (i : Int) ∧ rd c (i : Int) ≤ 62) from fun a => c1 ⟨c2.1, c2.2, a⟩)]
        exact Ev.now _
      · simp only [if_neg c2]
        exact Ev.now _
theorem spec_l06Lists.ev (b c : List Int) : Ev (fun q => spec_l06Lists.f q b c) (decide (ListsOK b c)) := by
  unfold spec_l06Lists.f
  by_cases h1 : (b.length : Int) = (c.length : Int)
  · simp only [if_pos h1]
    by_cases h2 : (b.length : Int) < 1
    · simp only [if_pos h2]
      refine Ev.step (fun k => spec_l06Lists.j0.eq_2 ..) ?_
      simp only [if_true]
      rw [decide_eq_false (fun a => by have := a.1; omega)]
      exact Ev.now _
    · simp only [if_neg h2]
      refine Ev.step (fun k => spec_l06Lists.j0.eq_2 ..) ?_
      simp only [decide_eq_true_eq]
      by_cases h3 : (b.length : Int) > 10
      · simp only [if_pos h3]
        rw [decide_eq_false (fun a => by have := a.2.1; omega)]
        exact Ev.now _
      · simp only [if_neg h3]
        exact spec_l06Lists.ev_l b c (by omega) (by omega) (by omega) b.length 0 (by omega) ⟨fun a => ⟨by omega, by omega, by omega, a⟩, fun a => a.2.2.2⟩
  · simp only [if_neg h1]
    refine Ev.step (fun k => spec_l06Lists.j0.eq_2 ..) ?_
    simp only [if_true]
    rw [decide_eq_false (fun a => by have := a.2.2.1; omega)]
    exact Ev.now _

/-- The numbers at distances: d more, behind out, from i on. -/
def numsRun (b c : List Int) : Nat → Nat → List Int → List Int × Bool
  | 0, _, out => (out, true)
  | d + 1, i, out => if (rd out i * rd b i) % rd c i = 0 then numsRun b c d (i + 1) (out ++ [rd out i * rd b i / rd c i]) else ([], false)
def p62 : Nat → Int | 0 => 1 | n + 1 => 62 * p62 n
theorem p62_pos (n : Nat) : 1 ≤ p62 n := by
  induction n with
  | zero => simp [p62]
  | succ n ih => simp only [p62]; omega
theorem p62_le {n : Nat} (h : n ≤ 10) : p62 n ≤ 839299365868340224 := by
  have : ∀ n, n < 11 → p62 n ≤ 839299365868340224 := by decide
  exact this n (by omega)
theorem num_step {x b c : Int} {i : Nat} (h0 : 0 ≤ x) (h1 : x ≤ p62 i) (hb : 1 ≤ b) (hb1 : b ≤ 62) (hc : 1 ≤ c) : 0 ≤ x * b ∧ x * b ≤ p62 (i + 1) ∧ 0 ≤ x * b / c ∧ x * b / c ≤ p62 (i + 1) := by
  have e : 0 ≤ x * b := Int.mul_nonneg h0 (by omega)
  have f : x * b ≤ p62 (i + 1) := by
    have h3 := Int.mul_le_mul h1 hb1 (by omega) (by have := p62_pos i; omega)
    have : p62 (i + 1) = 62 * p62 i := rfl
    rw [this, Int.mul_comm 62]; exact h3
  have g : x * b / c ≤ x * b := Int.ediv_le_self c e
  exact ⟨e, f, Int.ediv_nonneg e (by omega), by omega⟩
theorem rd_append_lt (l : List Int) (x : Int) (i : Nat) (h : i < l.length) : rd (l ++ [x]) (i : Int) = rd l (i : Int) := by
  rw [rd_nat, rd_nat, List.getD_eq_getElem?_getD, List.getD_eq_getElem?_getD, List.getElem?_append_left h]
theorem rd_append_last (l : List Int) (x : Int) : rd (l ++ [x]) (l.length : Int) = x := by
  rw [rd_nat]; simp
theorem numsRun_inv (b c : List Int) (h : ListsOK b c) (d : Nat) : ∀ (i : Nat) (out : List Int), i + d = b.length → out.length = i + 1 → (∀ j : Nat, j < out.length → 0 ≤ rd out j ∧ rd out j ≤ p62 j) →
    (numsRun b c d i out).1.length ≤ 11 ∧ ((numsRun b c d i out).2 = true → (numsRun b c d i out).1.length = b.length + 1 ∧ ∀ j : Nat, j < b.length + 1 → 0 ≤ rd (numsRun b c d i out).1 j ∧ rd (numsRun b c d i out).1 j ≤ p62 j) := by
  have h10 := h.2.1
  induction d with
  | zero => intro i out h1 h2 h3; exact ⟨by simp only [numsRun]; omega, fun _ => ⟨by simp only [numsRun]; omega, fun j hj => h3 j (by omega)⟩⟩
  | succ d ih =>
    intro i out h1 h2 h3
    simp only [numsRun]
    split
    · have e := h.2.2.2 i (by omega) (by omega)
      have o := h3 i (by omega)
      have s := num_step o.1 o.2 e.1 e.2.1 e.2.2.1
      refine ih (i + 1) _ (by omega) (by simp [h2]) (fun j hj => ?_)
      simp only [List.length_append, List.length_cons, List.length_nil] at hj
      by_cases c1 : j < out.length
      · rw [rd_append_lt _ _ _ c1]; exact h3 j c1
      · have : j = out.length := by omega
        subst this
        rw [rd_append_last, h2]
        exact ⟨s.2.2.1, s.2.2.2⟩
    · exact ⟨by simp, fun a => by simp at a⟩
theorem spec_l06Numbers.ev_l (b c : List Int) (h : ListsOK b c) (d : Nat) : ∀ (i : Nat) (out : List Int), i + d = b.length → out.length = i + 1 → (∀ j : Nat, j < out.length → 0 ≤ rd out j ∧ rd out j ≤ p62 j) →
    Ev (fun q => spec_l06Numbers.l0 q b c out (i : Int)) (numsRun b c d i out) := by
  have h10 := h.2.1
  have hl := h.2.2.1
  induction d with
  | zero =>
    intro i out h1 h2 h3
    refine Ev.step (fun k => spec_l06Numbers.l0.eq_2 ..) ?_
    simp only [if_neg (show ¬ ((i : Int) < (b.length : Int)) by omega)]
    exact Ev.now _
  | succ d ih =>
    intro i out h1 h2 h3
    refine Ev.step (fun k => spec_l06Numbers.l0.eq_2 ..) ?_
    have e := h.2.2.2 i (by omega) (by omega)
    have o := h3 i (by omega)
    have s := num_step o.1 o.2 e.1 e.2.1 e.2.2.1
    have t := p62_le (show i + 1 ≤ 10 by omega)
    rw [w64 (n := rd out i * rd b i) (by omega) (by omega), tmod_pos s.1, tdiv_pos s.1, w64 (n := rd out i * rd b i / rd c i) (by omega) (by omega), w64 (by omega) (by omega)]
    simp only [if_pos (show (i : Int) < (b.length : Int) by omega), if_pos (show (0 : Int) ≤ (i : Int) by omega), if_pos (show (i : Int) < (c.length : Int) by omega), if_pos (show (i : Int) < (out.length : Int) by omega), if_neg (show ¬ rd c (i : Int) = 0 by omega), if_pos (show out.length < 17592186044416 by omega), numsRun]
    by_cases c1 : (rd out (i : Int) * rd b (i : Int)) % rd c (i : Int) = 0
    · simp only [if_pos c1]
      refine ih (i + 1) _ (by omega) (by simp [h2]) (fun j hj => ?_)
      simp only [List.length_append, List.length_cons, List.length_nil] at hj
      by_cases c2 : j < out.length
      · rw [rd_append_lt _ _ _ c2]; exact h3 j c2
      · have : j = out.length := by omega
        subst this
        rw [rd_append_last, h2]
        exact ⟨s.2.2.1, s.2.2.2⟩
    · simp only [if_neg c1]
      exact Ev.now _
theorem nums_start : ∀ j : Nat, j < ([1] : List Int).length → 0 ≤ rd [1] (j : Int) ∧ rd [1] (j : Int) ≤ p62 j := by
  intro j hj
  have : j = 0 := by simpa using hj
  subst this
  decide
theorem spec_l06Numbers.ev (b c : List Int) (h : ListsOK b c) : Ev (fun q => spec_l06Numbers.f q b c) (numsRun b c b.length 0 [1]) := by
  unfold spec_l06Numbers.f
  exact spec_l06Numbers.ev_l b c h b.length 0 [1] (by omega) rfl nums_start

noncomputable def listsC (b c : List Int) : Int := if ListsOK b c then 0 else 2
theorem impl_listsCode.ev_l (b c : List Int) (h10 : b.length ≤ 10) (hl : c.length = b.length) (h1 : 1 ≤ b.length) (d : Nat) : ∀ i : Nat, i + d = b.length → ((∀ j : Nat, i ≤ j → j < b.length → 1 ≤ rd b j ∧ rd b j ≤ 62 ∧ 1 ≤ rd c j ∧ rd c j ≤ 62) ↔ ListsOK b c) →
    Ev (fun q => impl_listsCode.l0 q b c (b.length : Int) (i : Int)) (listsC b c) := by
  induction d with
  | zero =>
    intro i h hj
    refine Ev.step (fun k => impl_listsCode.l0.eq_2 ..) ?_
    simp only [if_neg (show ¬ ((i : Int) < (b.length : Int)) by omega)]
    unfold listsC
    rw [if_pos (hj.1 (scan_end (by omega)))]
    exact Ev.now _
  | succ d ih =>
    intro i h hj
    refine Ev.step (fun k => impl_listsCode.l0.eq_2 ..) ?_
    rw [w64 (by omega) (by omega)]
    simp only [if_pos (show (i : Int) < (b.length : Int) by omega), if_pos (show (0 : Int) ≤ (i : Int) by omega), if_pos (show (i : Int) < (c.length : Int) by omega)]
    by_cases c1 : 1 ≤ rd b (i : Int) ∧ rd b (i : Int) ≤ 62 ∧ 1 ≤ rd c (i : Int) ∧ rd c (i : Int) ≤ 62
    · simp only [if_neg (show ¬ rd b (i : Int) < 1 by omega), if_neg (show ¬ rd b (i : Int) > 62 by omega), if_neg (show ¬ rd c (i : Int) < 1 by omega), if_neg (show ¬ rd c (i : Int) > 62 by omega)]
      exact ih (i + 1) (by omega) ((scan_step (P := fun j : Nat => 1 ≤ rd b j ∧ rd b j ≤ 62 ∧ 1 ≤ rd c j ∧ rd c j ≤ 62) (i := i) c1).symm.trans hj)
    · have hn : ¬ ListsOK b c := fun a => scan_fail (P := fun j : Nat => 1 ≤ rd b j ∧ rd b j ≤ 62 ∧ 1 ≤ rd c j ∧ rd c j ≤ 62) (i := i) c1 (by omega) (hj.2 a)
      unfold listsC
      rw [if_neg hn]
      by_cases c2 : rd b (i : Int) < 1
      · simp only [if_pos c2]; exact Ev.now _
      by_cases c3 : rd b (i : Int) > 62
      · simp only [if_neg c2, if_pos c3]; exact Ev.now _
      by_cases c4 : rd c (i : Int) < 1
      · simp only [if_neg c2, if_neg c3, if_pos c4]; exact Ev.now _
      · simp only [if_neg c2, if_neg c3, if_neg c4, if_pos (show rd c (i : Int) > 62 by omega)]; exact Ev.now _
theorem impl_listsCode.ev (b c : List Int) : Ev (fun q => impl_listsCode.f q b c) (listsC b c) := by
  unfold impl_listsCode.f
  by_cases h2 : (b.length : Int) < 1
  · simp only [if_pos h2]
    refine Ev.step (fun k => impl_listsCode.j0.eq_2 ..) ?_
    simp only [if_true]
    unfold listsC
    rw [if_neg (fun a => by have := a.1; omega)]
    exact Ev.now _
  by_cases h3 : (b.length : Int) > 10
  · simp only [if_neg h2, if_pos h3]
    refine Ev.step (fun k => impl_listsCode.j0.eq_2 ..) ?_
    simp only [if_true]
    unfold listsC
    rw [if_neg (fun a => by have := a.2.1; omega)]
    exact Ev.now _
  simp only [if_neg h2, if_neg h3]
  refine Ev.step (fun k => impl_listsCode.j0.eq_2 ..) ?_
  by_cases h4 : (c.length : Int) = (b.length : Int)
  · simp only [bne_iff_ne, ne_eq, h4, not_true, if_false]
    exact impl_listsCode.ev_l b c (by omega) (by omega) (by omega) b.length 0 (by omega) ⟨fun a => ⟨by omega, by omega, by omega, a⟩, fun a => a.2.2.2⟩
  · simp only [bne_iff_ne, ne_eq, h4, not_false_eq_true, if_true]
    unfold listsC
    rw [if_neg (fun a => by have := a.2.2.1; omega)]
    exact Ev.now _

theorem impl_numbersAt.ev_l (b c : List Int) (h : ListsOK b c) (d : Nat) : ∀ (i : Nat) (out : List Int), i + d = b.length → out.length = i + 1 → (∀ j : Nat, j < out.length → 0 ≤ rd out j ∧ rd out j ≤ p62 j) →
    Ev (fun q => impl_numbersAt.l0 q b c out (b.length : Int) (i : Int)) (numsRun b c d i out) := by
  have h10 := h.2.1
  have hl := h.2.2.1
  induction d with
  | zero =>
    intro i out h1 h2 h3
    refine Ev.step (fun k => impl_numbersAt.l0.eq_2 ..) ?_
    simp only [if_neg (show ¬ ((i : Int) < (b.length : Int)) by omega)]
    exact Ev.now _
  | succ d ih =>
    intro i out h1 h2 h3
    refine Ev.step (fun k => impl_numbersAt.l0.eq_2 ..) ?_
    have e := h.2.2.2 i (by omega) (by omega)
    have o := h3 i (by omega)
    have s := num_step o.1 o.2 e.1 e.2.1 e.2.2.1
    have t := p62_le (show i + 1 ≤ 10 by omega)
    rw [w64 (n := rd out i * rd b i) (by omega) (by omega), tmod_pos s.1, tdiv_pos s.1, w64 (n := rd out i * rd b i / rd c i) (by omega) (by omega), w64 (by omega) (by omega)]
    simp only [if_pos (show (i : Int) < (b.length : Int) by omega), if_pos (show (0 : Int) ≤ (i : Int) by omega), if_pos (show (i : Int) < (c.length : Int) by omega), if_pos (show (i : Int) < (out.length : Int) by omega), if_neg (show ¬ rd c (i : Int) = 0 by omega), if_pos (show out.length < 17592186044416 by omega), numsRun]
    by_cases c1 : (rd out (i : Int) * rd b (i : Int)) % rd c (i : Int) = 0
    · simp only [if_pos c1]
      refine ih (i + 1) _ (by omega) (by simp [h2]) (fun j hj => ?_)
      simp only [List.length_append, List.length_cons, List.length_nil] at hj
      by_cases c2 : j < out.length
      · rw [rd_append_lt _ _ _ c2]; exact h3 j c2
      · have : j = out.length := by omega
        subst this
        rw [rd_append_last, h2]
        exact ⟨s.2.2.1, s.2.2.2⟩
    · simp only [if_neg c1]
      exact Ev.now _
theorem impl_numbersAt.ev (b c : List Int) (h : ListsOK b c) : Ev (fun q => impl_numbersAt.f q b c) (numsRun b c b.length 0 [1]) := by
  unfold impl_numbersAt.f
  exact impl_numbersAt.ev_l b c h b.length 0 [1] (by omega) rfl nums_start

def P1 (b c : List Int) (k : Nat) : Prop := rd b (k : Int) ≤ rd b ((k : Int) - 1) ∧ rd c ((k : Int) - 1) ≤ rd c (k : Int) ∧ rd b (k : Int) + rd c ((k : Int) - 1) ≤ rd b 0
def sum2 (l : List Int) : Nat → Nat → Int → Int
  | 0, _, s => s
  | d + 1, i, s => sum2 l d (i + 1) (s + rd l (i : Int) % 2)
theorem sum2_bd (l : List Int) (d : Nat) : ∀ (i : Nat) (s : Int), s ≤ sum2 l d i s ∧ sum2 l d i s ≤ s + d := by
  induction d with
  | zero => intro i s; simp [sum2]
  | succ d ih =>
    intro i s
    have := ih (i + 1) (s + rd l (i : Int) % 2)
    simp only [sum2]
    omega
def NUM (b c : List Int) : List Int × Bool := numsRun b c b.length 0 [1]
def EvenP (b c : List Int) : Prop := sum2 (NUM b c).1 (NUM b c).1.length 0 0 * rd b 0 % 2 = 0
def FeasP (b c : List Int) : Prop := rd c 0 = 1 ∧ rd c ((b.length : Int) - 1) ≤ rd b 0 ∧ (∀ k : Nat, 1 ≤ k → k < b.length → P1 b c k) ∧
  (∀ i : Nat, 0 ≤ i → i < b.length → ∀ j : Nat, 0 ≤ j → j < b.length → i + 1 + j ≤ b.length → rd c (i : Int) ≤ rd b (j : Int)) ∧ (NUM b c).2 = true ∧ EvenP b c
noncomputable def feasR (b c : List Int) : Bool × Int := if ListsOK b c then (decide (FeasP b c), 0) else (false, 2)
theorem NUM_inv (b c : List Int) (h : ListsOK b c) : (NUM b c).1.length ≤ 11 ∧ ((NUM b c).2 = true → ∀ j : Nat, j < (NUM b c).1.length → 0 ≤ rd (NUM b c).1 j) ∧ ((NUM b c).2 = false → (NUM b c).1 = []) := by
  have := numsRun_inv b c h b.length 0 [1] (by omega) rfl nums_start
  refine ⟨this.1, fun e j hj => ?_, ?_⟩
  · obtain ⟨h1, h2⟩ := this.2 e
    exact (h2 j (by unfold NUM at hj; omega)).1
  · have : ∀ d i out, (numsRun b c d i out).2 = false → (numsRun b c d i out).1 = [] := by
      intro d
      induction d with
      | zero => intro i out e; simp [numsRun] at e
      | succ d ih =>
        intro i out e
        simp only [numsRun] at e ⊢
        split
        · rename_i hh; rw [if_pos hh] at e; exact ih _ _ e
        · rfl
    exact this b.length 0 [1]
theorem rdb (b c : List Int) (h : ListsOK b c) (j : Nat) (hj : j < b.length) : 1 ≤ rd b (j : Int) ∧ rd b (j : Int) ≤ 62 ∧ 1 ≤ rd c (j : Int) ∧ rd c (j : Int) ≤ 62 := h.2.2.2 j (by omega) hj

/-! impl -/
theorem impl_AreFeasible.ev_2 (b c : List Int) (h : ListsOK b c) (h0 : ∀ j : Nat, j < (NUM b c).1.length → 0 ≤ rd (NUM b c).1 j) (d : Nat) : ∀ (i : Nat) (s : Int), 0 ≤ s → s ≤ i → i + d = (NUM b c).1.length →
    Ev (fun q => impl_AreFeasible.l2 q b (s * rd b 0) (NUM b c).1 ((NUM b c).1.length : Int) (i : Int)) (decide (sum2 (NUM b c).1 d i s * rd b 0 % 2 = 0), 0) := by
  have hl := (NUM_inv b c h).1
  have h1 := h.1
  have hb := rdb b c h 0 (by omega)
  rw [show ((0 : Nat) : Int) = 0 from rfl] at hb
  induction d with
  | zero =>
    intro i s hs hs1 e
    refine Ev.step (fun k => impl_AreFeasible.l2.eq_2 ..) ?_
    have e1 : 0 ≤ s * rd b 0 := Int.mul_nonneg hs (by omega)
    rw [tmod_pos e1]
    simp only [if_neg (show ¬ ((i : Int) < ((NUM b c).1.length : Int)) by omega), sum2]
    refine ev_some ?_
    congr 1
  | succ d ih =>
    intro i s hs hs1 e
    refine Ev.step (fun k => impl_AreFeasible.l2.eq_2 ..) ?_
    have e0 := h0 i (by omega)
    rw [tmod_pos e0]
    have e2 : rd (NUM b c).1 (i : Int) % 2 * rd b 0 = 0 ∨ rd (NUM b c).1 (i : Int) % 2 * rd b 0 = rd b 0 := by
      rcases (show rd (NUM b c).1 (i : Int) % 2 = 0 ∨ rd (NUM b c).1 (i : Int) % 2 = 1 by omega) with e | e <;> rw [e] <;> omega
    have e1 : 0 ≤ s * rd b 0 := Int.mul_nonneg hs (by omega)
    have e3 : s * rd b 0 ≤ 11 * 62 := Int.mul_le_mul (by omega) hb.2.1 (by omega) (by omega)
    rw [w64 (n := rd (NUM b c).1 (i : Int) % 2 * rd b 0) (by omega) (by omega), w64 (n := s * rd b 0 + _) (by omega) (by omega), w64 (by omega) (by omega)]
    simp only [if_pos (show (i : Int) < ((NUM b c).1.length : Int) by omega), if_pos (show (0 : Int) ≤ (i : Int) by omega), if_pos (show (0 : Int) < (b.length : Int) by omega), sum2]
    rw [← Int.add_mul]
    exact ih (i + 1) _ (by omega) (by omega) (by omega)
theorem impl_AreFeasible.ev_fin (b c : List Int) (h : ListsOK b c) : Ev (fun q => (impl_numbersAt.f q b c).bind fun bt => if bt.2 = true then impl_AreFeasible.l2 q b 0 bt.1 (bt.1.length : Int) 0 else some (false, 0)) (decide ((NUM b c).2 = true ∧ EvenP b c), 0) := by
  refine Ev.bind (impl_numbersAt.ev b c h) ?_
  change Ev (fun q => if (NUM b c).2 = true then impl_AreFeasible.l2 q b 0 (NUM b c).1 ((NUM b c).1.length : Int) 0 else some (false, 0)) _
  by_cases e : (NUM b c).2 = true
  · have := impl_AreFeasible.ev_2 b c h ((NUM_inv b c h).2.1 e) (NUM b c).1.length 0 0 (by omega) (by omega) (by omega)
    rw [Int.zero_mul] at this
    simp only [e, if_true, true_and]
    exact ev_cast this (pair_dec Iff.rfl)
  · simp only [if_neg e, e, false_and, decide_false]
    exact Ev.now _
theorem impl_AreFeasible.ev_1 (b c : List Int) (h : ListsOK b c) (i : Nat) (hi : i < b.length) (X : Bool × Int)
    (hX : Ev (fun q => impl_AreFeasible.l0 q b c (b.length : Int) (b.length : Int) ((i + 1 : Nat) : Int)) X) (d : Nat) : ∀ j : Nat, j + d = b.length →
    Ev (fun q => impl_AreFeasible.l1 q b c (b.length : Int) (i : Int) (j : Int) (b.length : Int) (i : Int)) (if ∀ k : Nat, j ≤ k → k < b.length → i + 1 + k ≤ b.length → rd c (i : Int) ≤ rd b (k : Int) then X else (false, 0)) := by
  have h10 := h.2.1
  have hl := h.2.2.1
  induction d with
  | zero =>
    intro j e
    refine Ev.step (fun k => impl_AreFeasible.l1.eq_2 ..) ?_
    rw [w64 (n := (i : Int) + 1) (by omega) (by omega), w64 (by omega) (by omega)]
    simp only [if_neg (show ¬ ((i : Int) + 1 + (j : Int) ≤ (b.length : Int)) by omega)]
    refine Ev.step (fun k => impl_AreFeasible.j4.eq_2 ..) ?_
    simp only [Bool.false_eq_true, if_false]
    rw [if_pos (fun k h1 h2 => by omega), w64 (by omega) (by omega)]
    exact hX
  | succ d ih =>
    intro j e
    refine Ev.step (fun k => impl_AreFeasible.l1.eq_2 ..) ?_
    rw [w64 (n := (i : Int) + 1) (by omega) (by omega), w64 (by omega) (by omega)]
    by_cases c1 : (i : Int) + 1 + (j : Int) ≤ (b.length : Int)
    · simp only [if_pos c1]
      refine Ev.step (fun k => impl_AreFeasible.j4.eq_2 ..) ?_
      rw [w64 (n := (j : Int) + 1) (by omega) (by omega)]
      simp only [decide_eq_true_eq, if_pos (show (j : Int) < (b.length : Int) by omega), if_pos (show (0 : Int) ≤ (i : Int) by omega), if_pos (show (i : Int) < (c.length : Int) by omega), if_pos (show (0 : Int) ≤ (j : Int) by omega)]
      by_cases c2 : rd c (i : Int) > rd b (j : Int)
      · simp only [if_pos c2]
        rw [if_neg (fun a => by have := a j (Nat.le_refl _) (by omega) (by omega); omega)]
        exact Ev.now _
      · simp only [if_neg c2]
        refine ev_cast (ih (j + 1) (by omega)) ?_
        have : (∀ k : Nat, j + 1 ≤ k → k < b.length → i + 1 + k ≤ b.length → rd c (i : Int) ≤ rd b (k : Int)) ↔ ∀ k : Nat, j ≤ k → k < b.length → i + 1 + k ≤ b.length → rd c (i : Int) ≤ rd b (k : Int) :=
          (scan_step (P := fun k : Nat => i + 1 + k ≤ b.length → rd c (i : Int) ≤ rd b (k : Int)) (fun _ => by omega)).symm
        simp only [this]
    · simp only [if_neg c1]
      refine Ev.step (fun k => impl_AreFeasible.j4.eq_2 ..) ?_
      simp only [Bool.false_eq_true, if_false]
      rw [if_pos (fun k h1 h2 h3 => by omega), w64 (by omega) (by omega)]
      exact hX
theorem impl_AreFeasible.ev_0 (b c : List Int) (h : ListsOK b c) (d : Nat) : ∀ i : Nat, i + d = b.length →
    Ev (fun q => impl_AreFeasible.l0 q b c (b.length : Int) (b.length : Int) (i : Int))
      (decide ((∀ k : Nat, i ≤ k → k < b.length → (1 ≤ k → P1 b c k) ∧ ∀ j : Nat, 0 ≤ j → j < b.length → k + 1 + j ≤ b.length → rd c (k : Int) ≤ rd b (j : Int)) ∧ (NUM b c).2 = true ∧ EvenP b c), 0) := by
  have h10 := h.2.1
  have hl := h.2.2.1
  induction d with
  | zero =>
    intro i e
    refine Ev.step (fun k => impl_AreFeasible.l0.eq_2 ..) ?_
    simp only [if_neg (show ¬ ((i : Int) < (b.length : Int)) by omega)]
    refine ev_cast (impl_AreFeasible.ev_fin b c h) ?_
    refine pair_dec ?_
    exact ⟨fun a => ⟨scan_end (by omega), a⟩, fun a => a.2⟩
  | succ d ih =>
    intro i e
    have key : ∀ (g : Bool), (g = true ↔ ¬ (1 ≤ i → P1 b c i)) → Ev (fun q => impl_AreFeasible.j2 q b c (b.length : Int) (i : Int) (b.length : Int) (i : Int) g)
        (decide ((∀ k : Nat, i ≤ k → k < b.length → (1 ≤ k → P1 b c k) ∧ ∀ j : Nat, 0 ≤ j → j < b.length → k + 1 + j ≤ b.length → rd c (k : Int) ≤ rd b (j : Int)) ∧ (NUM b c).2 = true ∧ EvenP b c), 0) := by
      intro g hg
      refine Ev.step (fun k => impl_AreFeasible.j2.eq_2 ..) ?_
      by_cases c1 : g = true
      · simp only [if_pos c1]
        rw [decide_eq_false (fun a => hg.1 c1 (a.1 i (Nat.le_refl _) (by omega)).1)]
        exact Ev.now _
      · simp only [if_neg c1]
        have c2 : 1 ≤ i → P1 b c i := Classical.not_not.1 fun a => c1 (hg.2 a)
        refine ev_cast (impl_AreFeasible.ev_1 b c h i (by omega) _ (ih (i + 1) (by omega)) b.length 0 (by omega)) ?_
        by_cases c3 : ∀ k : Nat, 0 ≤ k → k < b.length → i + 1 + k ≤ b.length → rd c (i : Int) ≤ rd b (k : Int)
        · rw [if_pos c3]
          refine pair_dec ?_
          rw [scan_step (P := fun k : Nat => (1 ≤ k → P1 b c k) ∧ ∀ j : Nat, 0 ≤ j → j < b.length → k + 1 + j ≤ b.length → rd c (k : Int) ≤ rd b (j : Int)) (i := i) ⟨c2, c3⟩]
        · rw [if_neg c3, decide_eq_false (fun a => c3 (a.1 i (Nat.le_refl _) (by omega)).2)]
    refine Ev.step (fun k => impl_AreFeasible.l0.eq_2 ..) ?_
    simp only [if_pos (show (i : Int) < (b.length : Int) by omega)]
    by_cases c0 : 1 ≤ i
    · have r1 := rdb b c h i (by omega)
      have r2 := rdb b c h (i - 1) (by omega)
      rw [show ((i - 1 : Nat) : Int) = (i : Int) - 1 by omega] at r2
      rw [w64 (n := (i : Int) - 1) (by omega) (by omega), w64 (n := rd b (i : Int) + _) (by omega) (by omega)]
      simp only [if_pos (show (i : Int) > 0 by omega), if_pos (show (0 : Int) ≤ (i : Int) by omega), if_pos (show (0 : Int) ≤ (i : Int) - 1 by omega), if_pos (show (i : Int) - 1 < (b.length : Int) by omega), if_pos (show (i : Int) < (c.length : Int) by omega), if_pos (show (i : Int) - 1 < (c.length : Int) by omega), if_pos (show (0 : Int) < (b.length : Int) by omega)]
      by_cases c1 : rd b (i : Int) > rd b ((i : Int) - 1)
      · simp only [if_pos c1]
        exact key true ⟨fun _ a => by have := (a c0).1; omega, fun _ => rfl⟩
      · simp only [if_neg c1]
        by_cases c2 : rd c (i : Int) < rd c ((i : Int) - 1)
        · simp only [if_pos c2]
          exact key true ⟨fun _ a => by have := (a c0).2.1; omega, fun _ => rfl⟩
        · simp only [if_neg c2]
          refine key _ ?_
          rw [decide_eq_true_eq]
          exact ⟨fun g a => by have := (a c0).2.2; omega, fun g => Int.not_le.1 fun a => g fun _ => ⟨by omega, by omega, a⟩⟩
    · simp only [if_neg (show ¬ ((i : Int) > 0) by omega)]
      exact key false ⟨fun g => (Bool.false_ne_true g).elim, fun g => (g fun a => absurd a c0).elim⟩
theorem feas_iff (b c : List Int) : FeasP b c ↔ rd c 0 = 1 ∧ rd c ((b.length : Int) - 1) ≤ rd b 0 ∧ (∀ k : Nat, 0 ≤ k → k < b.length → (1 ≤ k → P1 b c k) ∧ ∀ j : Nat, 0 ≤ j → j < b.length → k + 1 + j ≤ b.length → rd c (k : Int) ≤ rd b (j : Int)) ∧ (NUM b c).2 = true ∧ EvenP b c :=
  ⟨fun ⟨a1, a2, a3, a4, a5, a6⟩ => ⟨a1, a2, fun k h0 h1 => ⟨fun h => a3 k h h1, a4 k h0 h1⟩, a5, a6⟩, fun ⟨a1, a2, a3, a5, a6⟩ => ⟨a1, a2, fun k h h1 => (a3 k (by omega) h1).1 h, fun k h0 h1 => (a3 k h0 h1).2, a5, a6⟩⟩
theorem impl_AreFeasible.ev (b c : List Int) : Ev (fun q => impl_AreFeasible.f q b c) (feasR b c) := by
  unfold impl_AreFeasible.f feasR
  refine Ev.bind (impl_listsCode.ev b c) ?_
  unfold listsC
  by_cases h : ListsOK b c
  · have h1 := h.1
    have h10 := h.2.1
    have hl := h.2.2.1
    simp only [if_pos h]
    rw [w64 (n := (b.length : Int) - 1) (by omega) (by omega)]
    simp only [if_true, if_pos (show (0 : Int) < (c.length : Int) by omega), if_pos (show (0 : Int) ≤ (b.length : Int) - 1 by omega), if_pos (show (b.length : Int) - 1 < (c.length : Int) by omega), if_pos (show (0 : Int) < (b.length : Int) by omega)]
    by_cases c1 : rd c 0 = 1
    · simp only [if_pos c1]
      refine Ev.step (fun k => impl_AreFeasible.j0.eq_2 ..) ?_
      simp only [decide_eq_true_eq]
      by_cases c2 : rd c ((b.length : Int) - 1) > rd b 0
      · simp only [if_pos c2]
        rw [decide_eq_false (fun a => by have := a.2.1; omega)]
        exact Ev.now _
      · simp only [if_neg c2]
        refine ev_cast (impl_AreFeasible.ev_0 b c h b.length 0 (by omega)) ?_
        refine pair_dec ?_
        rw [feas_iff]
        exact ⟨fun a => ⟨c1, by omega, a⟩, fun a => a.2.2⟩
    · simp only [if_neg c1]
      refine Ev.step (fun k => impl_AreFeasible.j0.eq_2 ..) ?_
      simp only [if_true]
      rw [decide_eq_false (fun a => c1 a.1)]
      exact Ev.now _
  · simp only [if_neg h]
    exact Ev.now _

/-! spec -/
def Rest2 (b c : List Int) (i : Nat) : Prop := ∀ k : Nat, i ≤ k → k < b.length + 1 → ∀ j : Nat, 0 ≤ j → j < b.length → k + j ≤ b.length → rd c ((k : Int) - 1) ≤ rd b (j : Int)
theorem spec_AreFeasible.ev_3 (b c : List Int) (h : ListsOK b c) (i : Nat) (hi : 1 ≤ i) (hi1 : i ≤ b.length)
    (hX : ∀ g : Bool, Ev (fun q => spec_AreFeasible.l2 q b c (b.length : Int) g ((i + 1 : Nat) : Int)) (decide (g = true ∧ Rest2 b c (i + 1)), 0)) (d : Nat) : ∀ (j : Nat) (g : Bool), j + d = b.length →
    Ev (fun q => spec_AreFeasible.l3 q b c (b.length : Int) g (i : Int) (j : Int)) (decide (g = true ∧ (∀ k : Nat, j ≤ k → k < b.length → i + k ≤ b.length → rd c ((i : Int) - 1) ≤ rd b (k : Int)) ∧ Rest2 b c (i + 1)), 0) := by
  have h10 := h.2.1
  have hl := h.2.2.1
  induction d with
  | zero =>
    intro j g e
    refine Ev.step (fun k => spec_AreFeasible.l3.eq_2 ..) ?_
    simp only [if_neg (show ¬ ((j : Int) < (b.length : Int)) by omega)]
    rw [w64 (by omega) (by omega)]
    refine ev_cast (hX g) ?_
    refine pair_dec ?_
    exact ⟨fun a => ⟨a.1, fun k h1 h2 => by omega, a.2⟩, fun a => ⟨a.1, a.2.2⟩⟩
  | succ d ih =>
    intro j g e
    refine Ev.step (fun k => spec_AreFeasible.l3.eq_2 ..) ?_
    rw [w64 (n := (i : Int) + (j : Int)) (by omega) (by omega), w64 (n := (i : Int) - 1) (by omega) (by omega), w64 (n := (j : Int) + 1) (by omega) (by omega), w64 (n := (i : Int) + 1) (by omega) (by omega)]
    simp only [if_pos (show (j : Int) < (b.length : Int) by omega)]
    by_cases c1 : (i : Int) + (j : Int) ≤ (b.length : Int)
    · simp only [if_pos c1, if_pos (show (0 : Int) ≤ (i : Int) - 1 by omega), if_pos (show (i : Int) - 1 < (c.length : Int) by omega), if_pos (show (0 : Int) ≤ (j : Int) by omega)]
      have st : ∀ p : rd c ((i : Int) - 1) ≤ rd b (j : Int), (∀ k : Nat, j ≤ k → k < b.length → i + k ≤ b.length → rd c ((i : Int) - 1) ≤ rd b (k : Int)) ↔ ∀ k : Nat, j + 1 ≤ k → k < b.length → i + k ≤ b.length → rd c ((i : Int) - 1) ≤ rd b (k : Int) :=
        fun p => scan_step (P := fun k : Nat => i + k ≤ b.length → rd c ((i : Int) - 1) ≤ rd b (k : Int)) (fun _ => p)
      by_cases c2 : g = true
      · simp only [if_pos c2]
        refine ev_cast (ih (j + 1) _ (by omega)) ?_
        refine pair_dec ?_
        rw [decide_eq_true_eq]
        constructor
        · rintro ⟨a1, a2, a3⟩; exact ⟨c2, (st a1).2 a2, a3⟩
        · rintro ⟨a1, a2, a3⟩
          have := a2 j (Nat.le_refl _) (by omega) (by omega)
          exact ⟨this, (st this).1 a2, a3⟩
      · simp only [if_neg c2]
        refine ev_cast (ih (j + 1) false (by omega)) ?_
        refine pair_dec ?_
        exact ⟨fun a => (Bool.false_ne_true a.1).elim, fun a => (c2 a.1).elim⟩
    · simp only [if_neg c1]
      refine ev_cast (hX g) ?_
      refine pair_dec ?_
      exact ⟨fun a => ⟨a.1, fun k h1 h2 => by omega, a.2⟩, fun a => ⟨a.1, a.2.2⟩⟩
theorem spec_AreFeasible.ev_2 (b c : List Int) (h : ListsOK b c) (d : Nat) : ∀ (i : Nat) (g : Bool), 1 ≤ i → i + d = b.length + 1 →
    Ev (fun q => spec_AreFeasible.l2 q b c (b.length : Int) g (i : Int)) (decide (g = true ∧ Rest2 b c i), 0) := by
  have h10 := h.2.1
  induction d with
  | zero =>
    intro i g hi e
    refine Ev.step (fun k => spec_AreFeasible.l2.eq_2 ..) ?_
    simp only [if_neg (show ¬ ((i : Int) ≤ (b.length : Int)) by omega)]
    refine ev_some ?_
    congr 1
    have : Rest2 b c i := scan_end (by omega)
    by_cases c1 : g = true
    · rw [decide_eq_true ⟨c1, this⟩, c1]
    · rw [decide_eq_false (fun a => c1 a.1)]; simpa using c1
  | succ d ih =>
    intro i g hi e
    refine Ev.step (fun k => spec_AreFeasible.l2.eq_2 ..) ?_
    simp only [if_pos (show (i : Int) ≤ (b.length : Int) by omega)]
    refine ev_cast (spec_AreFeasible.ev_3 b c h i hi (by omega) (fun g => ih (i + 1) g (by omega) (by omega)) b.length 0 g (by omega)) ?_
    refine pair_dec ?_
    constructor
    · rintro ⟨a1, a2, a3⟩
      exact ⟨a1, (scan_step (P := fun k : Nat => ∀ j : Nat, 0 ≤ j → j < b.length → k + j ≤ b.length → rd c ((k : Int) - 1) ≤ rd b (j : Int)) (i := i) (n := b.length + 1) a2).2 a3⟩
    · rintro ⟨a1, a2⟩
      have := a2 i (Nat.le_refl _) (by omega)
      exact ⟨a1, this, (scan_step (P := fun k : Nat => ∀ j : Nat, 0 ≤ j → j < b.length → k + j ≤ b.length → rd c ((k : Int) - 1) ≤ rd b (j : Int)) (i := i) (n := b.length + 1) this).1 a2⟩
theorem spec_AreFeasible.ev_1 (b c : List Int) (h : ListsOK b c) (d : Nat) : ∀ (i : Nat) (g : Bool), 1 ≤ i → i + d = b.length →
    Ev (fun q => spec_AreFeasible.l1 q b c (b.length : Int) g (i : Int)) (decide (g = true ∧ (∀ k : Nat, i ≤ k → k < b.length → P1 b c k) ∧ Rest2 b c 1), 0) := by
  have h10 := h.2.1
  have hl := h.2.2.1
  induction d with
  | zero =>
    intro i g hi e
    refine Ev.step (fun k => spec_AreFeasible.l1.eq_2 ..) ?_
    simp only [if_neg (show ¬ ((i : Int) < (b.length : Int)) by omega)]
    refine ev_cast (spec_AreFeasible.ev_2 b c h b.length 1 g (by omega) (by omega)) ?_
    refine pair_dec ?_
    exact ⟨fun a => ⟨a.1, scan_end (by omega), a.2⟩, fun a => ⟨a.1, a.2.2⟩⟩
  | succ d ih =>
    intro i g hi e
    have fl : ¬ P1 b c i ∨ g ≠ true → Ev (fun q => spec_AreFeasible.l1 q b c (b.length : Int) false ((i + 1 : Nat) : Int)) (decide (g = true ∧ (∀ k : Nat, i ≤ k → k < b.length → P1 b c k) ∧ Rest2 b c 1), 0) := by
      intro hp
      refine ev_cast (ih (i + 1) false (by omega) (by omega)) ?_
      refine pair_dec ?_
      refine ⟨fun a => (Bool.false_ne_true a.1).elim, fun a => ?_⟩
      rcases hp with hp | hp
      · exact (hp (a.2.1 i (Nat.le_refl _) (by omega))).elim
      · exact (hp a.1).elim
    refine Ev.step (fun k => spec_AreFeasible.l1.eq_2 ..) ?_
    have r1 := rdb b c h i (by omega)
    have r2 := rdb b c h (i - 1) (by omega)
    rw [show ((i - 1 : Nat) : Int) = (i : Int) - 1 by omega] at r2
    rw [w64 (n := (i : Int) - 1) (by omega) (by omega), w64 (n := rd b (i : Int) + _) (by omega) (by omega), w64 (n := (i : Int) + 1) (by omega) (by omega)]
    simp only [if_pos (show (i : Int) < (b.length : Int) by omega), if_pos (show (0 : Int) ≤ (i : Int) by omega), if_pos (show (0 : Int) ≤ (i : Int) - 1 by omega), if_pos (show (i : Int) - 1 < (b.length : Int) by omega), if_pos (show (i : Int) < (c.length : Int) by omega), if_pos (show (i : Int) - 1 < (c.length : Int) by omega), if_pos (show (0 : Int) < (b.length : Int) by omega)]
    by_cases c1 : g = true
    · simp only [if_pos c1]
      by_cases c2 : rd b (i : Int) ≤ rd b ((i : Int) - 1)
      · simp only [if_pos c2]
        by_cases c3 : rd c (i : Int) ≥ rd c ((i : Int) - 1)
        · simp only [if_pos c3]
          refine ev_cast (ih (i + 1) _ (by omega) (by omega)) ?_
          refine pair_dec ?_
          rw [decide_eq_true_eq]
          constructor
          · rintro ⟨a1, a2, a3⟩; exact ⟨c1, (scan_step (P := P1 b c) ⟨c2, c3, a1⟩).2 a2, a3⟩
          · rintro ⟨a1, a2, a3⟩
            have := a2 i (Nat.le_refl _) (by omega)
            exact ⟨this.2.2, (scan_step (P := P1 b c) this).1 a2, a3⟩
        · simp only [if_neg c3]
          exact fl (.inl fun a => c3 a.2.1)
      · simp only [if_neg c2]
        exact fl (.inl fun a => c2 a.1)
    · simp only [if_neg c1]
      exact fl (.inr c1)
theorem spec_AreFeasible.ev_0 (b c : List Int) (h : ListsOK b c) (g : Bool) (hg : g = true → (NUM b c).2 = true) (d : Nat) : ∀ (i : Nat) (s : Int), 0 ≤ s → s ≤ i → i + d = (NUM b c).1.length →
    Ev (fun q => spec_AreFeasible.l0 q b c (NUM b c).1 (b.length : Int) g s (i : Int)) (decide (g = true ∧ sum2 (NUM b c).1 d i s * rd b 0 % 2 = 0 ∧ (∀ k : Nat, 1 ≤ k → k < b.length → P1 b c k) ∧ Rest2 b c 1), 0) := by
  have hl := (NUM_inv b c h).1
  have h1 := h.1
  have hb := rdb b c h 0 (by omega)
  rw [show ((0 : Nat) : Int) = 0 from rfl] at hb
  induction d with
  | zero =>
    intro i s hs hs1 e
    refine Ev.step (fun k => spec_AreFeasible.l0.eq_2 ..) ?_
    have e1 : 0 ≤ s * rd b 0 := Int.mul_nonneg hs (by omega)
    have e3 : s * rd b 0 ≤ 11 * 62 := Int.mul_le_mul (by omega) hb.2.1 (by omega) (by omega)
    rw [w64 (n := s * rd b 0) (by omega) (by omega), tmod_pos e1]
    simp only [if_neg (show ¬ ((i : Int) < ((NUM b c).1.length : Int)) by omega), if_pos (show (0 : Int) < (b.length : Int) by omega), sum2]
    by_cases c1 : g = true
    · simp only [if_pos c1]
      refine Ev.step (fun k => spec_AreFeasible.j2.eq_2 ..) ?_
      refine ev_cast (spec_AreFeasible.ev_1 b c h (b.length - 1) 1 _ (by omega) (by omega)) ?_
      refine pair_dec ?_
      rw [beq_iff_eq]
      exact ⟨fun a => ⟨c1, a⟩, fun a => a.2⟩
    · simp only [if_neg c1]
      refine Ev.step (fun k => spec_AreFeasible.j2.eq_2 ..) ?_
      refine ev_cast (spec_AreFeasible.ev_1 b c h (b.length - 1) 1 _ (by omega) (by omega)) ?_
      refine pair_dec ?_
      exact ⟨fun a => (Bool.false_ne_true a.1).elim, fun a => (c1 a.1).elim⟩
  | succ d ih =>
    intro i s hs hs1 e
    refine Ev.step (fun k => spec_AreFeasible.l0.eq_2 ..) ?_
    have hn : (NUM b c).2 = true := by
      by_cases a : (NUM b c).2 = true
      · exact a
      · have := (NUM_inv b c h).2.2 (by simpa using a)
        rw [this] at e
        simp at e
    have e0 := (NUM_inv b c h).2.1 hn i (by omega)
    rw [tmod_pos e0, w64 (n := s + _) (by omega) (by omega), w64 (by omega) (by omega)]
    simp only [if_pos (show (i : Int) < ((NUM b c).1.length : Int) by omega), if_pos (show (0 : Int) ≤ (i : Int) by omega), sum2]
    exact ih (i + 1) _ (by omega) (by omega) (by omega)
theorem rest_iff (b c : List Int) : Rest2 b c 1 ↔ ∀ i : Nat, 0 ≤ i → i < b.length → ∀ j : Nat, 0 ≤ j → j < b.length → i + 1 + j ≤ b.length → rd c (i : Int) ≤ rd b (j : Int) := by
  constructor
  · intro a i _ hi j h0 hj hij
    have := a (i + 1) (by omega) (by omega) j h0 hj hij
    rwa [show ((i + 1 : Nat) : Int) - 1 = (i : Int) by omega] at this
  · intro a k hk hk1 j h0 hj hkj
    have := a (k - 1) (by omega) (by omega) j h0 hj (by omega)
    rwa [show ((k - 1 : Nat) : Int) = (k : Int) - 1 by omega] at this
theorem spec_AreFeasible.ev (b c : List Int) : Ev (fun q => spec_AreFeasible.f q b c) (feasR b c) := by
  unfold spec_AreFeasible.f feasR
  refine Ev.bind (spec_l06Lists.ev b c) ?_
  simp only [decide_eq_true_eq]
  by_cases h : ListsOK b c
  · have h1 := h.1
    have h10 := h.2.1
    have hl := h.2.2.1
    simp only [if_pos h]
    refine Ev.bind (spec_l06Numbers.ev b c h) ?_
    change Ev (fun q => if (NUM b c).2 = true then (if 0 < (c.length : Int) then (if (rd c 0) = 1 then (if 0 ≤ (wrap64 ((c.length : Int) - 1)) then (if (wrap64 ((c.length : Int) - 1)) < (c.length : Int) then (if 0 < (b.length : Int) then (spec_AreFeasible.j0 q b c (NUM b c).1 (b.length : Int) (decide ((rd c (wrap64 ((c.length : Int) - 1))) ≤ (rd b 0))) 0) else (none)) else (none)) else (none)) else (spec_AreFeasible.j0 q b c (NUM b c).1 (b.length : Int) false 0)) else (none)) else (spec_AreFeasible.j0 q b c (NUM b c).1 (b.length : Int) false 0)) _
    have key : ∀ g : Bool, (g = true ↔ (NUM b c).2 = true ∧ rd c 0 = 1 ∧ rd c ((b.length : Int) - 1) ≤ rd b 0) → Ev (fun q => spec_AreFeasible.j0 q b c (NUM b c).1 (b.length : Int) g 0) (decide (FeasP b c), 0) := by
      intro g hg
      refine Ev.step (fun k => spec_AreFeasible.j0.eq_2 ..) ?_
      refine ev_cast (spec_AreFeasible.ev_0 b c h g (fun a => (hg.1 a).1) (NUM b c).1.length 0 0 (by omega) (by omega) (by omega)) ?_
      refine pair_dec ?_
      rw [rest_iff]
      constructor
      · rintro ⟨a1, a2, a3, a4⟩
        have := hg.1 a1
        exact ⟨this.2.1, this.2.2, a3, a4, this.1, a2⟩
      · rintro ⟨a1, a2, a3, a4, a5, a6⟩
        exact ⟨hg.2 ⟨a5, a1, a2⟩, a6, a3, a4⟩
    rw [w64 (n := (c.length : Int) - 1) (by omega) (by omega), show (c.length : Int) - 1 = (b.length : Int) - 1 by omega]
    simp only [if_pos (show (0 : Int) < (c.length : Int) by omega), if_pos (show (0 : Int) ≤ (b.length : Int) - 1 by omega), if_pos (show (b.length : Int) - 1 < (c.length : Int) by omega), if_pos (show (0 : Int) < (b.length : Int) by omega)]
    by_cases c0 : (NUM b c).2 = true
    · simp only [if_pos c0]
      by_cases c1 : rd c 0 = 1
      · simp only [if_pos c1]
        exact key _ (by rw [decide_eq_true_eq]; exact ⟨fun a => ⟨c0, c1, a⟩, fun a => a.2.2⟩)
      · simp only [if_neg c1]
        exact key false ⟨fun a => (Bool.false_ne_true a).elim, fun a => (c1 a.2.1).elim⟩
    · simp only [if_neg c0]
      exact key false ⟨fun a => (Bool.false_ne_true a).elim, fun a => (c0 a.1).elim⟩
  · simp only [if_neg h]
    exact Ev.now _

end Go.Proofs.Ytpnofgcgdebncaa.PFnExactAreFeasible
