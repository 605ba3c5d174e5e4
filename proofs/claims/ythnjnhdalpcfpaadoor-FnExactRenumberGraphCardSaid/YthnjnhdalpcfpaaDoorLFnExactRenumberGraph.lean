/- What the functions that FnExactRenumberGraph reaches compute. -/
import Derived.Test.YthnjnhdalpcfpaaDoorXFnExactRenumberGraphx0
import Derived.Test.YthnjnhdalpcfpaaDoorXFnExactRenumberGraphx1
import Derived.Test.YthnjnhdalpcfpaaDoorXFnExactRenumberGraphx2
import Derived.Test.YthnjnhdalpcfpaaDoorXFnExactRenumberGraphx3
import Derived.Test.YthnjnhdalpcfpaaDoorXFnExactRenumberGraphx4
import Derived.Test.YthnjnhdalpcfpaaDoorXFnExactRenumberGraphx5
import Derived.Test.YthnjnhdalpcfpaaDoorXFnExactRenumberGraphx6
import Derived.Test.YthnjnhdalpcfpaaDoorXFnExactRenumberGraphx7
import Derived.Test.YthnjnhdalpcfpaaDoorXFnExactRenumberGraphx8
import Derived.Test.YthnjnhdalpcfpaaDoorXFnExactRenumberGraphx9
import Derived.Test.YthnjnhdalpcfpaaDoorXFnExactRenumberGraphx10
import Derived.Test.YthnjnhdalpcfpaaDoorXFnExactRenumberGraphx11
import Derived.Test.YthnjnhdalpcfpaaDoorXFnExactRenumberGraphx12
import Derived.Test.YthnjnhdalpcfpaaDoorGr
namespace Go.Proofs.YthnjnhdalpcfpaaDoor.XFnExactRenumberGraph
open Go.RowKit Go.Proofs.YthnjnhdalpcfpaaDoorW.PrintWords Go.Proofs.YthnjnhdalpcfpaaDoorW.PrintLast Go.Proofs.YthnjnhdalpcfpaaDoor.B
open Classical
set_option linter.unusedVariables false
set_option linter.unusedSimpArgs false
set_option linter.unusedSectionVars false

theorem laws_szInt64S.sp {l : List Int} {a : Int} (h : l.length ≤ 9223372036854775807) (ha : a ≤ 1048576) (ha0 : 0 ≤ a) :
    (laws_szInt64S.f l a = some (-1) ∧ a < l.length) ∨ (laws_szInt64S.f l a = some (a - l.length) ∧ (l.length : Int) ≤ a) := by
  unfold laws_szInt64S.f
  rw [w64 (by omega) (by omega)]
  by_cases c : a - (l.length : Int) < 0
  · rw [if_pos c]; exact .inl ⟨rfl, by omega⟩
  · rw [if_neg c]; exact .inr ⟨rfl, by omega⟩

theorem laws_szGraph.sp {n : Int} {l : List Int} {a : Int} (h : l.length ≤ 9223372036854775807) (ha : a ≤ 1048576) (ha0 : 0 ≤ a) :
    (laws_szGraph.f n l a = some (-1) ∧ a < l.length) ∨ (laws_szGraph.f n l a = some (a - l.length) ∧ (l.length : Int) ≤ a) := by
  unfold laws_szGraph.f
  rcases laws_szInt64S.sp h ha ha0 with ⟨e, c⟩ | ⟨e, c⟩
  · rw [e]; exact .inl ⟨by simp, c⟩
  · rw [e]
    refine .inr ⟨?_, c⟩
    simp only [Option.bind_some]
    rw [if_neg (by omega)]

theorem spec_l01In.sp (a b c : Int) : spec_l01In.f a b c = some (decide (b ≤ a ∧ a ≤ c)) := by
  unfold spec_l01In.f
  by_cases h : b ≤ a <;> simp [h]

theorem spec_l01Has.sp (n : Int) (rows : List Int) (a b : Int) (ha : 0 ≤ a) (ha1 : a < rows.length) (hb : 0 ≤ b) (hb1 : b ≤ 62) : spec_l01Has.f n rows a b = some (dig (rd rows a) b.toNat) := by
  unfold spec_l01Has.f
  rw [u64 hb (by omega), if_pos ha, if_pos ha1, if_pos hb, bit_dig hb (by omega)]

/-! spec.IsGraph -/
theorem spec_l01Is.ev_2 (n : Int) (rows : List Int) (hn1 : n ≤ 62) (hl : (rows.length : Int) = n) (v : Nat) (hv : (v : Int) < n)
    (F : Prop) (hF : Ev (fun q => spec_l01Is.l1 q ((v + 1 : Nat) : Int) n rows) (decide F)) (d : Nat) : ∀ w : Nat, w + d = v →
    Ev (fun q => spec_l01Is.l2 q (v : Int) (w : Int) n rows) (decide ((∀ k : Nat, w ≤ k → k < v → dig (rd rows v) k = dig (rd rows k) v) ∧ F)) := by
  induction d with
  | zero =>
    intro w e
    refine Ev.step (fun k => spec_l01Is.l2.eq_2 ..) ?_
    simp only [if_neg (show ¬ ((w : Int) < (v : Int)) by omega)]
    rw [w64 (by omega) (by omega)]
    refine ev_cast hF ?_
    refine dec_congr ?_
    exact ⟨fun a => ⟨scan_end (by omega), a⟩, fun a => a.2⟩
  | succ d ih =>
    intro w e
    refine Ev.step (fun k => spec_l01Is.l2.eq_2 ..) ?_
    rw [spec_l01Has.sp n rows v w (by omega) (by omega) (by omega) (by omega), spec_l01Has.sp n rows w v (by omega) (by omega) (by omega) (by omega), w64 (n := (w : Int) + 1) (by omega) (by omega)]
    simp only [if_pos (show (w : Int) < (v : Int) by omega), Option.bind_some, Int.toNat_natCast]
    by_cases c : dig (rd rows v) w = dig (rd rows w) v
    · simp only [c, bne_self_eq_false, Bool.false_eq_true, if_false]
      refine ev_cast (ih (w + 1) (by omega)) ?_
      refine dec_congr ?_
      rw [scan_step (P := fun k : Nat => dig (rd rows v) k = dig (rd rows k) v) c]
    · simp only [bne_iff_ne, ne_eq, c, not_false_eq_true, if_true]
      rw [decide_eq_false (fun a => c (a.1 w (Nat.le_refl _) (by omega)))]
      exact Ev.now _
theorem spec_l01Is.ev_1 (n : Int) (rows : List Int) (hn1 : n ≤ 62) (hl : (rows.length : Int) = n) (d : Nat) : ∀ v : Nat, v + d = rows.length →
    Ev (fun q => spec_l01Is.l1 q (v : Int) n rows) (decide (∀ k : Nat, v ≤ k → k < rows.length → ∀ w : Nat, 0 ≤ w → w < k → dig (rd rows k) w = dig (rd rows w) k)) := by
  induction d with
  | zero =>
    intro v e
    refine Ev.step (fun k => spec_l01Is.l1.eq_2 ..) ?_
    simp only [if_neg (show ¬ ((v : Int) < n) by omega)]
    rw [decide_eq_true (scan_end (by omega))]
    exact Ev.now _
  | succ d ih =>
    intro v e
    refine Ev.step (fun k => spec_l01Is.l1.eq_2 ..) ?_
    simp only [if_pos (show (v : Int) < n by omega)]
    refine ev_cast (spec_l01Is.ev_2 n rows hn1 hl v (by omega) _ (ih (v + 1) (by omega)) v 0 (by omega)) ?_
    refine dec_congr ?_
    constructor
    · rintro ⟨a1, a2⟩
      exact (scan_step (P := fun k : Nat => ∀ w : Nat, 0 ≤ w → w < k → dig (rd rows k) w = dig (rd rows w) k) (i := v) a1).2 a2
    · intro a
      exact ⟨a v (Nat.le_refl _) (by omega), fun k hk hk1 => a k (by omega) hk1⟩
theorem spec_l01Is.ev_0 (n : Int) (rows : List Int) (hn : 1 ≤ n) (hn1 : n ≤ 62) (hl : (rows.length : Int) = n) (d : Nat) : ∀ v : Nat, v + d = rows.length →
    Ev (fun q => spec_l01Is.l0 q (v : Int) n rows) (decide ((∀ k : Nat, v ≤ k → k < rows.length → 0 ≤ rd rows k ∧ rd rows k < ((2 ^ n.toNat : Nat) : Int) ∧ dig (rd rows k) k = false) ∧
      ∀ k : Nat, 0 ≤ k → k < rows.length → ∀ w : Nat, 0 ≤ w → w < k → dig (rd rows k) w = dig (rd rows w) k)) := by
  have hp : 1 ≤ 2 ^ n.toNat := Nat.one_le_two_pow
  have hq := pow62 (n := n.toNat) (by omega)
  induction d with
  | zero =>
    intro v e
    refine Ev.step (fun k => spec_l01Is.l0.eq_2 ..) ?_
    simp only [if_neg (show ¬ ((v : Int) < n) by omega)]
    refine ev_cast (spec_l01Is.ev_1 n rows hn1 hl rows.length 0 (by omega)) ?_
    refine dec_congr ?_
    exact ⟨fun a => ⟨scan_end (by omega), a⟩, fun a => a.2⟩
  | succ d ih =>
    intro v e
    refine Ev.step (fun k => spec_l01Is.l0.eq_2 ..) ?_
    rw [u64 (by omega) (by omega), shl_one (by omega) hn1, w64 (by omega) (by omega), w64 (n := (v : Int) + 1) (by omega) (by omega), spec_l01Has.sp n rows v v (by omega) (by omega) (by omega) (by omega), Int.toNat_natCast]
    simp only [if_pos (show (v : Int) < n by omega), if_pos (show (0 : Int) ≤ (v : Int) by omega), if_pos (show (v : Int) < (rows.length : Int) by omega), if_pos (show 0 ≤ n by omega), spec_l01In.sp, Option.bind_some, decide_eq_true_eq]
    by_cases c1 : 0 ≤ rd rows v ∧ rd rows v ≤ ((2 ^ n.toNat : Nat) : Int) - 1
    · simp only [if_pos c1]
      by_cases c2 : dig (rd rows v) v = true
      · simp only [if_pos c2]
        rw [decide_eq_false (fun a => by have := (a.1 v (Nat.le_refl _) (by omega)).2.2; rw [c2] at this; cases this)]
        exact Ev.now _
      · simp only [if_neg c2]
        refine ev_cast (ih (v + 1) (by omega)) ?_
        refine dec_congr ?_
        rw [scan_step (P := fun k : Nat => 0 ≤ rd rows k ∧ rd rows k < ((2 ^ n.toNat : Nat) : Int) ∧ dig (rd rows k) k = false) (i := v) ⟨c1.1, by omega, by simpa using c2⟩]
    · simp only [if_neg c1]
      rw [decide_eq_false (fun a => by have := a.1 v (Nat.le_refl _) (by omega); omega)]
      exact Ev.now _
theorem isG_iff' (n : Int) (rows : List Int) (hn : 1 ≤ n) (hn1 : n ≤ 62) (hl : (rows.length : Int) = n) :
    ((∀ k : Nat, 0 ≤ k → k < rows.length → 0 ≤ rd rows k ∧ rd rows k < ((2 ^ n.toNat : Nat) : Int) ∧ dig (rd rows k) k = false) ∧
      ∀ k : Nat, 0 ≤ k → k < rows.length → ∀ w : Nat, 0 ≤ w → w < k → dig (rd rows k) w = dig (rd rows w) k) ↔ IsG n rows := by
  constructor
  · rintro ⟨a, b⟩
    refine ⟨hn, hn1, hl, fun v hv => a v (by omega) (by omega), fun v w hv hw => ?_⟩
    rcases Nat.lt_trichotomy v w with h | h | h
    · exact (b w (by omega) (by omega) v (by omega) h).symm
    · rw [h]
    · exact b v (by omega) (by omega) w (by omega) h
  · intro a
    exact ⟨fun k _ hk => a.2.2.2.1 k (by omega), fun k _ hk w _ hw => a.2.2.2.2 k w (by omega) (by omega)⟩
theorem spec_l01Is.ev (n : Int) (rows : List Int) : Ev (fun q => spec_l01Is.f q n rows) (decide (IsG n rows)) := by
  unfold spec_l01Is.f
  simp only [spec_l01In.sp, Option.bind_some, decide_eq_true_eq]
  by_cases h1 : 1 ≤ n ∧ n ≤ 62
  · simp only [if_pos h1]
    refine Ev.step (fun k => spec_l01Is.j0.eq_2 ..) ?_
    by_cases h3 : (rows.length : Int) = n
    · simp only [h3, bne_self_eq_false, Bool.false_eq_true, if_false]
      refine ev_cast (spec_l01Is.ev_0 n rows h1.1 h1.2 h3 rows.length 0 (by omega)) ?_
      refine dec_congr ?_
      exact isG_iff' n rows h1.1 h1.2 h3
    · simp only [bne_iff_ne, ne_eq, h3, not_false_eq_true, if_true]
      rw [decide_eq_false (fun a => h3 a.2.2.1)]
      exact Ev.now _
  · simp only [if_neg h1]
    refine Ev.step (fun k => spec_l01Is.j0.eq_2 ..) ?_
    simp only [if_true]
    rw [decide_eq_false (fun a => h1 ⟨a.1, a.2.1⟩)]
    exact Ev.now _

theorem spec_l01Empty.sp (n : Int) (h0 : 0 ≤ n) (h1 : n ≤ 35184372088832) : spec_l01Empty.f n = some (n, List.replicate n.toNat 0) := by
  unfold spec_l01Empty.f
  rw [if_pos h0, if_pos (by omega)]

theorem spec_l01Put.sp (n : Int) (rows : List Int) (a b : Int) (ha : 0 ≤ a) (ha1 : a < rows.length) (hb : 0 ≤ b) (hb1 : b < rows.length) (hl : rows.length ≤ 62) :
    spec_l01Put.f n rows a b = some (putE rows a b) := by
  unfold spec_l01Put.f
  rw [u64 hb (by omega), u64 ha (by omega), if_pos ha, if_pos ha1, if_pos hb, shl_one hb (by omega), shl_one ha (by omega)]
  simp only [Option.bind_some]
  rw [if_pos hb, if_pos hb1, if_pos ha]
  rfl

theorem laws_toInt64S.ev_l (l : List Int) (hl : l.length ≤ 281474976710656) (d : Nat) : ∀ (i : Nat) (acc : List Int), acc.length = l.length → (∀ j, j < i → acc[j]? = l[j]?) → i + d = l.length →
    Ev (fun k => laws_toInt64S.l0 k l acc (i : Int)) l := by
  induction d with
  | zero =>
    intro i acc h1 h2 h3
    refine Ev.step (fun k => laws_toInt64S.l0.eq_2 ..) ?_
    simp only [if_neg (show ¬ ((i : Int) < (l.length : Int)) by omega)]
    refine ev_some (List.ext_getElem? fun j => ?_)
    by_cases hj : j < i
    · exact h2 j hj
    · rw [List.getElem?_eq_none (by omega), List.getElem?_eq_none (by omega)]
  | succ d ih =>
    intro i acc h1 h2 h3
    refine Ev.step (fun k => laws_toInt64S.l0.eq_2 ..) ?_
    simp only [if_pos (show (i : Int) < (l.length : Int) by omega), if_pos (show (0 : Int) ≤ (i : Int) by omega), if_pos (show (i : Int) < (acc.length : Int) by omega)]
    rw [w64 (by omega) (by omega)]
    have := ih (i + 1) (acc.set ((i : Int)).toNat (rd l i)) (by simp [h1]) (fun j hj => by
      rw [Int.toNat_natCast]
      by_cases e : i = j
      · subst e
        rw [List.getElem?_set_self (by omega), rd_get l i (by omega)]
        simp
      · rw [List.getElem?_set_ne e]
        exact h2 j (by omega)) (by omega)
    exact this
theorem laws_toInt64S.ev (l : List Int) (hl : l.length ≤ 35184372088832) : Ev (fun k => laws_toInt64S.f k l) l := by
  unfold laws_toInt64S.f
  simp only [if_pos (show (0 : Int) ≤ (l.length : Int) by omega), if_pos (show ((l.length : Int)).toNat ≤ 35184372088832 by omega)]
  exact laws_toInt64S.ev_l l (by omega) l.length 0 _ (by simp) (fun j hj => by omega) (by omega)

theorem laws_toGraph.ev (n : Int) (l : List Int) (hl : l.length ≤ 35184372088832) : Ev (fun k => laws_toGraph.f k n l) (n, l) := by
  unfold laws_toGraph.f
  exact Ev.bind (laws_toInt64S.ev l hl) (Ev.now _)

/-! impl.IsGraph -/
theorem impl_IsGraph.ev_1 (n : Int) (rows : List Int) (hn : 1 ≤ n) (hn1 : n ≤ 62) (hl : (rows.length : Int) = n) (v : Nat) (hv : (v : Int) < n)
    (F : Prop) (hF : Ev (fun q => impl_IsGraph.l0 q n rows (rows.length : Int) ((v + 1 : Nat) : Int) n rows) (decide F)) (d : Nat) : ∀ w : Nat, w + d = rows.length →
    Ev (fun q => impl_IsGraph.l1 q n (v : Int) (rd rows v) rows (rows.length : Int) (v : Int) n (w : Int) n rows) (decide ((∀ k : Nat, w ≤ k → k < rows.length → dig (rd rows v) k = dig (rd rows k) v) ∧ F)) := by
  induction d with
  | zero =>
    intro w e
    refine Ev.step (fun k => impl_IsGraph.l1.eq_2 ..) ?_
    simp only [if_neg (show ¬ ((w : Int) < n) by omega)]
    rw [w64 (by omega) (by omega)]
    refine ev_cast hF ?_
    refine dec_congr ?_
    exact ⟨fun a => ⟨scan_end (by omega), a⟩, fun a => a.2⟩
  | succ d ih =>
    intro w e
    refine Ev.step (fun k => impl_IsGraph.l1.eq_2 ..) ?_
    simp only [if_pos (show (w : Int) < n by omega), if_pos (show (0 : Int) ≤ (w : Int) by omega), if_pos (show (w : Int) < (rows.length : Int) by omega), if_pos (show (0 : Int) ≤ (v : Int) by omega)]
    rw [bit_val (v := (w : Int)) (by omega) (by omega), bit_val (v := (v : Int)) (by omega) (by omega), w64 (n := (w : Int) + 1) (by omega) (by omega)]
    simp only [Int.toNat_natCast]
    by_cases c : dig (rd rows v) w = dig (rd rows w) v
    · simp only [c, if_true]
      refine ev_cast (ih (w + 1) (by omega)) ?_
      refine dec_congr ?_
      rw [scan_step (P := fun k : Nat => dig (rd rows v) k = dig (rd rows k) v) c]
    · rw [decide_eq_false (fun a => c (a.1 w (Nat.le_refl _) (by omega)))]
      have : ¬ ((if dig (rd rows v) w = true then (1 : Int) else 0) = if dig (rd rows w) v = true then 1 else 0) := by
        intro h
        apply c
        cases h1 : dig (rd rows v) w <;> cases h2 : dig (rd rows w) v <;> simp [h1, h2] at h ⊢
      simp only [if_neg this]
      exact Ev.now _
theorem impl_IsGraph.ev_0 (n : Int) (rows : List Int) (hn : 1 ≤ n) (hn1 : n ≤ 62) (hl : (rows.length : Int) = n) (d : Nat) : ∀ v : Nat, v + d = rows.length →
    Ev (fun q => impl_IsGraph.l0 q n rows (rows.length : Int) (v : Int) n rows)
      (decide (∀ k : Nat, v ≤ k → k < rows.length → (0 ≤ rd rows k ∧ rd rows k < ((2 ^ n.toNat : Nat) : Int) ∧ dig (rd rows k) k = false) ∧ ∀ w : Nat, 0 ≤ w → w < rows.length → dig (rd rows k) w = dig (rd rows w) k)) := by
  induction d with
  | zero =>
    intro v e
    refine Ev.step (fun k => impl_IsGraph.l0.eq_2 ..) ?_
    simp only [if_neg (show ¬ ((v : Int) < (rows.length : Int)) by omega)]
    rw [decide_eq_true (scan_end (by omega))]
    exact Ev.now _
  | succ d ih =>
    intro v e
    refine Ev.step (fun k => impl_IsGraph.l0.eq_2 ..) ?_
    simp only [if_pos (show (v : Int) < (rows.length : Int) by omega), if_pos (show (0 : Int) ≤ (v : Int) by omega), if_pos (show 0 ≤ n by omega)]
    rw [shl_one (by omega) hn1, bit_dig (by omega) (by omega), Int.toNat_natCast]
    have key : ∀ g : Bool, (g = true ↔ ¬ (0 ≤ rd rows v ∧ rd rows v < ((2 ^ n.toNat : Nat) : Int) ∧ dig (rd rows v) v = false)) → Ev (fun q => impl_IsGraph.j2 q n (v : Int) (rd rows v) rows (rows.length : Int) (v : Int) g n rows)
        (decide (∀ k : Nat, v ≤ k → k < rows.length → (0 ≤ rd rows k ∧ rd rows k < ((2 ^ n.toNat : Nat) : Int) ∧ dig (rd rows k) k = false) ∧ ∀ w : Nat, 0 ≤ w → w < rows.length → dig (rd rows k) w = dig (rd rows w) k)) := by
      intro g hg
      refine Ev.step (fun k => impl_IsGraph.j2.eq_2 ..) ?_
      by_cases c : g = true
      · simp only [if_pos c]
        rw [decide_eq_false (fun a => hg.1 c (a v (Nat.le_refl _) (by omega)).1)]
        exact Ev.now _
      · simp only [if_neg c]
        have c2 : 0 ≤ rd rows v ∧ rd rows v < ((2 ^ n.toNat : Nat) : Int) ∧ dig (rd rows v) v = false := Classical.not_not.1 fun a => c (hg.2 a)
        refine ev_cast (impl_IsGraph.ev_1 n rows hn hn1 hl v (by omega) _ (ih (v + 1) (by omega)) rows.length 0 (by omega)) ?_
        refine dec_congr ?_
        constructor
        · rintro ⟨a1, a2⟩
          exact (scan_step (P := fun k : Nat => (0 ≤ rd rows k ∧ rd rows k < ((2 ^ n.toNat : Nat) : Int) ∧ dig (rd rows k) k = false) ∧ ∀ w : Nat, 0 ≤ w → w < rows.length → dig (rd rows k) w = dig (rd rows w) k) (i := v) ⟨c2, a1⟩).2 a2
        · intro a
          exact ⟨(a v (Nat.le_refl _) (by omega)).2, fun k hk hk1 => a k (by omega) hk1⟩
    by_cases c1 : rd rows v < 0
    · simp only [if_pos c1]
      exact key true ⟨fun _ a => by omega, fun _ => rfl⟩
    · simp only [if_neg c1]
      by_cases c2 : rd rows v ≥ ((2 ^ n.toNat : Nat) : Int)
      · simp only [if_pos c2]
        exact key true ⟨fun _ a => by omega, fun _ => rfl⟩
      · simp only [if_neg c2]
        exact key _ ⟨fun g a => by rw [a.2.2] at g; exact Bool.false_ne_true g, fun g => by
          by_cases h : dig (rd rows v) v = true
          · exact h
          · exact (g ⟨by omega, by omega, by simpa using h⟩).elim⟩
theorem isG_iff (n : Int) (rows : List Int) (hn : 1 ≤ n) (hn1 : n ≤ 62) (hl : (rows.length : Int) = n) :
    (∀ k : Nat, 0 ≤ k → k < rows.length → (0 ≤ rd rows k ∧ rd rows k < ((2 ^ n.toNat : Nat) : Int) ∧ dig (rd rows k) k = false) ∧ ∀ w : Nat, 0 ≤ w → w < rows.length → dig (rd rows k) w = dig (rd rows w) k) ↔ IsG n rows :=
  ⟨fun a => ⟨hn, hn1, hl, fun v hv => (a v (by omega) (by omega)).1, fun v w hv hw => (a v (by omega) (by omega)).2 w (by omega) (by omega)⟩,
    fun a k _ hk => ⟨a.2.2.2.1 k (by omega), fun w _ hw => a.2.2.2.2 k w (by omega) (by omega)⟩⟩
theorem impl_IsGraph.ev (n : Int) (rows : List Int) : Ev (fun q => impl_IsGraph.f q n rows) (decide (IsG n rows)) := by
  unfold impl_IsGraph.f
  by_cases h1 : n < 1
  · simp only [if_pos h1]
    refine Ev.step (fun k => impl_IsGraph.j0.eq_2 ..) ?_
    simp only [if_true]; rw [decide_eq_false (fun a => by have := a.1; omega)]; exact Ev.now _
  by_cases h2 : n > 62
  · simp only [if_neg h1, if_pos h2]
    refine Ev.step (fun k => impl_IsGraph.j0.eq_2 ..) ?_
    simp only [if_true]; rw [decide_eq_false (fun a => by have := a.2.1; omega)]; exact Ev.now _
  simp only [if_neg h1, if_neg h2]
  refine Ev.step (fun k => impl_IsGraph.j0.eq_2 ..) ?_
  by_cases h3 : (rows.length : Int) = n
  · simp only [h3, bne_self_eq_false, Bool.false_eq_true, if_false]
    have := impl_IsGraph.ev_0 n rows (by omega) (by omega) h3 rows.length 0 (by omega)
    rw [h3] at this
    refine ev_cast this ?_
    refine dec_congr ?_
    exact isG_iff n rows (by omega) (by omega) h3
  · simp only [bne_iff_ne, ne_eq, h3, not_false_eq_true, if_true]
    rw [decide_eq_false (fun a => h3 a.2.2.1)]
    exact Ev.now _

theorem impl_empty.sp (n : Int) (h0 : 0 ≤ n) (h1 : n ≤ 35184372088832) : impl_empty.f n = some (n, List.replicate n.toNat 0) := by
  unfold impl_empty.f
  rw [if_pos h0, if_pos (by omega)]

/-! ### the set bits of a number, in order -/
theorem bits_TrailingZeros64.sp {x : Nat} (h : x < 2 ^ 63) : bits_TrailingZeros64.f (IntKind.u64.wrap (x : Int)) = some ((Lib.ctz 64 x : Nat) : Int) := by
  unfold bits_TrailingZeros64.f
  rw [u64 (by omega) (by omega), if_pos (by omega), if_pos (by omega), Int.toNat_natCast]
def bitsFrom : Nat → Nat → Int → List Int
  | 0, _, _ => []
  | d + 1, i, r => if dig r i = true then (i : Int) :: bitsFrom d (i + 1) r else bitsFrom d (i + 1) r
theorem bitsFrom_length (r : Int) (d : Nat) : ∀ i, (bitsFrom d i r).length ≤ d := by
  induction d with
  | zero => intro i; simp [bitsFrom]
  | succ d ih =>
    intro i
    have := ih (i + 1)
    simp only [bitsFrom]
    split
    · simp only [List.length_cons]; omega
    · omega
theorem mem_bitsFrom {r : Int} {d : Nat} : ∀ {i : Nat} {x : Int}, x ∈ bitsFrom d i r ↔ ∃ j : Nat, x = (j : Int) ∧ i ≤ j ∧ j < i + d ∧ dig r j = true := by
  induction d with
  | zero =>
    intro i x
    simp only [bitsFrom, List.not_mem_nil, false_iff]
    rintro ⟨j, _, a, b, _⟩; omega
  | succ d ih =>
    intro i x
    simp only [bitsFrom]
    split
    · rename_i c
      rw [List.mem_cons, ih]
      constructor
      · rintro (rfl | ⟨j, a, b, e, g⟩)
        · exact ⟨i, rfl, by omega, by omega, c⟩
        · exact ⟨j, a, by omega, by omega, g⟩
      · rintro ⟨j, a, b, e, g⟩
        by_cases h : j = i
        · exact .inl (by rw [a, h])
        · exact .inr ⟨j, a, by omega, by omega, g⟩
    · rename_i c
      rw [ih]
      constructor
      · rintro ⟨j, a, b, e, g⟩; exact ⟨j, a, by omega, by omega, g⟩
      · rintro ⟨j, a, b, e, g⟩
        refine ⟨j, a, ?_, by omega, g⟩
        rcases Nat.lt_or_ge i j with h | h
        · omega
        · exact absurd (show dig r i = true by rw [show i = j by omega]; exact g) c
theorem bitsFrom_congr {r s : Int} {d : Nat} : ∀ {i : Nat}, (∀ j, i ≤ j → j < i + d → dig r j = dig s j) → bitsFrom d i r = bitsFrom d i s := by
  induction d with
  | zero => intro i _; rfl
  | succ d ih =>
    intro i h
    simp only [bitsFrom]
    rw [h i (by omega) (by omega), ih (i := i + 1) fun j a b => h j (by omega) (by omega)]
/-- The lowest bit struck. -/
theorem low_bit {x i : Nat} (h1 : x.testBit i = true) (h0 : ∀ j, j < i → x.testBit j = false) (hx : x < 2 ^ 63) : Lib.ctz 64 x = i ∧ ∀ j, (x &&& (x - 1)).testBit j = (x.testBit j && decide (j ≠ i)) := by
  have x0 : x ≠ 0 := fun a => by rw [a] at h1; simp at h1
  obtain ⟨m, hm, hk⟩ := Lib.ctzFrom_spec 64 x (by omega) (by omega)
  have e : Lib.ctz 64 x = Lib.ctzFrom 64 x := by unfold Lib.ctz; rw [if_neg x0]
  generalize Lib.ctzFrom 64 x = k at hm hk e
  have hp := Nat.two_pow_pos k
  have ex : x = 2 ^ (k + 1) * m + 2 ^ k := by rw [hm, Nat.pow_succ, Nat.mul_add, Nat.mul_one, Nat.mul_assoc]
  have hlt : 2 ^ k < 2 ^ (k + 1) := Nat.pow_lt_pow_right (by decide) (by omega)
  have ex1 : x - 1 = 2 ^ (k + 1) * m + (2 ^ k - 1) := by rw [ex]; omega
  have b : ∀ j, x.testBit j = if j < k + 1 then decide (k = j) else m.testBit (j - (k + 1)) := fun j => by
    rw [ex, Nat.testBit_two_pow_mul_add _ hlt, Nat.testBit_two_pow]
  have b1 : ∀ j, (x - 1).testBit j = if j < k + 1 then decide (j < k) else m.testBit (j - (k + 1)) := fun j => by
    rw [ex1, Nat.testBit_two_pow_mul_add _ (by omega), Nat.testBit_two_pow_sub_one]
  have ik : k = i := by
    rcases Nat.lt_trichotomy k i with h | h | h
    · have := h0 k h
      rw [b k, if_pos (by omega)] at this
      simp at this
    · exact h
    · have := h1
      rw [b i, if_pos (by omega)] at this
      simp at this
      omega
  subst ik
  refine ⟨e, fun j => ?_⟩
  rw [Nat.testBit_and, b j, b1 j]
  by_cases c : j < k + 1
  · rw [if_pos c, if_pos c]
    by_cases d : k = j
    · subst d; simp
    · simp [d]
  · rw [if_neg c, if_neg c]
    have : j ≠ k := by omega
    simp [this]

theorem impl_list.ev_l (n : Nat) (hn : n ≤ 62) (d : Nat) : ∀ (i x : Nat) (acc : List Int), i + d = n → x < 2 ^ n → acc.length ≤ i → (∀ j, j < i → x.testBit j = false) →
    Ev (fun q => impl_list.l0 q (x : Int) acc) (acc ++ bitsFrom d i (x : Int)) := by
  have hp := pow62 hn
  induction d with
  | zero =>
    intro i x acc e hx ha h
    have x0 : x = 0 := by
      refine Nat.eq_of_testBit_eq fun j => ?_
      rw [Nat.zero_testBit]
      rcases Nat.lt_or_ge j n with c | c
      · exact h j (by omega)
      · exact Nat.testBit_lt_two_pow (Nat.lt_of_lt_of_le hx (Nat.pow_le_pow_right (by decide) c))
    refine Ev.step (fun k => impl_list.l0.eq_2 ..) ?_
    rw [x0]
    simp only [if_pos (show ((0 : Nat) : Int) = 0 from rfl), bitsFrom, List.append_nil]
    exact Ev.now _
  | succ d ih =>
    intro i x acc e hx ha h
    by_cases c : x.testBit i = true
    · obtain ⟨h1, h2⟩ := low_bit c h (by omega)
      have x0 : x ≠ 0 := fun a => by rw [a] at c; simp at c
      refine Ev.step (fun k => impl_list.l0.eq_2 ..) ?_
      rw [bits_TrailingZeros64.sp (by omega), h1, w64 (by omega) (by omega), show (x : Int) - 1 = ((x - 1 : Nat) : Int) by omega, bit_and _ _ (by omega) (by omega)]
      simp only [if_neg (show ¬ ((x : Int) = 0) by omega), Option.bind_some, if_pos (show acc.length < 17592186044416 by omega)]
      have := ih (i + 1) (x &&& (x - 1)) (acc ++ [(i : Int)]) (by omega) (Nat.lt_of_le_of_lt Nat.and_le_left hx) (by rw [List.length_append]; simp only [List.length_cons, List.length_nil]; omega) (fun j hj => by
        rw [h2 j]
        rcases Nat.lt_succ_iff_lt_or_eq.1 hj with a | rfl
        · rw [h j a]; rfl
        · simp)
      refine ev_cast this ?_
      have cd : dig (x : Int) i = true := by rw [dig_nat]; exact c
      simp only [bitsFrom, if_pos cd, List.append_assoc, List.singleton_append]
      rw [bitsFrom_congr fun j a b => ?_]
      rw [dig_nat, dig_nat, h2 j]
      simp [show j ≠ i by omega]
    · have cd : ¬ dig (x : Int) i = true := by rw [dig_nat]; exact c
      simp only [bitsFrom, if_neg cd]
      refine ih (i + 1) x acc (by omega) hx (by omega) fun j hj => ?_
      rcases Nat.lt_succ_iff_lt_or_eq.1 hj with a | rfl
      · exact h j a
      · simpa using c
theorem impl_list.ev {n : Nat} (hn : n ≤ 62) {x : Nat} (hx : x < 2 ^ n) : Ev (fun q => impl_list.f q (x : Int)) (bitsFrom n 0 (x : Int)) := by
  unfold impl_list.f
  exact impl_list.ev_l n hn n 0 x [] (by omega) hx (by simp) (fun j hj => by omega)

/-! ### ways in a graph -/
inductive Way (rows : List Int) (n : Nat) (u : Nat) : Nat → Prop
  | refl : Way rows n u u
  | step {v w : Nat} : Way rows n u v → v < n → w < n → Adj rows v w → Way rows n u w
theorem Way.lt {rows : List Int} {n u w : Nat} (h : Way rows n u w) (hu : u < n) : w < n := by
  cases h with
  | refl => exact hu
  | step _ _ b _ => exact b
theorem Way.trans {rows : List Int} {n u v w : Nat} (h : Way rows n u v) (k : Way rows n v w) : Way rows n u w := by
  induction k with
  | refl => exact h
  | step _ a b c ih => exact .step ih a b c
theorem Way.symm {rows : List Int} {n : Int} (g : IsG n rows) {u v : Nat} (h : Way rows n.toNat u v) : Way rows n.toNat v u := by
  induction h with
  | refl => exact .refl
  | step _ a b c ih => exact (Way.step .refl b a ((g.symm a b).1 c)).trans ih
theorem IsG_row {n : Int} {rows : List Int} (h : IsG n rows) {v : Int} (h0 : 0 ≤ v) (h1 : v < n) : ∃ x : Nat, rd rows v = (x : Int) ∧ x < 2 ^ n.toNat := by
  obtain ⟨u, rfl⟩ := Int.eq_ofNat_of_zero_le h0
  obtain ⟨a, b, _⟩ := h.2.2.2.1 u h1
  obtain ⟨x, hx⟩ := Int.eq_ofNat_of_zero_le a
  exact ⟨x, hx, by rw [hx] at b; exact_mod_cast b⟩
/-- A set that holds v, is closed, and holds none but what v reaches, is what v reaches. -/
theorem closed_way {rows : List Int} {n v : Nat} {P : Nat → Prop} (h0 : P v) (h1 : ∀ x y, x < n → y < n → P x → Adj rows x y → P y) : ∀ w, Way rows n v w → P w := by
  intro w h
  induction h with
  | refl => exact h0
  | step _ a b c ih => exact h1 _ _ a b ih c

/-- The edges of the vertices from v on, smaller end first. -/
def edgesFrom (rows : List Int) (n : Nat) : Nat → Nat → List (List Int)
  | 0, _ => []
  | d + 1, v => ((bitsFrom n 0 (rd rows (v : Int))).filter fun x => decide ((v : Int) < x)).map (fun x => [(v : Int), x]) ++ edgesFrom rows n d (v + 1)
theorem impl_Graph_edges.ev_1 {n : Int} {rows : List Int} (v : Nat) (hv : v ≤ 62) (T : List Int) (hT : T.length ≤ 62) (R : List (List Int)) (d : Nat) : ∀ (i : Nat) (acc : List (List Int)), i + d = T.length → acc.length ≤ 62 * v + i →
    (∀ acc', acc' = acc ++ ((T.drop i).filter fun x => decide ((v : Int) < x)).map (fun x => [(v : Int), x]) → acc'.length ≤ 62 * (v + 1) → Ev (fun q => impl_Graph_edges.l0 q acc' n ((v : Int) + 1) n rows) R) →
    Ev (fun q => impl_Graph_edges.l1 q acc (v : Int) n (v : Int) T (T.length : Int) (i : Int) n rows) R := by
  induction d with
  | zero =>
    intro i acc e ha next
    refine Ev.step (fun k => impl_Graph_edges.l1.eq_2 ..) ?_
    simp only [if_neg (show ¬ ((i : Int) < (T.length : Int)) by omega)]
    rw [w64 (by omega) (by omega)]
    refine next acc ?_ (by omega)
    rw [List.drop_eq_nil_of_le (by omega)]; simp
  | succ d ih =>
    intro i acc e ha next
    refine Ev.step (fun k => impl_Graph_edges.l1.eq_2 ..) ?_
    simp only [if_pos (show (i : Int) < (T.length : Int) by omega), if_pos (show (0 : Int) ≤ (i : Int) by omega)]
    rw [w64 (by omega) (by omega)]
    by_cases c : rd T (i : Int) > (v : Int)
    · simp only [if_pos c, if_pos (show acc.length < 5864062014805 by omega)]
      refine ih (i + 1) _ (by omega) (by rw [List.length_append]; simp only [List.length_cons, List.length_nil]; omega) fun acc' h1 h2 => next acc' ?_ h2
      rw [h1, drop_rd T i (by omega), List.filter_cons, if_pos (by simpa using c), List.map_cons, List.append_assoc, List.singleton_append]
    · simp only [if_neg c]
      refine ih (i + 1) _ (by omega) (by omega) fun acc' h1 h2 => next acc' ?_ h2
      rw [h1, drop_rd T i (by omega), List.filter_cons, if_neg (by simpa using c)]
theorem impl_Graph_edges.ev_0 {n : Int} {rows : List Int} (g : IsG n rows) (d : Nat) : ∀ (v : Nat) (acc : List (List Int)), v + d = n.toNat → acc.length ≤ 62 * v →
    Ev (fun q => impl_Graph_edges.l0 q acc n (v : Int) n rows) (acc ++ edgesFrom rows n.toNat d v) := by
  have hn := g.le
  have h1 := g.1
  have hl := g.len
  induction d with
  | zero =>
    intro v acc e ha
    refine Ev.step (fun k => impl_Graph_edges.l0.eq_2 ..) ?_
    simp only [if_neg (show ¬ ((v : Int) < n) by omega), edgesFrom, List.append_nil]
    exact Ev.now _
  | succ d ih =>
    intro v acc e ha
    refine Ev.step (fun k => impl_Graph_edges.l0.eq_2 ..) ?_
    simp only [if_pos (show (v : Int) < n by omega), if_pos (show (0 : Int) ≤ (v : Int) by omega), if_pos (show (v : Int) < (rows.length : Int) by omega)]
    obtain ⟨x, hx, hx1⟩ := IsG_row g (v := (v : Int)) (by omega) (by omega)
    rw [hx]
    refine Ev.bind (impl_list.ev hn hx1) ?_
    have hb := bitsFrom_length (x : Int) n.toNat 0
    refine impl_Graph_edges.ev_1 v (by omega) (bitsFrom n.toNat 0 (x : Int)) (by omega) _ (bitsFrom n.toNat 0 (x : Int)).length 0 acc (by omega) (by omega) fun acc' e1 e2 => ?_
    refine ev_cast (ih (v + 1) acc' (by omega) e2) ?_
    rw [e1, edgesFrom, hx, List.drop_zero, List.append_assoc]
theorem impl_Graph_edges.ev {n : Int} {rows : List Int} (g : IsG n rows) : Ev (fun q => impl_Graph_edges.f q n rows) (edgesFrom rows n.toNat n.toNat 0) := by
  unfold impl_Graph_edges.f
  exact impl_Graph_edges.ev_0 g n.toNat 0 [] (by omega) (by simp)
/-! ### the number of edges -/
def sumF : Nat → Nat → (Nat → Nat) → Nat
  | 0, _, _ => 0
  | d + 1, i, f => f i + sumF d (i + 1) f
theorem sumF_congr {f g : Nat → Nat} (d : Nat) : ∀ {i : Nat}, (∀ j, i ≤ j → j < i + d → f j = g j) → sumF d i f = sumF d i g := by
  induction d with
  | zero => intro i _; rfl
  | succ d ih =>
    intro i h
    simp only [sumF]
    rw [h i (by omega) (by omega), ih (i := i + 1) fun j a b => h j (by omega) (by omega)]
theorem sumF_one {f g : Nat → Nat} {x : Nat} (hx : g x = f x + 1) (d : Nat) : ∀ {i : Nat}, i ≤ x → x < i + d → (∀ j, i ≤ j → j < i + d → j ≠ x → f j = g j) → sumF d i g = sumF d i f + 1 := by
  induction d with
  | zero => intro i a b; omega
  | succ d ih =>
    intro i a b h
    simp only [sumF]
    by_cases c : i = x
    · subst c
      rw [hx, sumF_congr d (f := f) (g := g) (i := i + 1) fun j p q => h j (by omega) (by omega) (by omega)]
      omega
    · rw [h i (by omega) (by omega) c, ih (i := i + 1) (by omega) (by omega) fun j p q r => h j (by omega) (by omega) r]
      omega
theorem sumF_zero {f : Nat → Nat} (d : Nat) : ∀ {i : Nat}, (∀ j, i ≤ j → j < i + d → f j = 0) → sumF d i f = 0 := by
  induction d with
  | zero => intro i _; rfl
  | succ d ih =>
    intro i h
    simp only [sumF]
    rw [h i (by omega) (by omega), ih (i := i + 1) fun j a b => h j (by omega) (by omega)]
/-- Is the edge v, w there, v the smaller end? -/
def one (rows : List Int) (v w : Nat) : Nat := if dig (rd rows (v : Int)) w = true ∧ v < w then 1 else 0
def ecnt (rows : List Int) (n : Nat) : Nat := sumF n 0 fun v => sumF n 0 (one rows v)
theorem filter_sum (rows : List Int) (v : Nat) (d : Nat) : ∀ i, ((bitsFrom d i (rd rows (v : Int))).filter fun x => decide ((v : Int) < x)).length = sumF d i (one rows v) := by
  induction d with
  | zero => intro i; rfl
  | succ d ih =>
    intro i
    simp only [bitsFrom, sumF, one]
    by_cases c : dig (rd rows (v : Int)) i = true
    · by_cases e : v < i
      · rw [if_pos c, if_pos ⟨c, e⟩, List.filter_cons, if_pos (by simp; omega), List.length_cons, ih]
        omega
      · rw [if_pos c, if_neg (fun a => e a.2), List.filter_cons, if_neg (by simp; omega), ih]
        omega
    · rw [if_neg c, if_neg (fun a => c a.1), ih]
      omega
theorem edgesFrom_length (rows : List Int) (n : Nat) (d : Nat) : ∀ v, (edgesFrom rows n d v).length = sumF d v fun v => sumF n 0 (one rows v) := by
  induction d with
  | zero => intro v; rfl
  | succ d ih =>
    intro v
    simp only [edgesFrom, sumF, List.length_append, List.length_map, filter_sum, ih]

theorem impl_Graph_put.sp (n : Int) (rows : List Int) (a b : Int) (hab : a ≠ b) (ha : 0 ≤ a) (ha1 : a < rows.length) (hb : 0 ≤ b) (hb1 : b < rows.length) (hl : rows.length ≤ 62) :
    impl_Graph_put.f n rows a b = some (putE rows a b) := by
  unfold impl_Graph_put.f
  rw [if_neg hab, if_pos ha, if_pos ha1, if_pos hb, shl_one hb (by omega), shl_one ha (by omega)]
  simp only [Option.bind_some]
  rw [if_pos hb1]
  rfl
theorem impl_Graph_put.same (n : Int) (rows : List Int) (a : Int) : impl_Graph_put.f n rows a a = some rows := by
  unfold impl_Graph_put.f
  rw [if_pos rfl]

theorem filt_ge {v : Nat} {r : Int} (d : Nat) : ∀ i, v < i → (bitsFrom d i r).filter (fun x => decide ((v : Int) < x)) = bitsFrom d i r := by
  induction d with
  | zero => intro i _; rfl
  | succ d ih =>
    intro i h
    rw [bitsFrom]
    split
    · rw [List.filter_cons, if_pos (by simp; omega), ih (i + 1) (by omega)]
    · exact ih (i + 1) (by omega)
theorem filt_lt {v : Nat} {r : Int} (d : Nat) : ∀ i, i ≤ v + 1 → v + 1 ≤ i + d → (bitsFrom d i r).filter (fun x => decide ((v : Int) < x)) = bitsFrom (i + d - (v + 1)) (v + 1) r := by
  induction d with
  | zero =>
    intro i h k
    have : i = v + 1 := by omega
    subst this
    rw [Nat.add_zero, Nat.sub_self]; rfl
  | succ d ih =>
    intro i h k
    by_cases c : i = v + 1
    · subst c
      rw [filt_ge (d + 1) (v + 1) (by omega), show v + 1 + (d + 1) - (v + 1) = d + 1 by omega]
    · have e := ih (i + 1) (by omega) (by omega)
      rw [show i + 1 + d - (v + 1) = i + (d + 1) - (v + 1) by omega] at e
      rw [bitsFrom]
      split
      · rw [List.filter_cons, if_neg (by simp; omega), e]
      · exact e
theorem edgesFrom_step {n : Int} {rows : List Int} (g : IsG n rows) {d v : Nat} (h : v < n.toNat) : edgesFrom rows n.toNat (d + 1) v = (bitsFrom (n.toNat - (v + 1)) (v + 1) (rd rows (v : Int))).map (fun x => [(v : Int), x]) ++ edgesFrom rows n.toNat d (v + 1) := by
  rw [edgesFrom, filt_lt n.toNat 0 (by omega) (by omega), Nat.zero_add]
theorem mem_edgesFrom {n : Int} {rows : List Int} (g : IsG n rows) (d : Nat) : ∀ v e, v + d = n.toNat → e ∈ edgesFrom rows n.toNat d v → ∃ a b : Nat, e = [(a : Int), (b : Int)] ∧ a < b ∧ b < n.toNat ∧ Adj rows a b := by
  induction d with
  | zero => intro v e _ h; rw [edgesFrom] at h; cases h
  | succ d ih =>
    intro v e hv h
    rw [edgesFrom_step g (by omega), List.mem_append] at h
    rcases h with h | h
    · obtain ⟨x, hx, rfl⟩ := List.mem_map.1 h
      obtain ⟨j, rfl, h1, h2, h3⟩ := mem_bitsFrom.1 hx
      exact ⟨v, j, rfl, by omega, by omega, h3⟩
    · exact ih (v + 1) e (by omega) h
theorem edgesFrom_le (rows : List Int) (n : Nat) (d : Nat) : ∀ v, (edgesFrom rows n d v).length ≤ d * n := by
  induction d with
  | zero => intro v; simp [edgesFrom]
  | succ d ih =>
    intro v
    have h1 := ih (v + 1)
    have h2 := List.length_filter_le (fun x => decide ((v : Int) < x)) (bitsFrom n 0 (rd rows (v : Int)))
    have h3 := bitsFrom_length (rd rows (v : Int)) n 0
    rw [edgesFrom, List.length_append, List.length_map, Nat.succ_mul]
    omega
theorem edge_mem {n : Int} {rows : List Int} (g : IsG n rows) {a b : Nat} (hab : a < b) (hb : b < n.toNat) (hA : Adj rows a b) : [(a : Int), (b : Int)] ∈ edgesFrom rows n.toNat n.toNat 0 := by
  have key : ∀ d v, v + d = n.toNat → v ≤ a → [(a : Int), (b : Int)] ∈ edgesFrom rows n.toNat d v := by
    intro d
    induction d with
    | zero => intro v h1 h2; omega
    | succ d ih =>
      intro v h1 h2
      rw [edgesFrom_step g (by omega), List.mem_append]
      by_cases c : v = a
      · subst c
        exact .inl (List.mem_map.2 ⟨(b : Int), mem_bitsFrom.2 ⟨b, rfl, by omega, by omega, hA⟩, rfl⟩)
      · exact .inr (ih (v + 1) (by omega) (by omega))
  exact key n.toNat 0 (by omega) (by omega)

/-! ### a list that has all numbers from 0 to n - 1 -/
def Ord (n : Int) (p : List Int) : Prop := (∀ j : Nat, 0 ≤ j → j < p.length → (0 ≤ rd p (j : Int) ∧ rd p (j : Int) ≤ n - 1) ∧ rd p (j : Int) ∉ p.take j) ∧ (p.length : Int) = n
theorem irange_length (d : Nat) : ∀ i, (irange i d).length = d := by
  induction d with
  | zero => intro i; rfl
  | succ d ih => intro i; simp [irange, ih]
theorem irange_lt (d : Nat) : ∀ i, (irange i d).Pairwise (· < ·) := by
  induction d with
  | zero => intro i; exact List.Pairwise.nil
  | succ d ih => intro i; exact List.Pairwise.cons (fun x hx => by have := (mem_irange.1 hx).1; omega) (ih (i + 1))
theorem inc_irange (l : List Int) : ∀ i, l.Pairwise (· < ·) → (∀ x ∈ l, i ≤ x ∧ x < i + l.length) → l = irange i l.length := by
  induction l with
  | nil => intro i _ _; rfl
  | cons a t ih =>
    intro i hp h
    rw [List.pairwise_cons] at hp
    have ha := h a List.mem_cons_self
    have ht := ih (i + 1) hp.2 fun x hx => by
      have h1 := hp.1 x hx
      have h2 := h x (List.mem_cons_of_mem _ hx)
      simp only [List.length_cons] at h2
      omega
    have hai : a = i := by
      rcases Nat.eq_zero_or_pos t.length with z | z
      · simp only [List.length_cons] at ha; omega
      · have : i + 1 ∈ t := by rw [ht]; exact mem_irange.2 ⟨by omega, by omega⟩
        have := hp.1 _ this
        omega
    rw [hai, List.length_cons, irange, ← ht]
theorem nodup_rd {p : List Int} : p.Nodup ↔ ∀ j : Nat, 0 ≤ j → j < p.length → rd p (j : Int) ∉ p.take j := by
  unfold List.Nodup
  rw [List.pairwise_iff_getElem]
  constructor
  · intro h j _ hj hm
    obtain ⟨i, hi, e⟩ := List.mem_iff_getElem.1 hm
    rw [List.length_take] at hi
    rw [List.getElem_take, rd_get p j hj] at e
    exact h i j (by omega) hj (by omega) e
  · intro h i j hi hj hij e
    refine h j (Nat.zero_le _) hj ?_
    rw [rd_get p j hj, ← e]
    exact List.mem_iff_getElem.2 ⟨i, by rw [List.length_take]; omega, by rw [List.getElem_take]⟩
theorem sorted_iff {n : Int} {p : List Int} (hn : 0 ≤ n) : (p.mergeSort fun x y => decide (x ≤ y)) = irange 0 n.toNat ↔ Ord n p := by
  have hperm := List.mergeSort_perm p (fun x y : Int => decide (x ≤ y))
  constructor
  · intro h
    rw [h] at hperm
    have hnd : p.Nodup := hperm.nodup_iff.1 ((irange_lt n.toNat 0).imp fun {a b} hab => by omega)
    have hlen : p.length = n.toNat := by rw [← hperm.length_eq, irange_length]
    refine ⟨fun j h0 hj => ⟨?_, nodup_rd.1 hnd j h0 hj⟩, by omega⟩
    have hm : rd p (j : Int) ∈ p := mem_rd.2 ⟨j, hj, rfl⟩
    have := mem_irange.1 (hperm.mem_iff.2 hm)
    omega
  · rintro ⟨h, hl⟩
    have hnd : p.Nodup := nodup_rd.2 fun j h0 hj => (h j h0 hj).2
    have hin : ∀ x ∈ p, 0 ≤ x ∧ x < n := fun x hx => by
      obtain ⟨j, hj, rfl⟩ := mem_rd.1 hx
      have := (h j (Nat.zero_le _) hj).1
      omega
    have hs := List.pairwise_mergeSort (le := fun x y : Int => decide (x ≤ y)) (fun a b c h1 h2 => by simp only [decide_eq_true_eq] at *; omega) (fun a b => by simp only [Bool.or_eq_true, decide_eq_true_eq]; omega) p
    have hnd2 : (p.mergeSort fun x y => decide (x ≤ y)).Nodup := hperm.nodup_iff.2 hnd
    have hlt : (p.mergeSort fun x y => decide (x ≤ y)).Pairwise (· < ·) := by
      refine (hs.and hnd2).imp fun {a b} hab => ?_
      have h1 := hab.1
      have h2 := hab.2
      simp only [decide_eq_true_eq] at h1
      omega
    have hlen : (p.mergeSort fun x y => decide (x ≤ y)).length = n.toNat := by rw [List.length_mergeSort]; omega
    have := inc_irange _ 0 hlt fun x hx => by
      have := hin x (hperm.mem_iff.1 hx)
      rw [hlen]; omega
    rw [this, hlen]
/-! ### the reference's test -/
theorem spec_l01Order.ev_l (n : Int) (hn : 0 ≤ n) (hn1 : n ≤ 62) (p : List Int) (hp : p.length ≤ 1048576) (d : Nat) : ∀ (i : Nat) (met : List Bool), i + d = p.length → met.length = n.toNat →
    (∀ x : Nat, x < n.toNat → (rdOf false met (x : Int) = true ↔ (x : Int) ∈ p.take i)) →
    Ev (fun q => spec_l01Order.l0 q p n met (i : Int)) (decide ((∀ j : Nat, i ≤ j → j < p.length → (0 ≤ rd p (j : Int) ∧ rd p (j : Int) ≤ n - 1) ∧ rd p (j : Int) ∉ p.take j) ∧ (p.length : Int) = n)) := by
  induction d with
  | zero =>
    intro i met h1 h2 h3
    refine Ev.step (fun k => spec_l01Order.l0.eq_2 ..) ?_
    simp only [if_neg (show ¬ ((i : Int) < (p.length : Int)) by omega)]
    refine ev_some ?_
    by_cases c : (p.length : Int) = n
    · rw [decide_eq_true (show _ ∧ _ from ⟨scan_end (by omega), c⟩)]; simp [c]
    · rw [decide_eq_false (fun a => c a.2)]; simp [c]
  | succ d ih =>
    intro i met h1 h2 h3
    refine Ev.step (fun k => spec_l01Order.l0.eq_2 ..) ?_
    rw [w64 (n := n - 1) (by omega) (by omega), w64 (n := (i : Int) + 1) (by omega) (by omega), spec_l01In.sp]
    simp only [if_pos (show (i : Int) < (p.length : Int) by omega), if_pos (show (0 : Int) ≤ (i : Int) by omega), Option.bind_some]
    by_cases c : 0 ≤ rd p (i : Int) ∧ rd p (i : Int) ≤ n - 1
    · simp only [decide_eq_true c, if_true, if_pos c.1, if_pos (show rd p (i : Int) < (met.length : Int) by omega)]
      obtain ⟨x, hx⟩ := Int.eq_ofNat_of_zero_le c.1
      have hx' : rd p (i : Int) = (x : Int) := hx
      have hxn : x < n.toNat := by omega
      by_cases c2 : rdOf false met (rd p (i : Int)) = true
      · simp only [if_pos c2]
        rw [hx'] at c2
        have := (h3 x hxn).1 c2
        rw [decide_eq_false (fun a => (a.1 i (Nat.le_refl _) (by omega)).2 (by rw [hx']; exact this))]
        exact Ev.now _
      · simp only [if_neg c2]
        have c3 : rd p (i : Int) ∉ p.take i := fun a => c2 (by rw [hx'] at a ⊢; exact (h3 x hxn).2 a)
        refine ev_cast (ih (i + 1) _ (by omega) (by rw [List.length_set]; exact h2) fun y hy => ?_) (dec_congr ?_)
        · rw [List.take_add_one, List.getElem?_eq_getElem (show i < p.length by omega)]
          simp only [Option.toList_some, List.mem_append, List.mem_singleton]
          rw [← rd_get p i (by omega), hx', Int.toNat_natCast, ← h3 y hy]
          unfold rdOf
          simp only [Int.toNat_natCast, List.getD_eq_getElem?_getD]
          by_cases e : x = y
          · subst e
            rw [List.getElem?_set_self (by omega)]
            simp
          · rw [List.getElem?_set_ne e]
            have : ¬ (y : Int) = (x : Int) := by omega
            simp [this]
        · rw [scan_step (P := fun j : Nat => (0 ≤ rd p (j : Int) ∧ rd p (j : Int) ≤ n - 1) ∧ rd p (j : Int) ∉ p.take j) ⟨c, c3⟩]
    · simp only [decide_eq_false c, Bool.false_eq_true, if_false]
      rw [decide_eq_false (fun a => c (a.1 i (Nat.le_refl _) (by omega)).1)]
      exact Ev.now _
theorem spec_l01Order.ev (n : Int) (hn : 0 ≤ n) (hn1 : n ≤ 62) (p : List Int) (hp : p.length ≤ 1048576) : Ev (fun q => spec_l01Order.f q p n) (decide (Ord n p)) := by
  unfold spec_l01Order.f
  simp only [if_pos hn, if_pos (show n.toNat ≤ 281474976710656 by omega)]
  refine ev_cast (spec_l01Order.ev_l n hn hn1 p hp p.length 0 (List.replicate n.toNat false) (by omega) (by simp) fun x hx => ?_) (dec_congr Iff.rfl)
  simp [rdOf, hx]
/-! ### the program's test -/
theorem impl_counting.ev_l (n : Int) (hn1 : n ≤ 62) (d : Nat) : ∀ (i : Int) (acc : List Int), 0 ≤ i → i + d = n → acc.length ≤ i → Ev (fun q => impl_counting.l0 q acc n i) (acc ++ irange i d) := by
  induction d with
  | zero =>
    intro i acc h0 h1 h2
    refine Ev.step (fun k => impl_counting.l0.eq_2 ..) ?_
    simp only [if_neg (show ¬ (i < n) by omega), irange, List.append_nil]
    exact Ev.now _
  | succ d ih =>
    intro i acc h0 h1 h2
    refine Ev.step (fun k => impl_counting.l0.eq_2 ..) ?_
    rw [w64 (n := i + 1) (by omega) (by omega)]
    simp only [if_pos (show i < n by omega), if_pos (show acc.length < 17592186044416 by omega)]
    refine ev_cast (ih (i + 1) _ (by omega) (by omega) (by simp; omega)) ?_
    rw [irange, List.append_assoc]; rfl
theorem impl_counting.ev (n : Int) (hn : 0 ≤ n) (hn1 : n ≤ 62) : Ev (fun q => impl_counting.f q n) (irange 0 n.toNat) := by
  unfold impl_counting.f
  exact ev_cast (impl_counting.ev_l n hn1 n.toNat 0 [] (by omega) (by omega) (by simp)) (by simp)
theorem slices_Equal_int64_int64.ev_l (a b : List Int) (h : a.length = b.length) (ha : a.length ≤ 1048576) (d : Nat) : ∀ i : Nat, i + d = a.length →
    Ev (fun q => slices_Equal_int64_int64.l0 q a b (a.length : Int) (i : Int)) (decide (∀ j : Nat, i ≤ j → j < a.length → rd a (j : Int) = rd b (j : Int))) := by
  induction d with
  | zero =>
    intro i e
    refine Ev.step (fun k => slices_Equal_int64_int64.l0.eq_2 ..) ?_
    simp only [if_neg (show ¬ ((i : Int) < (a.length : Int)) by omega)]
    rw [decide_eq_true (scan_end (by omega))]
    exact Ev.now _
  | succ d ih =>
    intro i e
    refine Ev.step (fun k => slices_Equal_int64_int64.l0.eq_2 ..) ?_
    rw [w64 (n := (i : Int) + 1) (by omega) (by omega)]
    simp only [if_pos (show (i : Int) < (a.length : Int) by omega), if_pos (show (0 : Int) ≤ (i : Int) by omega), if_pos (show (i : Int) < (b.length : Int) by omega)]
    by_cases c : rd a (i : Int) = rd b (i : Int)
    · simp only [if_pos c]
      exact ev_cast (ih (i + 1) (by omega)) (dec_congr (scan_step (P := fun j : Nat => rd a (j : Int) = rd b (j : Int)) c).symm)
    · simp only [if_neg c]
      rw [decide_eq_false (fun x => c (x i (Nat.le_refl _) (by omega)))]
      exact Ev.now _
theorem slices_Equal_int64_int64.ev (a b : List Int) (ha : a.length ≤ 1048576) : Ev (fun q => slices_Equal_int64_int64.f q a b) (decide (a = b)) := by
  unfold slices_Equal_int64_int64.f
  by_cases h : a.length = b.length
  · simp only [if_pos (show (a.length : Int) = (b.length : Int) by omega)]
    refine ev_cast (slices_Equal_int64_int64.ev_l a b h ha a.length 0 (by omega)) (dec_congr ⟨fun x => list_ext_rd h fun i hi => x i (Nat.zero_le _) hi, fun x j _ _ => by rw [x]⟩)
  · simp only [if_neg (show ¬ (a.length : Int) = (b.length : Int) by omega)]
    rw [decide_eq_false (fun x => h (by rw [x]))]
    exact Ev.now _
/-! ### the renumbered graph -/
/-- The relation of the renumbered graph: of the pairs w < v that P tells. -/
def renE (rows p : List Int) (n : Nat) (P : Nat → Nat → Prop) (a b : Nat) : Prop := ∃ v w : Nat, w < v ∧ v < n ∧ P v w ∧ Adj rows v w ∧ ((rd p (v : Int) = a ∧ rd p (w : Int) = b) ∨ (rd p (v : Int) = b ∧ rd p (w : Int) = a))
noncomputable def renumR (n : Int) (rows p : List Int) : Int × List Int × Int := if IsG n rows then (if Ord n p then (n, gr n.toNat (renE rows p n.toNat fun _ _ => True), 0) else (0, [], 2)) else (0, [], 1)
theorem renumR_length (n : Int) (rows p : List Int) : (renumR n rows p).2.1.length ≤ 62 := by
  unfold renumR
  split
  · rename_i h
    have := h.le
    split
    · simp only [gr_length]; omega
    · simp
  · simp
theorem Ord.at {n : Int} {p : List Int} (h : Ord n p) {v : Nat} (hv : (v : Int) < n) : 0 ≤ rd p (v : Int) ∧ rd p (v : Int) < n := by
  have := (h.1 v (Nat.zero_le _) (by have := h.2; omega)).1
  omega
theorem Ord.ne {n : Int} {p : List Int} (h : Ord n p) {v w : Nat} (hv : (v : Int) < n) (hw : w < v) : rd p (v : Int) ≠ rd p (w : Int) := by
  have h2 := h.2
  intro e
  refine (h.1 v (Nat.zero_le _) (by omega)).2 ?_
  rw [e, rd_get p w (by omega)]
  exact List.mem_iff_getElem.2 ⟨w, by rw [List.length_take]; omega, by rw [List.getElem_take]⟩
theorem renE_put {rows p : List Int} {n : Nat} {P Q : Nat → Nat → Prop} {v w : Nat} (hw : w < v) (hv : v < n) (hA : Adj rows v w) (hQ : ∀ a b, Q a b ↔ P a b ∨ (a = v ∧ b = w)) {x y : Nat} (hx : rd p (v : Int) = x) (hy : rd p (w : Int) = y) (a b : Nat) :
    (renE rows p n P a b ∨ (a = x ∧ b = y) ∨ (a = y ∧ b = x)) ↔ renE rows p n Q a b := by
  constructor
  · rintro (⟨v', w', h1, h2, h3, h4⟩ | ⟨rfl, rfl⟩ | ⟨rfl, rfl⟩)
    · exact ⟨v', w', h1, h2, (hQ _ _).2 (.inl h3), h4⟩
    · exact ⟨v, w, hw, hv, (hQ _ _).2 (.inr ⟨rfl, rfl⟩), hA, .inl ⟨hx, hy⟩⟩
    · exact ⟨v, w, hw, hv, (hQ _ _).2 (.inr ⟨rfl, rfl⟩), hA, .inr ⟨hx, hy⟩⟩
  · rintro ⟨v', w', h1, h2, h3, h4, h5⟩
    rcases (hQ _ _).1 h3 with h3 | ⟨rfl, rfl⟩
    · exact .inl ⟨v', w', h1, h2, h3, h4, h5⟩
    · rcases h5 with ⟨e1, e2⟩ | ⟨e1, e2⟩
      · exact .inr (.inl ⟨by omega, by omega⟩)
      · exact .inr (.inr ⟨by omega, by omega⟩)
theorem renE_skip {rows p : List Int} {n : Nat} {P Q : Nat → Nat → Prop} {v w : Nat} (hA : ¬ Adj rows v w) (hQ : ∀ a b, Q a b ↔ P a b ∨ (a = v ∧ b = w)) (a b : Nat) : renE rows p n P a b ↔ renE rows p n Q a b := by
  constructor
  · rintro ⟨v', w', h1, h2, h3, h4⟩
    exact ⟨v', w', h1, h2, (hQ _ _).2 (.inl h3), h4⟩
  · rintro ⟨v', w', h1, h2, h3, h4, h5⟩
    rcases (hQ _ _).1 h3 with h3 | ⟨rfl, rfl⟩
    · exact ⟨v', w', h1, h2, h3, h4, h5⟩
    · exact absurd h4 hA
theorem spec_l01Renamed.ev_1 {n : Int} {rows p : List Int} (g : IsG n rows) (o : Ord n p) (v : Nat) (hv : (v : Int) < n) (R : Int × List Int)
    (hR : Ev (fun q => spec_l01Renamed.l0 q p ((v + 1 : Nat) : Int) n rows n (gr n.toNat (renE rows p n.toNat fun a _ => a < v + 1))) R) (d : Nat) : ∀ w : Nat, w + d = v →
    Ev (fun q => spec_l01Renamed.l1 q p (v : Int) (w : Int) n rows n (gr n.toNat (renE rows p n.toNat fun a b => a < v ∨ (a = v ∧ b < w)))) R := by
  have hn := g.le
  have hn0 := g.1
  have hlen := g.2.2.1
  have hpl := o.2
  induction d with
  | zero =>
    intro w e
    refine Ev.step (fun k => spec_l01Renamed.l1.eq_2 ..) ?_
    rw [w64 (n := (v : Int) + 1) (by omega) (by omega)]
    simp only [if_neg (show ¬ ((w : Int) < (v : Int)) by omega)]
    have : gr n.toNat (renE rows p n.toNat fun a b => a < v ∨ (a = v ∧ b < w)) = gr n.toNat (renE rows p n.toNat fun a _ => a < v + 1) := gr_congr fun a b _ _ => by
      constructor
      · rintro ⟨v', w', h1, h2, h3, h4⟩; exact ⟨v', w', h1, h2, by omega, h4⟩
      · rintro ⟨v', w', h1, h2, h3, h4⟩; exact ⟨v', w', h1, h2, by omega, h4⟩
    rw [this]
    exact hR
  | succ d ih =>
    intro w e
    refine Ev.step (fun k => spec_l01Renamed.l1.eq_2 ..) ?_
    rw [w64 (n := (w : Int) + 1) (by omega) (by omega), spec_l01Has.sp n rows (v : Int) (w : Int) (by omega) (by omega) (by omega) (by omega), Int.toNat_natCast]
    simp only [if_pos (show (w : Int) < (v : Int) by omega), Option.bind_some]
    have hQ : ∀ a b : Nat, (a < v ∨ (a = v ∧ b < w + 1)) ↔ (a < v ∨ (a = v ∧ b < w)) ∨ (a = v ∧ b = w) := fun a b => by omega
    by_cases c : dig (rd rows (v : Int)) w = true
    · obtain ⟨x0, x1⟩ := o.at hv
      obtain ⟨y0, y1⟩ := o.at (v := w) (by omega)
      obtain ⟨x, hx⟩ := Int.eq_ofNat_of_zero_le x0
      obtain ⟨y, hy⟩ := Int.eq_ofNat_of_zero_le y0
      have hx' : rd p (v : Int) = (x : Int) := hx
      have hy' : rd p (w : Int) = (y : Int) := hy
      simp only [if_pos c, if_pos (show (0 : Int) ≤ (v : Int) by omega), if_pos (show (v : Int) < (p.length : Int) by omega), if_pos (show (0 : Int) ≤ (w : Int) by omega), if_pos (show (w : Int) < (p.length : Int) by omega)]
      rw [spec_l01Put.sp n _ _ _ x0 (by rw [gr_length]; omega) y0 (by rw [gr_length]; omega) (by rw [gr_length]; omega)]
      simp only [Option.bind_some]
      rw [hx', hy', gr_put hn (by omega) (by omega), gr_congr fun a b _ _ => renE_put (by omega) (by omega) c hQ hx' hy' a b]
      exact ih (w + 1) (by omega)
    · simp only [if_neg c]
      rw [gr_congr fun a b _ _ => renE_skip c hQ a b]
      exact ih (w + 1) (by omega)
theorem spec_l01Renamed.ev_0 {n : Int} {rows p : List Int} (g : IsG n rows) (o : Ord n p) (d : Nat) : ∀ v : Nat, v + d = n.toNat →
    Ev (fun q => spec_l01Renamed.l0 q p (v : Int) n rows n (gr n.toNat (renE rows p n.toNat fun a _ => a < v))) (n, gr n.toNat (renE rows p n.toNat fun _ _ => True)) := by
  have hn := g.le
  have hn0 := g.1
  induction d with
  | zero =>
    intro v e
    refine Ev.step (fun k => spec_l01Renamed.l0.eq_2 ..) ?_
    simp only [if_neg (show ¬ ((v : Int) < n) by omega)]
    refine ev_some ?_
    congr 1
    exact gr_congr fun a b _ _ => by
      constructor
      · rintro ⟨v', w', h1, h2, _, h4⟩; exact ⟨v', w', h1, h2, trivial, h4⟩
      · rintro ⟨v', w', h1, h2, _, h4⟩; exact ⟨v', w', h1, h2, by omega, h4⟩
  | succ d ih =>
    intro v e
    refine Ev.step (fun k => spec_l01Renamed.l0.eq_2 ..) ?_
    simp only [if_pos (show (v : Int) < n by omega)]
    have := spec_l01Renamed.ev_1 g o v (by omega) _ (ih (v + 1) (by omega)) v 0 (by omega)
    have e0 : gr n.toNat (renE rows p n.toNat fun a b => a < v ∨ (a = v ∧ b < 0)) = gr n.toNat (renE rows p n.toNat fun a _ => a < v) := gr_congr fun a b _ _ => by
      constructor
      · rintro ⟨v', w', h1, h2, h3, h4⟩; exact ⟨v', w', h1, h2, by omega, h4⟩
      · rintro ⟨v', w', h1, h2, h3, h4⟩; exact ⟨v', w', h1, h2, by omega, h4⟩
    rw [e0] at this
    exact this
theorem ren_start (rows p : List Int) (n : Nat) : List.replicate n (0 : Int) = gr n (renE rows p n fun a _ => a < 0) := by
  rw [gr_empty]
  exact gr_congr fun a b _ _ => ⟨fun h => h.elim, fun ⟨v', w', _, _, h, _⟩ => by omega⟩
theorem spec_RenumberGraph.ev (n : Int) (rows p : List Int) (hp : p.length ≤ 1048576) : Ev (fun q => spec_RenumberGraph.f q n rows p) (renumR n rows p) := by
  unfold spec_RenumberGraph.f renumR
  refine Ev.bind (spec_l01Is.ev n rows) ?_
  by_cases g : IsG n rows
  · have hn0 := g.1
    have hn1 := g.2.1
    simp only [g, decide_true, if_true]
    refine Ev.bind (spec_l01Order.ev n (by omega) hn1 p hp) ?_
    by_cases o : Ord n p
    · simp only [o, decide_true, if_true]
      unfold spec_l01Renamed.f
      rw [spec_l01Empty.sp _ (by omega) (by omega)]
      simp only [Option.bind_some]
      rw [ren_start rows p n.toNat]
      exact Ev.bind (spec_l01Renamed.ev_0 g o n.toNat 0 (by omega)) (Ev.now _)
    · simp only [o, decide_false, Bool.false_eq_true, if_false]
      exact Ev.now _
  · simp only [g, decide_false, Bool.false_eq_true, if_false]
    exact Ev.now _
theorem impl_RenumberGraph.ev_l {n : Int} {p : List Int} (hn1 : n ≤ 62) (hpl : (p.length : Int) = n) (L : List (List Int)) (hL : L.length ≤ 1048576) (R : List (List Int))
    (hm : ∀ e ∈ R, ∃ a b : Nat, e = [(a : Int), (b : Int)] ∧ (a : Int) < n ∧ (b : Int) < n ∧ (0 ≤ rd p (a : Int) ∧ rd p (a : Int) < n) ∧ (0 ≤ rd p (b : Int) ∧ rd p (b : Int) < n) ∧ rd p (a : Int) ≠ rd p (b : Int)) : ∀ (i : Nat) (rows : List Int), L.drop i = R → i ≤ L.length → (rows.length : Int) = n →
    Ev (fun q => impl_RenumberGraph.l0 q p L (L.length : Int) (i : Int) n rows) (n, putAll rows (R.map fun e => (rd p (rd e 0), rd p (rd e 1))), 0) := by
  induction R with
  | nil =>
    intro i rows hd hi hr
    have : L.length ≤ i := by have := congrArg List.length hd; simp only [List.length_drop, List.length_nil] at this; omega
    refine Ev.step (fun k => impl_RenumberGraph.l0.eq_2 ..) ?_
    simp only [if_neg (show ¬ ((i : Int) < (L.length : Int)) by omega)]
    exact Ev.now _
  | cons e R ih =>
    intro i rows hd hi hr
    have hi2 : i < L.length := by
      rcases Nat.lt_or_ge i L.length with z | z
      · exact z
      · rw [List.drop_of_length_le z] at hd; cases hd
    rw [List.drop_eq_getElem_cons hi2] at hd
    injection hd with he hd2
    have he' : rd_L2 L (i : Int) = e := by simp [rd_L2, hi2, he]
    obtain ⟨a, b, rfl, ha, hb, ⟨hx0, hx1⟩, ⟨hy0, hy1⟩, hne⟩ := hm e List.mem_cons_self
    have e0 : rd [(a : Int), (b : Int)] 0 = a := rfl
    have e1 : rd [(a : Int), (b : Int)] 1 = b := rfl
    have e2 : (([(a : Int), (b : Int)] : List Int).length : Int) = 2 := rfl
    refine Ev.step (fun k => impl_RenumberGraph.l0.eq_2 ..) ?_
    rw [w64 (n := (i : Int) + 1) (by omega) (by omega), he', e0, e1, e2]
    simp only [if_pos (show (i : Int) < (L.length : Int) by omega), if_pos (show (0 : Int) ≤ (i : Int) by omega), if_pos (show (0 : Int) < 2 by omega), if_pos (show (1 : Int) < 2 by omega), if_pos (show (0 : Int) ≤ (a : Int) by omega), if_pos (show (0 : Int) ≤ (b : Int) by omega), if_pos (show (a : Int) < (p.length : Int) by omega), if_pos (show (b : Int) < (p.length : Int) by omega)]
    rw [impl_Graph_put.sp n rows _ _ hne hx0 (by omega) hy0 (by omega) (by omega)]
    simp only [Option.bind_some, List.map_cons, putAll_cons, e0, e1]
    exact ih (fun e he => hm e (List.mem_cons_of_mem _ he)) (i + 1) _ hd2 (by omega) (by rw [putE_length]; exact hr)
theorem impl_RenumberGraph.ev (n : Int) (rows p : List Int) (hp : p.length ≤ 1048576) : Ev (fun q => impl_RenumberGraph.f q n rows p) (renumR n rows p) := by
  unfold impl_RenumberGraph.f renumR
  refine Ev.bind (impl_IsGraph.ev n rows) ?_
  by_cases g : IsG n rows
  · have hn0 := g.1
    have hn1 := g.2.1
    have hn := g.le
    simp only [g, decide_true, if_true]
    unfold slices_Clone_int64_int64.f slices_Sort_int64_int64.f
    simp only [if_pos hp, Option.bind_some, if_pos (show p.length < 4611686018427387904 by omega)]
    refine Ev.bind (impl_counting.ev n (by omega) hn1) ?_
    refine Ev.bind (slices_Equal_int64_int64.ev _ _ (by rw [List.length_mergeSort]; exact hp)) ?_
    by_cases o : Ord n p
    · have hs := (sorted_iff (by omega)).2 o
      simp only [o, hs, decide_true, if_true]
      rw [impl_empty.sp _ (by omega) (by omega)]
      simp only [Option.bind_some]
      refine Ev.bind (impl_Graph_edges.ev g) ?_
      have hle := edgesFrom_le rows n.toNat n.toNat 0
      have hmul := Nat.mul_le_mul hn hn
      have hmem : ∀ e ∈ edgesFrom rows n.toNat n.toNat 0, ∃ a b : Nat, e = [(a : Int), (b : Int)] ∧ (a : Int) < n ∧ (b : Int) < n ∧ (0 ≤ rd p (a : Int) ∧ rd p (a : Int) < n) ∧ (0 ≤ rd p (b : Int) ∧ rd p (b : Int) < n) ∧ rd p (a : Int) ≠ rd p (b : Int) := fun e he => by
        obtain ⟨a, b, rfl, hab, hb, _⟩ := mem_edgesFrom g n.toNat 0 e (by omega) he
        exact ⟨a, b, rfl, by omega, by omega, o.at (by omega), o.at (by omega), fun z => o.ne (by omega) hab z.symm⟩
      refine ev_cast (impl_RenumberGraph.ev_l hn1 o.2 _ (by omega) _ hmem 0 _ rfl (by omega) (by simp; omega)) ?_
      congr 2
      rw [gr_empty, gr_putAll hn _ _ fun q hq => by
        obtain ⟨e, he, rfl⟩ := List.mem_map.1 hq
        obtain ⟨a, b, rfl, _, _, h1, h2, _⟩ := hmem e he
        exact ⟨h1.1, by have := h1.2; show rd p (a : Int) < _; omega, h2.1, by have := h2.2; show rd p (b : Int) < _; omega⟩]
      refine gr_congr fun x y _ _ => ?_
      constructor
      · rintro (h | ⟨q, hq, h⟩)
        · exact h.elim
        · obtain ⟨e, he, rfl⟩ := List.mem_map.1 hq
          obtain ⟨a, b, rfl, hab, hb, hA⟩ := mem_edgesFrom g n.toNat 0 e (by omega) he
          have h : ((rd p (a : Int) = x ∧ rd p (b : Int) = y) ∨ (rd p (a : Int) = y ∧ rd p (b : Int) = x)) := h
          exact ⟨b, a, hab, hb, trivial, (g.symm (by omega) hb).1 hA, h.elim (fun h => .inr ⟨h.2, h.1⟩) (fun h => .inl ⟨h.2, h.1⟩)⟩
      · rintro ⟨v, w, h1, h2, _, hA, h⟩
        refine .inr ⟨(rd p (w : Int), rd p (v : Int)), List.mem_map.2 ⟨[(w : Int), (v : Int)], edge_mem g h1 h2 ((g.symm h2 (by omega)).1 hA), rfl⟩, ?_⟩
        show ((rd p (w : Int) = x ∧ rd p (v : Int) = y) ∨ (rd p (w : Int) = y ∧ rd p (v : Int) = x))
        exact h.elim (fun h => .inr ⟨h.2, h.1⟩) (fun h => .inl ⟨h.2, h.1⟩)
    · have hs : ¬ (p.mergeSort fun x y => decide (x ≤ y)) = irange 0 n.toNat := fun z => o ((sorted_iff (by omega)).1 z)
      simp only [o, hs, decide_false, Bool.false_eq_true, if_false]
      exact Ev.now _
  · simp only [g, decide_false, Bool.false_eq_true, if_false]
    exact Ev.now _

theorem laws_eqInt64S.ev_l (l : List Int) (hl : l.length ≤ 281474976710656) (d : Nat) : ∀ (i : Nat), i + d = l.length → Ev (fun k => laws_eqInt64S.l0 k l l (i : Int)) true := by
  induction d with
  | zero =>
    intro i h3
    refine Ev.step (fun k => laws_eqInt64S.l0.eq_2 ..) ?_
    simp only [if_neg (show ¬ ((i : Int) < (l.length : Int)) by omega)]
    exact Ev.now _
  | succ d ih =>
    intro i h3
    refine Ev.step (fun k => laws_eqInt64S.l0.eq_2 ..) ?_
    simp only [if_pos (show (i : Int) < (l.length : Int) by omega), if_pos (show (0 : Int) ≤ (i : Int) by omega), if_true]
    rw [w64 (by omega) (by omega)]
    exact ih (i + 1) (by omega)
theorem laws_eqInt64S.ev (l : List Int) (hl : l.length ≤ 281474976710656) : Ev (fun k => laws_eqInt64S.f k l l) true := by
  unfold laws_eqInt64S.f
  simp only [if_true]
  exact laws_eqInt64S.ev_l l hl l.length 0 (by omega)

theorem laws_eqGraph.ev (n : Int) (l : List Int) (hl : l.length ≤ 281474976710656) : Ev (fun k => laws_eqGraph.f k n l n l) true := by
  unfold laws_eqGraph.f
  simp only [if_true]
  exact Ev.bind (laws_eqInt64S.ev l hl) (Ev.now _)

/-- The marks a + i, from the place i on. -/
theorem laws_markInt64S.ev_l (n : Nat) (a : Int) (ha : 0 ≤ a) (han : a + n ≤ 4611686018427387904) (d : Nat) : ∀ (i : Nat) (l : List Int), l.length = n → i + d = n →
    ∃ m : List Int, Ev (fun k => laws_markInt64S.l0 k l (a + i) (i : Int)) (a + n, m) ∧ m.length = n ∧ (∀ j, j < i → m[j]? = l[j]?) ∧ ∀ j : Nat, i ≤ j → j < n → rd m j = a + j := by
  induction d with
  | zero =>
    intro i l h1 h3
    refine ⟨l, ?_, h1, fun _ _ => rfl, fun j h h' => by omega⟩
    refine Ev.step (fun k => laws_markInt64S.l0.eq_2 ..) ?_
    simp only [if_neg (show ¬ ((i : Int) < (l.length : Int)) by omega)]
    have : i = n := by omega
    rw [this]
    exact Ev.now _
  | succ d ih =>
    intro i l h1 h3
    obtain ⟨m, hm, h4, h5, h6⟩ := ih (i + 1) (l.set i (a + i)) (by simp [h1]) (by omega)
    refine ⟨m, ?_, h4, fun j hj => ?_, fun j hj hj' => ?_⟩
    · refine Ev.step (fun k => laws_markInt64S.l0.eq_2 ..) ?_
      simp only [if_pos (show (i : Int) < (l.length : Int) by omega), if_pos (show (0 : Int) ≤ (i : Int) by omega)]
      rw [w64 (by omega) (by omega), w64 (by omega) (by omega), Int.add_assoc, Int.toNat_natCast]
      exact hm
    · rw [h5 j (by omega), List.getElem?_set_ne (by omega)]
    · by_cases e : j = i
      · subst e
        have := h5 j (by omega)
        rw [List.getElem?_set_self (by omega)] at this
        rw [rd_nat]
        simp [this]
      · exact h6 j (by omega) hj'
theorem laws_markInt64S.ev (l : List Int) (a : Int) (ha : 0 ≤ a) (han : a + l.length ≤ 4611686018427387904) :
    ∃ m : List Int, Ev (fun k => laws_markInt64S.f k l a) (a + l.length, m) ∧ m.length = l.length ∧ ∀ j : Nat, j < l.length → rd m j = a + j := by
  obtain ⟨m, hm, h4, _, h6⟩ := laws_markInt64S.ev_l l.length a ha han l.length 0 l rfl (by omega)
  refine ⟨m, ?_, h4, fun j hj => h6 j (by omega) hj⟩
  unfold laws_markInt64S.f
  have := hm
  simp only [Int.natCast_zero, Int.add_zero] at this
  exact this

theorem laws_markGraph.ev (n : Int) (l : List Int) (a : Int) (ha : 0 ≤ a) (han : a + l.length ≤ 4611686018427387904) :
    ∃ m : List Int, Ev (fun k => laws_markGraph.f k n l a) (a + l.length, m) ∧ m.length = l.length ∧ ∀ j : Nat, j < l.length → rd m j = a + j := by
  obtain ⟨m, hm, h4, h6⟩ := laws_markInt64S.ev l a ha han
  refine ⟨m, ?_, h4, h6⟩
  unfold laws_markGraph.f
  exact Ev.bind hm (Ev.now _)

theorem laws_heldInt64S.ev_l (m : List Int) (a : Int) (ha : 0 ≤ a) (han : a + m.length ≤ 4611686018427387904) (hm : ∀ j : Nat, j < m.length → rd m j = a + j) (d : Nat) :
    ∀ (i : Nat), i + d = m.length → Ev (fun k => laws_heldInt64S.l0 k m (a + i) (i : Int)) (a + m.length) := by
  induction d with
  | zero =>
    intro i h3
    refine Ev.step (fun k => laws_heldInt64S.l0.eq_2 ..) ?_
    simp only [if_neg (show ¬ ((i : Int) < (m.length : Int)) by omega)]
    have : i = m.length := by omega
    rw [this]
    exact Ev.now _
  | succ d ih =>
    intro i h3
    refine Ev.step (fun k => laws_heldInt64S.l0.eq_2 ..) ?_
    simp only [if_pos (show (i : Int) < (m.length : Int) by omega), if_pos (show (0 : Int) ≤ (i : Int) by omega), if_pos (hm i (by omega))]
    rw [w64 (by omega) (by omega), w64 (by omega) (by omega), Int.add_assoc]
    exact ih (i + 1) (by omega)
theorem laws_heldInt64S.ev (m : List Int) (a : Int) (ha : 0 ≤ a) (han : a + m.length ≤ 4611686018427387904) (hm : ∀ j : Nat, j < m.length → rd m j = a + j) :
    Ev (fun k => laws_heldInt64S.f k m a) (a + m.length) := by
  unfold laws_heldInt64S.f
  have := laws_heldInt64S.ev_l m a ha han hm m.length 0 (by omega)
  simp only [Int.natCast_zero, Int.add_zero] at this
  exact this

theorem laws_heldGraph.ev (n : Int) (m : List Int) (a : Int) (ha : 0 ≤ a) (han : a + m.length ≤ 4611686018427387904) (hm : ∀ j : Nat, j < m.length → rd m j = a + j) :
    Ev (fun k => laws_heldGraph.f k n m a) (a + m.length) := by
  unfold laws_heldGraph.f
  refine Ev.bind (laws_heldInt64S.ev m a ha han hm) ?_
  simp only [if_neg (show ¬ (a + (m.length : Int) < 0) by omega)]
  exact Ev.now _

end Go.Proofs.YthnjnhdalpcfpaaDoor.XFnExactRenumberGraph
