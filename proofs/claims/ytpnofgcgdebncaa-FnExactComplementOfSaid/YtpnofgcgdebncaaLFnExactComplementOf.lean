/- What the functions that FnExactComplementOf reaches compute. -/
import Derived.Test.YtpnofgcgdebncaaPFnExactComplementOfx0
import Derived.Test.YtpnofgcgdebncaaPFnExactComplementOfx1
import Derived.Test.YtpnofgcgdebncaaPFnExactComplementOfx2
import Derived.Test.YtpnofgcgdebncaaPFnExactComplementOfx3
import Derived.Test.YtpnofgcgdebncaaPFnExactComplementOfx4
import Derived.Test.YtpnofgcgdebncaaPFnExactComplementOfx5
import Derived.Test.YtpnofgcgdebncaaPFnExactComplementOfx6
import Derived.Test.YtpnofgcgdebncaaGr
namespace Go.Proofs.Ytpnofgcgdebncaa.PFnExactComplementOf
open Go.RowKit Go.Proofs.YtpnofgcgdebncaaW.PrintWords Go.Proofs.YtpnofgcgdebncaaW.PrintLast Go.Proofs.Ytpnofgcgdebncaa.B
open Classical
set_option linter.unusedVariables false
set_option linter.unusedSimpArgs false

theorem laws_szInt64S.sp {l : List Int} {a : Int} (h : l.length ≤ 9223372036854775807) (ha : a ≤ 1048576) (ha0 : 0 ≤ a) :
    (laws_szInt64S.f l a = some (-1) ∧ a < l.length) ∨ (laws_szInt64S.f l a = some (a - l.length) ∧ (l.length : Int) ≤ a) := by
  unfold laws_szInt64S.f
  rw [w64 (by omega) (by omega)]
  by_cases c : a - (l.length : Int) < 0
  · rw [if_pos c]; exact .inl ⟨rfl, by omega⟩
  · rw [if_neg c]; exact .inr ⟨rfl, by omega⟩

theorem laws_szGraph.sp {n : Int} {l : List Int} {a : Int} (h : l.length ≤ 9223372036854775807) (ha : a ≤ 1048576) (ha0 : 0 ≤ a) :
    (laws_szGraph.f n l a = some (-1) ∧ a < l.length) ∨ (laws_szGraph.f n l a = some (a - l.length) ∧ (l.length : Int) ≤ a) := by
  unfold laws_szGraph.f
  rcases laws_szInt64S.sp h ha ha0 with ⟨e, c⟩ | ⟨e, c⟩
  · rw [e]; exact .inl ⟨by simp, c⟩
  · rw [e]
    refine .inr ⟨?_, c⟩
    simp only [Option.bind_some]
    rw [if_neg (by omega)]

theorem laws_toInt64S.ev_l (l : List Int) (hl : l.length ≤ 281474976710656) (d : Nat) : ∀ (i : Nat) (acc : List Int), acc.length = l.length → (∀ j, j < i → acc[j]? = l[j]?) → i + d = l.length →
    Ev (fun k => laws_toInt64S.l0 k l acc (i : Int)) l := by
  induction d with
  | zero =>
    intro i acc h1 h2 h3
    refine Ev.step (fun k => laws_toInt64S.l0.eq_2 ..) ?_
    simp only [if_neg (show ¬ ((i : Int) < (l.length : Int)) by omega)]
    refine ev_some (List.ext_getElem? fun j => ?_)
    by_cases hj : j < i
    · exact h2 j hj
    · rw [List.getElem?_eq_none (by omega), List.getElem?_eq_none (by omega)]
  | succ d ih =>
    intro i acc h1 h2 h3
    refine Ev.step (fun k => laws_toInt64S.l0.eq_2 ..) ?_
    simp only [if_pos (show (i : Int) < (l.length : Int) by omega), if_pos (show (0 : Int) ≤ (i : Int) by omega), if_pos (show (i : Int) < (acc.length : Int) by omega)]
    rw [w64 (by omega) (by omega)]
    have := ih (i + 1) (acc.set ((i : Int)).toNat (rd l i)) (by simp [h1]) (fun j hj => by
      rw [Int.toNat_natCast]
      by_cases e : i = j
      · subst e
        rw [List.getElem?_set_self (by omega), rd_get l i (by omega)]
        simp
      · rw [List.getElem?_set_ne e]
        exact h2 j (by omega)) (by omega)
    exact this
theorem laws_toInt64S.ev (l : List Int) (hl : l.length ≤ 35184372088832) : Ev (fun k => laws_toInt64S.f k l) l := by
  unfold laws_toInt64S.f
  simp only [if_pos (show (0 : Int) ≤ (l.length : Int) by omega), if_pos (show ((l.length : Int)).toNat ≤ 35184372088832 by omega)]
  exact laws_toInt64S.ev_l l (by omega) l.length 0 _ (by simp) (fun j hj => by omega) (by omega)

theorem laws_toGraph.ev (n : Int) (l : List Int) (hl : l.length ≤ 35184372088832) : Ev (fun k => laws_toGraph.f k n l) (n, l) := by
  unfold laws_toGraph.f
  exact Ev.bind (laws_toInt64S.ev l hl) (Ev.now _)

theorem laws_eqInt64S.ev_l (l : List Int) (hl : l.length ≤ 281474976710656) (d : Nat) : ∀ (i : Nat), i + d = l.length → Ev (fun k => laws_eqInt64S.l0 k l l (i : Int)) true := by
  induction d with
  | zero =>
    intro i h3
    refine Ev.step (fun k => laws_eqInt64S.l0.eq_2 ..) ?_
    simp only [if_neg (show ¬ ((i : Int) < (l.length : Int)) by omega)]
    exact Ev.now _
  | succ d ih =>
    intro i h3
    refine Ev.step (fun k => laws_eqInt64S.l0.eq_2 ..) ?_
    simp only [if_pos (show (i : Int) < (l.length : Int) by omega), if_pos (show (0 : Int) ≤ (i : Int) by omega), if_true]
    rw [w64 (by omega) (by omega)]
    exact ih (i + 1) (by omega)
theorem laws_eqInt64S.ev (l : List Int) (hl : l.length ≤ 281474976710656) : Ev (fun k => laws_eqInt64S.f k l l) true := by
  unfold laws_eqInt64S.f
  simp only [if_true]
  exact laws_eqInt64S.ev_l l hl l.length 0 (by omega)

theorem laws_eqGraph.ev (n : Int) (l : List Int) (hl : l.length ≤ 281474976710656) : Ev (fun k => laws_eqGraph.f k n l n l) true := by
  unfold laws_eqGraph.f
  simp only [if_true]
  exact Ev.bind (laws_eqInt64S.ev l hl) (Ev.now _)

/-- The marks a + i, from the place i on. -/
theorem laws_markInt64S.ev_l (n : Nat) (a : Int) (ha : 0 ≤ a) (han : a + n ≤ 4611686018427387904) (d : Nat) : ∀ (i : Nat) (l : List Int), l.length = n → i + d = n →
    ∃ m : List Int, Ev (fun k => laws_markInt64S.l0 k l (a + i) (i : Int)) (a + n, m) ∧ m.length = n ∧ (∀ j, j < i → m[j]? = l[j]?) ∧ ∀ j : Nat, i ≤ j → j < n → rd m j = a + j := by
  induction d with
  | zero =>
    intro i l h1 h3
    refine ⟨l, ?_, h1, fun _ _ => rfl, fun j h h' => by omega⟩
    refine Ev.step (fun k => laws_markInt64S.l0.eq_2 ..) ?_
    simp only [if_neg (show ¬ ((i : Int) < (l.length : Int)) by omega)]
    have : i = n := by omega
    rw [this]
    exact Ev.now _
  | succ d ih =>
    intro i l h1 h3
    obtain ⟨m, hm, h4, h5, h6⟩ := ih (i + 1) (l.set i (a + i)) (by simp [h1]) (by omega)
    refine ⟨m, ?_, h4, fun j hj => ?_, fun j hj hj' => ?_⟩
    · refine Ev.step (fun k => laws_markInt64S.l0.eq_2 ..) ?_
      simp only [if_pos (show (i : Int) < (l.length : Int) by omega), if_pos (show (0 : Int) ≤ (i : Int) by omega)]
      rw [w64 (by omega) (by omega), w64 (by omega) (by omega), Int.add_assoc, Int.toNat_natCast]
      exact hm
    · rw [h5 j (by omega), List.getElem?_set_ne (by omega)]
    · by_cases e : j = i
      · subst e
        have := h5 j (by omega)
        rw [List.getElem?_set_self (by omega)] at this
        rw [rd_nat]
        simp [this]
      · exact h6 j (by omega) hj'
theorem laws_markInt64S.ev (l : List Int) (a : Int) (ha : 0 ≤ a) (han : a + l.length ≤ 4611686018427387904) :
    ∃ m : List Int, Ev (fun k => laws_markInt64S.f k l a) (a + l.length, m) ∧ m.length = l.length ∧ ∀ j : Nat, j < l.length → rd m j = a + j := by
  obtain ⟨m, hm, h4, _, h6⟩ := laws_markInt64S.ev_l l.length a ha han l.length 0 l rfl (by omega)
  refine ⟨m, ?_, h4, fun j hj => h6 j (by omega) hj⟩
  unfold laws_markInt64S.f
  have := hm
  simp only [Int.natCast_zero, Int.add_zero] at this
  exact this

theorem laws_markGraph.ev (n : Int) (l : List Int) (a : Int) (ha : 0 ≤ a) (han : a + l.length ≤ 4611686018427387904) :
    ∃ m : List Int, Ev (fun k => laws_markGraph.f k n l a) (a + l.length, m) ∧ m.length = l.length ∧ ∀ j : Nat, j < l.length → rd m j = a + j := by
  obtain ⟨m, hm, h4, h6⟩ := laws_markInt64S.ev l a ha han
  refine ⟨m, ?_, h4, h6⟩
  unfold laws_markGraph.f
  exact Ev.bind hm (Ev.now _)

theorem laws_heldInt64S.ev_l (m : List Int) (a : Int) (ha : 0 ≤ a) (han : a + m.length ≤ 4611686018427387904) (hm : ∀ j : Nat, j < m.length → rd m j = a + j) (d : Nat) :
    ∀ (i : Nat), i + d = m.length → Ev (fun k => laws_heldInt64S.l0 k m (a + i) (i : Int)) (a + m.length) := by
  induction d with
  | zero =>
    intro i h3
    refine Ev.step (fun k => laws_heldInt64S.l0.eq_2 ..) ?_
    simp only [if_neg (show ¬ ((i : Int) < (m.length : Int)) by omega)]
    have : i = m.length := by omega
    rw [this]
    exact Ev.now _
  | succ d ih =>
    intro i h3
    refine Ev.step (fun k => laws_heldInt64S.l0.eq_2 ..) ?_
    simp only [if_pos (show (i : Int) < (m.length : Int) by omega), if_pos (show (0 : Int) ≤ (i : Int) by omega), if_pos (hm i (by omega))]
    rw [w64 (by omega) (by omega), w64 (by omega) (by omega), Int.add_assoc]
    exact ih (i + 1) (by omega)
theorem laws_heldInt64S.ev (m : List Int) (a : Int) (ha : 0 ≤ a) (han : a + m.length ≤ 4611686018427387904) (hm : ∀ j : Nat, j < m.length → rd m j = a + j) :
    Ev (fun k => laws_heldInt64S.f k m a) (a + m.length) := by
  unfold laws_heldInt64S.f
  have := laws_heldInt64S.ev_l m a ha han hm m.length 0 (by omega)
  simp only [Int.natCast_zero, Int.add_zero] at this
  exact this

theorem laws_heldGraph.ev (n : Int) (m : List Int) (a : Int) (ha : 0 ≤ a) (han : a + m.length ≤ 4611686018427387904) (hm : ∀ j : Nat, j < m.length → rd m j = a + j) :
    Ev (fun k => laws_heldGraph.f k n m a) (a + m.length) := by
  unfold laws_heldGraph.f
  refine Ev.bind (laws_heldInt64S.ev m a ha han hm) ?_
  simp only [if_neg (show ¬ (a + (m.length : Int) < 0) by omega)]
  exact Ev.now _

theorem spec_l01In.sp (a b c : Int) : spec_l01In.f a b c = some (decide (b ≤ a ∧ a ≤ c)) := by
  unfold spec_l01In.f
  by_cases h : b ≤ a <;> simp [h]

theorem spec_l01Has.sp (n : Int) (rows : List Int) (a b : Int) (ha : 0 ≤ a) (ha1 : a < rows.length) (hb : 0 ≤ b) (hb1 : b ≤ 62) : spec_l01Has.f n rows a b = some (dig (rd rows a) b.toNat) := by
  unfold spec_l01Has.f
  rw [u64 hb (by omega), if_pos ha, if_pos ha1, if_pos hb, bit_dig hb (by omega)]

/-! spec.IsGraph -/
theorem spec_l01Is.ev_2 (n : Int) (rows : List Int) (hn1 : n ≤ 62) (hl : (rows.length : Int) = n) (v : Nat) (hv : (v : Int) < n)
    (F : Prop) (hF : Ev (fun q => spec_l01Is.l1 q ((v + 1 : Nat) : Int) n rows) (decide F)) (d : Nat) : ∀ w : Nat, w + d = v →
    Ev (fun q => spec_l01Is.l2 q (v : Int) (w : Int) n rows) (decide ((∀ k : Nat, w ≤ k → k < v → dig (rd rows v) k = dig (rd rows k) v) ∧ F)) := by
  induction d with
  | zero =>
    intro w e
    refine Ev.step (fun k => spec_l01Is.l2.eq_2 ..) ?_
    simp only [if_neg (show ¬ ((w : Int) < (v : Int)) by omega)]
    rw [w64 (by omega) (by omega)]
    refine ev_cast hF ?_
    refine dec_congr ?_
    exact ⟨fun a => ⟨scan_end (by omega), a⟩, fun a => a.2⟩
  | succ d ih =>
    intro w e
    refine Ev.step (fun k => spec_l01Is.l2.eq_2 ..) ?_
    rw [spec_l01Has.sp n rows v w (by omega) (by omega) (by omega) (by omega), spec_l01Has.sp n rows w v (by omega) (by omega) (by omega) (by omega), w64 (n := (w : Int) + 1) (by omega) (by omega)]
    simp only [if_pos (show (w : Int) < (v : Int) by omega), Option.bind_some, Int.toNat_natCast]
    by_cases c : dig (rd rows v) w = dig (rd rows w) v
    · simp only [c, bne_self_eq_false, Bool.false_eq_true, if_false]
      refine ev_cast (ih (w + 1) (by omega)) ?_
      refine dec_congr ?_
      rw [scan_step (P := fun k : Nat => dig (rd rows v) k = dig (rd rows k) v) c]
    · simp only [bne_iff_ne, ne_eq, c, not_false_eq_true, if_true]
      rw [decide_eq_false (fun a => c (a.1 w (Nat.le_refl _) (by omega)))]
      exact Ev.now _
theorem spec_l01Is.ev_1 (n : Int) (rows : List Int) (hn1 : n ≤ 62) (hl : (rows.length : Int) = n) (d : Nat) : ∀ v : Nat, v + d = rows.length →
    Ev (fun q => spec_l01Is.l1 q (v : Int) n rows) (decide (∀ k : Nat, v ≤ k → k < rows.length → ∀ w : Nat, 0 ≤ w → w < k → dig (rd rows k) w = dig (rd rows w) k)) := by
  induction d with
  | zero =>
    intro v e
    refine Ev.step (fun k => spec_l01Is.l1.eq_2 ..) ?_
    simp only [if_neg (show ¬ ((v : Int) < n) by omega)]
    rw [decide_eq_true (scan_end (by omega))]
    exact Ev.now _
  | succ d ih =>
    intro v e
    refine Ev.step (fun k => spec_l01Is.l1.eq_2 ..) ?_
    simp only [if_pos (show (v : Int) < n by omega)]
    refine ev_cast (spec_l01Is.ev_2 n rows hn1 hl v (by omega) _ (ih (v + 1) (by omega)) v 0 (by omega)) ?_
    refine dec_congr ?_
    constructor
    · rintro ⟨a1, a2⟩
      exact (scan_step (P := fun k : Nat => ∀ w : Nat, 0 ≤ w → w < k → dig (rd rows k) w = dig (rd rows w) k) (i := v) a1).2 a2
    · intro a
      exact ⟨a v (Nat.le_refl _) (by omega), fun k hk hk1 => a k (by omega) hk1⟩
theorem spec_l01Is.ev_0 (n : Int) (rows : List Int) (hn : 1 ≤ n) (hn1 : n ≤ 62) (hl : (rows.length : Int) = n) (d : Nat) : ∀ v : Nat, v + d = rows.length →
    Ev (fun q => spec_l01Is.l0 q (v : Int) n rows) (decide ((∀ k : Nat, v ≤ k → k < rows.length → 0 ≤ rd rows k ∧ rd rows k < ((2 ^ n.toNat : Nat) : Int) ∧ dig (rd rows k) k = false) ∧
      ∀ k : Nat, 0 ≤ k → k < rows.length → ∀ w : Nat, 0 ≤ w → w < k → dig (rd rows k) w = dig (rd rows w) k)) := by
  have hp : 1 ≤ 2 ^ n.toNat := Nat.one_le_two_pow
  have hq := pow62 (n := n.toNat) (by omega)
  induction d with
  | zero =>
    intro v e
    refine Ev.step (fun k => spec_l01Is.l0.eq_2 ..) ?_
    simp only [if_neg (show ¬ ((v : Int) < n) by omega)]
    refine ev_cast (spec_l01Is.ev_1 n rows hn1 hl rows.length 0 (by omega)) ?_
    refine dec_congr ?_
    exact ⟨fun a => ⟨scan_end (by omega), a⟩, fun a => a.2⟩
  | succ d ih =>
    intro v e
    refine Ev.step (fun k => spec_l01Is.l0.eq_2 ..) ?_
    rw [u64 (by omega) (by omega), shl_one (by omega) hn1, w64 (by omega) (by omega), w64 (n := (v : Int) + 1) (by omega) (by omega), spec_l01Has.sp n rows v v (by omega) (by omega) (by omega) (by omega), Int.toNat_natCast]
    simp only [if_pos (show (v : Int) < n by omega), if_pos (show (0 : Int) ≤ (v : Int) by omega), if_pos (show (v : Int) < (rows.length : Int) by omega), if_pos (show 0 ≤ n by omega), spec_l01In.sp, Option.bind_some, decide_eq_true_eq]
    by_cases c1 : 0 ≤ rd rows v ∧ rd rows v ≤ ((2 ^ n.toNat : Nat) : Int) - 1
    · simp only [if_pos c1]
      by_cases c2 : dig (rd rows v) v = true
      · simp only [if_pos c2]
        rw [decide_eq_false (fun a => by have := (a.1 v (Nat.le_refl _) (by omega)).2.2; rw [c2] at this; cases this)]
        exact Ev.now _
      · simp only [if_neg c2]
        refine ev_cast (ih (v + 1) (by omega)) ?_
        refine dec_congr ?_
        rw [scan_step (P := fun k : Nat => 0 ≤ rd rows k ∧ rd rows k < ((2 ^ n.toNat : Nat) : Int) ∧ dig (rd rows k) k = false) (i := v) ⟨c1.1, by omega, by simpa using c2⟩]
    · simp only [if_neg c1]
      rw [decide_eq_false (fun a => by have := a.1 v (Nat.le_refl _) (by omega); omega)]
      exact Ev.now _
theorem isG_iff' (n : Int) (rows : List Int) (hn : 1 ≤ n) (hn1 : n ≤ 62) (hl : (rows.length : Int) = n) :
    ((∀ k : Nat, 0 ≤ k → k < rows.length → 0 ≤ rd rows k ∧ rd rows k < ((2 ^ n.toNat : Nat) : Int) ∧ dig (rd rows k) k = false) ∧
      ∀ k : Nat, 0 ≤ k → k < rows.length → ∀ w : Nat, 0 ≤ w → w < k → dig (rd rows k) w = dig (rd rows w) k) ↔ IsG n rows := by
  constructor
  · rintro ⟨a, b⟩
    refine ⟨hn, hn1, hl, fun v hv => a v (by omega) (by omega), fun v w hv hw => ?_⟩
    rcases Nat.lt_trichotomy v w with h | h | h
    · exact (b w (by omega) (by omega) v (by omega) h).symm
    · rw [h]
    · exact b v (by omega) (by omega) w (by omega) h
  · intro a
    exact ⟨fun k _ hk => a.2.2.2.1 k (by omega), fun k _ hk w _ hw => a.2.2.2.2 k w (by omega) (by omega)⟩
theorem spec_l01Is.ev (n : Int) (rows : List Int) : Ev (fun q => spec_l01Is.f q n rows) (decide (IsG n rows)) := by
  unfold spec_l01Is.f
  simp only [spec_l01In.sp, Option.bind_some, decide_eq_true_eq]
  by_cases h1 : 1 ≤ n ∧ n ≤ 62
  · simp only [if_pos h1]
    refine Ev.step (fun k => spec_l01Is.j0.eq_2 ..) ?_
    by_cases h3 : (rows.length : Int) = n
    · simp only [h3, bne_self_eq_false, Bool.false_eq_true, if_false]
      refine ev_cast (spec_l01Is.ev_0 n rows h1.1 h1.2 h3 rows.length 0 (by omega)) ?_
      refine dec_congr ?_
      exact isG_iff' n rows h1.1 h1.2 h3
    · simp only [bne_iff_ne, ne_eq, h3, not_false_eq_true, if_true]
      rw [decide_eq_false (fun a => h3 a.2.2.1)]
      exact Ev.now _
  · simp only [if_neg h1]
    refine Ev.step (fun k => spec_l01Is.j0.eq_2 ..) ?_
    simp only [if_true]
    rw [decide_eq_false (fun a => h1 ⟨a.1, a.2.1⟩)]
    exact Ev.now _

theorem spec_l01Empty.sp (n : Int) (h0 : 0 ≤ n) (h1 : n ≤ 35184372088832) : spec_l01Empty.f n = some (n, List.replicate n.toNat 0) := by
  unfold spec_l01Empty.f
  rw [if_pos h0, if_pos (by omega)]

/-! impl.IsGraph -/
theorem impl_IsGraph.ev_1 (n : Int) (rows : List Int) (hn : 1 ≤ n) (hn1 : n ≤ 62) (hl : (rows.length : Int) = n) (v : Nat) (hv : (v : Int) < n)
    (F : Prop) (hF : Ev (fun q => impl_IsGraph.l0 q n rows (rows.length : Int) ((v + 1 : Nat) : Int) n rows) (decide F)) (d : Nat) : ∀ w : Nat, w + d = rows.length →
    Ev (fun q => impl_IsGraph.l1 q n (v : Int) (rd rows v) rows (rows.length : Int) (v : Int) n (w : Int) n rows) (decide ((∀ k : Nat, w ≤ k → k < rows.length → dig (rd rows v) k = dig (rd rows k) v) ∧ F)) := by
  induction d with
  | zero =>
    intro w e
    refine Ev.step (fun k => impl_IsGraph.l1.eq_2 ..) ?_
    simp only [if_neg (show ¬ ((w : Int) < n) by omega)]
    rw [w64 (by omega) (by omega)]
    refine ev_cast hF ?_
    refine dec_congr ?_
    exact ⟨fun a => ⟨scan_end (by omega), a⟩, fun a => a.2⟩
  | succ d ih =>
    intro w e
    refine Ev.step (fun k => impl_IsGraph.l1.eq_2 ..) ?_
    simp only [if_pos (show (w : Int) < n by omega), if_pos (show (0 : Int) ≤ (w : Int) by omega), if_pos (show (w : Int) < (rows.length : Int) by omega), if_pos (show (0 : Int) ≤ (v : Int) by omega)]
    rw [bit_val (v := (w : Int)) (by omega) (by omega), bit_val (v := (v : Int)) (by omega) (by omega), w64 (n := (w : Int) + 1) (by omega) (by omega)]
    simp only [Int.toNat_natCast]
    by_cases c : dig (rd rows v) w = dig (rd rows w) v
    · simp only [c, if_true]
      refine ev_cast (ih (w + 1) (by omega)) ?_
      refine dec_congr ?_
      rw [scan_step (P := fun k : Nat => dig (rd rows v) k = dig (rd rows k) v) c]
    · rw [decide_eq_false (fun a => c (a.1 w (Nat.le_refl _) (by omega)))]
      have : ¬ ((if dig (rd rows v) w = true then (1 : Int) else 0) = if dig (rd rows w) v = true then 1 else 0) := by
        intro h
        apply c
        cases h1 : dig (rd rows v) w <;> cases h2 : dig (rd rows w) v <;> simp [h1, h2] at h ⊢
      simp only [if_neg this]
      exact Ev.now _
theorem impl_IsGraph.ev_0 (n : Int) (rows : List Int) (hn : 1 ≤ n) (hn1 : n ≤ 62) (hl : (rows.length : Int) = n) (d : Nat) : ∀ v : Nat, v + d = rows.length →
    Ev (fun q => impl_IsGraph.l0 q n rows (rows.length : Int) (v : Int) n rows)
      (decide (∀ k : Nat, v ≤ k → k < rows.length → (0 ≤ rd rows k ∧ rd rows k < ((2 ^ n.toNat : Nat) : Int) ∧ dig (rd rows k) k = false) ∧ ∀ w : Nat, 0 ≤ w → w < rows.length → dig (rd rows k) w = dig (rd rows w) k)) := by
  induction d with
  | zero =>
    intro v e
    refine Ev.step (fun k => impl_IsGraph.l0.eq_2 ..) ?_
    simp only [if_neg (show ¬ ((v : Int) < (rows.length : Int)) by omega)]
    rw [decide_eq_true (scan_end (by omega))]
    exact Ev.now _
  | succ d ih =>
    intro v e
    refine Ev.step (fun k => impl_IsGraph.l0.eq_2 ..) ?_
    simp only [if_pos (show (v : Int) < (rows.length : Int) by omega), if_pos (show (0 : Int) ≤ (v : Int) by omega), if_pos (show 0 ≤ n by omega)]
    rw [shl_one (by omega) hn1, bit_dig (by omega) (by omega), Int.toNat_natCast]
    have key : ∀ g : Bool, (g = true ↔ ¬ (0 ≤ rd rows v ∧ rd rows v < ((2 ^ n.toNat : Nat) : Int) ∧ dig (rd rows v) v = false)) → Ev (fun q => impl_IsGraph.j2 q n (v : Int) (rd rows v) rows (rows.length : Int) (v : Int) g n rows)
        (decide (∀ k : Nat, v ≤ k → k < rows.length → (0 ≤ rd rows k ∧ rd rows k < ((2 ^ n.toNat : Nat) : Int) ∧ dig (rd rows k) k = false) ∧ ∀ w : Nat, 0 ≤ w → w < rows.length → dig (rd rows k) w = dig (rd rows w) k)) := by
      intro g hg
      refine Ev.step (fun k => impl_IsGraph.j2.eq_2 ..) ?_
      by_cases c : g = true
      · simp only [if_pos c]
        rw [decide_eq_false (fun a => hg.1 c (a v (Nat.le_refl _) (by omega)).1)]
        exact Ev.now _
      · simp only [if_neg c]
        have c2 : 0 ≤ rd rows v ∧ rd rows v < ((2 ^ n.toNat : Nat) : Int) ∧ dig (rd rows v) v = false := Classical.not_not.1 fun a => c (hg.2 a)
        refine ev_cast (impl_IsGraph.ev_1 n rows hn hn1 hl v (by omega) _ (ih (v + 1) (by omega)) rows.length 0 (by omega)) ?_
        refine dec_congr ?_
        constructor
        · rintro ⟨a1, a2⟩
          exact (scan_step (P := fun k : Nat => (0 ≤ rd rows k ∧ rd rows k < ((2 ^ n.toNat : Nat) : Int) ∧ dig (rd rows k) k = false) ∧ ∀ w : Nat, 0 ≤ w → w < rows.length → dig (rd rows k) w = dig (rd rows w) k) (i := v) ⟨c2, a1⟩).2 a2
        · intro a
          exact ⟨(a v (Nat.le_refl _) (by omega)).2, fun k hk hk1 => a k (by omega) hk1⟩
    by_cases c1 : rd rows v < 0
    · simp only [if_pos c1]
      exact key true ⟨fun _ a => by omega, fun _ => rfl⟩
    · simp only [if_neg c1]
      by_cases c2 : rd rows v ≥ ((2 ^ n.toNat : Nat) : Int)
      · simp only [if_pos c2]
        exact key true ⟨fun _ a => by omega, fun _ => rfl⟩
      · simp only [if_neg c2]
        exact key _ ⟨fun g a => by rw [a.2.2] at g; exact Bool.false_ne_true g, fun g => by
          by_cases h : dig (rd rows v) v = true
          · exact h
          · exact (g ⟨by omega, by omega, by simpa using h⟩).elim⟩
theorem isG_iff (n : Int) (rows : List Int) (hn : 1 ≤ n) (hn1 : n ≤ 62) (hl : (rows.length : Int) = n) :
    (∀ k : Nat, 0 ≤ k → k < rows.length → (0 ≤ rd rows k ∧ rd rows k < ((2 ^ n.toNat : Nat) : Int) ∧ dig (rd rows k) k = false) ∧ ∀ w : Nat, 0 ≤ w → w < rows.length → dig (rd rows k) w = dig (rd rows w) k) ↔ IsG n rows :=
  ⟨fun a => ⟨hn, hn1, hl, fun v hv => (a v (by omega) (by omega)).1, fun v w hv hw => (a v (by omega) (by omega)).2 w (by omega) (by omega)⟩,
    fun a k _ hk => ⟨a.2.2.2.1 k (by omega), fun w _ hw => a.2.2.2.2 k w (by omega) (by omega)⟩⟩
theorem impl_IsGraph.ev (n : Int) (rows : List Int) : Ev (fun q => impl_IsGraph.f q n rows) (decide (IsG n rows)) := by
  unfold impl_IsGraph.f
  by_cases h1 : n < 1
  · simp only [if_pos h1]
    refine Ev.step (fun k => impl_IsGraph.j0.eq_2 ..) ?_
    simp only [if_true]; rw [decide_eq_false (fun a => by have := a.1; omega)]; exact Ev.now _
  by_cases h2 : n > 62
  · simp only [if_neg h1, if_pos h2]
    refine Ev.step (fun k => impl_IsGraph.j0.eq_2 ..) ?_
    simp only [if_true]; rw [decide_eq_false (fun a => by have := a.2.1; omega)]; exact Ev.now _
  simp only [if_neg h1, if_neg h2]
  refine Ev.step (fun k => impl_IsGraph.j0.eq_2 ..) ?_
  by_cases h3 : (rows.length : Int) = n
  · simp only [h3, bne_self_eq_false, Bool.false_eq_true, if_false]
    have := impl_IsGraph.ev_0 n rows (by omega) (by omega) h3 rows.length 0 (by omega)
    rw [h3] at this
    refine ev_cast this ?_
    refine dec_congr ?_
    exact isG_iff n rows (by omega) (by omega) h3
  · simp only [bne_iff_ne, ne_eq, h3, not_false_eq_true, if_true]
    rw [decide_eq_false (fun a => h3 a.2.2.1)]
    exact Ev.now _

/-- The complement's rows. -/
def ComplE (rows : List Int) (v w : Nat) : Prop := v ≠ w ∧ ¬ Adj rows v w
noncomputable def compl (n : Int) (rows : List Int) : List Int := gr n.toNat (ComplE rows)
/-- Row v of the complement, by subtraction. -/
theorem compl_row {n : Int} {rows : List Int} (h : IsG n rows) {v : Nat} (hv : v < n.toNat) :
    ((2 ^ n.toNat : Nat) : Int) - 1 - rd rows v - ((2 ^ v : Nat) : Int) = ((bsum n.toNat fun w => decide (ComplE rows v w) : Nat) : Int) := by
  have key : ∀ m : Nat, (bsum m (fun w => decide (Adj rows v w))) + (if v < m then 2 ^ v else 0) + (bsum m fun w => decide (ComplE rows v w)) + 1 = 2 ^ m := by
    intro m
    induction m with
    | zero => simp [bsum]
    | succ m ih =>
      simp only [bsum, Nat.pow_succ]
      have hirr := h.irrefl hv
      by_cases c1 : v = m
      · subst c1
        rw [if_neg (Nat.lt_irrefl v)] at ih
        have f1 : decide (Adj rows v v) = false := by simpa using hirr
        have f2 : decide (ComplE rows v v) = false := by simp [ComplE]
        simp only [f1, f2, Bool.false_eq_true, if_false, if_pos (Nat.lt_succ_self v)]
        omega
      · have e : (if v < m + 1 then 2 ^ v else 0) = if v < m then 2 ^ v else 0 := by
          by_cases c2 : v < m
          · rw [if_pos c2, if_pos (by omega)]
          · rw [if_neg c2, if_neg (by omega)]
        rw [e]
        by_cases c3 : Adj rows v m
        · have f1 : decide (Adj rows v m) = true := by simpa using c3
          have f2 : decide (ComplE rows v m) = false := by simp [ComplE, c3]
          simp only [f1, f2, if_true, Bool.false_eq_true, if_false]; omega
        · have f1 : decide (Adj rows v m) = false := by simpa using c3
          have f2 : decide (ComplE rows v m) = true := by simp [ComplE, c1, c3]
          simp only [f1, f2, if_true, Bool.false_eq_true, if_false]; omega
  have k := key n.toNat
  rw [if_pos hv] at k
  have hr : rd rows (v : Int) = ((bsum n.toNat (fun w => decide (Adj rows v w)) : Nat) : Int) := by
    have := h.rows_eq
    rw [this, gr_rd hv, ← this]
  rw [hr]
  generalize bsum n.toNat (fun w => decide (Adj rows v w)) = a at k ⊢
  generalize (bsum n.toNat fun w => decide (ComplE rows v w)) = b at k ⊢
  generalize 2 ^ n.toNat = c at k ⊢
  generalize 2 ^ v = d at k ⊢
  omega
theorem list_set_take {l m : List Int} (h : l.length = m.length) (i : Nat) (hi : i < l.length) (e : ∀ j, j < i → l[j]? = m[j]?) (x : Int) (hx : m[i]? = some x) : ∀ j, j < i + 1 → (l.set i x)[j]? = m[j]? := by
  intro j hj
  by_cases c : i = j
  · subst c; rw [List.getElem?_set_self hi, hx]
  · rw [List.getElem?_set_ne c]; exact e j (by omega)
theorem gr_get {n : Nat} {E : Nat → Nat → Prop} {v : Nat} (h : v < n) : (gr n E)[v]? = some ((bsum n fun w => decide (E v w) : Nat) : Int) := by
  have := gr_rd (E := E) h
  rw [rd_nat, List.getD_eq_getElem?_getD] at this
  rw [← this]
  rw [List.getElem?_eq_getElem (by rw [gr_length]; exact h)]
  rfl
theorem spec_l01Complement.ev_l {n : Int} {rows : List Int} (h : IsG n rows) (d : Nat) : ∀ (i : Nat) (acc : List Int), acc.length = n.toNat → (∀ j, j < i → acc[j]? = (compl n rows)[j]?) → i + d = n.toNat →
    Ev (fun q => spec_l01Complement.l0 q (i : Int) n rows n acc) (n, compl n rows) := by
  have hn := h.1
  have hn1 := h.2.1
  have hl := h.2.2.1
  have hp : 1 ≤ 2 ^ n.toNat := Nat.one_le_two_pow
  have hq := pow62 (n := n.toNat) (by omega)
  have hcl : (compl n rows).length = n.toNat := gr_length _ _
  induction d with
  | zero =>
    intro i acc h1 h2 h3
    refine Ev.step (fun k => spec_l01Complement.l0.eq_2 ..) ?_
    simp only [if_neg (show ¬ ((i : Int) < n) by omega)]
    refine ev_some ?_
    congr 1
    refine List.ext_getElem? fun j => ?_
    by_cases hj : j < i
    · exact h2 j hj
    · rw [List.getElem?_eq_none (by omega), List.getElem?_eq_none (by omega)]
  | succ d ih =>
    intro i acc h1 h2 h3
    refine Ev.step (fun k => spec_l01Complement.l0.eq_2 ..) ?_
    have hr := h.2.2.2.1 i (by omega)
    have hi2 := pow62 (n := i) (by omega)
    have cr := compl_row h (v := i) (by omega)
    have hb := bsum_lt n.toNat fun w => decide (ComplE rows i w)
    rw [u64 (n := n) (by omega) (by omega), u64 (n := (i : Int)) (by omega) (by omega), shl_one (by omega) hn1, shl_one (n := (i : Int)) (by omega) (by omega), Int.toNat_natCast]
    generalize hP : 2 ^ n.toNat = P at *
    generalize hD : 2 ^ i = D at *
    rw [w64 (n := (P : Int) - 1) (by omega) (by omega), w64 (n := (P : Int) - 1 - _) (by omega) (by omega), w64 (n := (P : Int) - 1 - _ - _) (by omega) (by omega), w64 (by omega) (by omega), cr]
    simp only [if_pos (show (i : Int) < n by omega), if_pos (show 0 ≤ n by omega), if_pos (show (0 : Int) ≤ (i : Int) by omega), if_pos (show (i : Int) < (rows.length : Int) by omega), if_pos (show (i : Int) < (acc.length : Int) by omega)]
    exact ih (i + 1) _ (by simp [h1]) (list_set_take (by omega) i (by omega) h2 _ (gr_get (n := n.toNat) (v := i) (by omega))) (by omega)
theorem spec_l01Complement.ev {n : Int} {rows : List Int} (h : IsG n rows) : Ev (fun q => spec_l01Complement.f q n rows) (n, compl n rows) := by
  unfold spec_l01Complement.f
  have := h.1
  have := h.2.1
  rw [spec_l01Empty.sp _ (by omega) (by omega)]
  exact spec_l01Complement.ev_l h n.toNat 0 _ (by simp) (fun j hj => by omega) (by omega)

theorem impl_empty.sp (n : Int) (h0 : 0 ≤ n) (h1 : n ≤ 35184372088832) : impl_empty.f n = some (n, List.replicate n.toNat 0) := by
  unfold impl_empty.f
  rw [if_pos h0, if_pos (by omega)]

theorem impl_all.sp {n : Int} (h0 : 0 ≤ n) (h1 : n ≤ 62) : impl_all.f n = some (((2 ^ n.toNat - 1 : Nat)) : Int) := by
  unfold impl_all.f
  have hp : 1 ≤ 2 ^ n.toNat := Nat.one_le_two_pow
  have hq := pow62 (n := n.toNat) (by omega)
  rw [if_pos h0, shl_one h0 h1]
  generalize 2 ^ n.toNat = P at *
  rw [w64 (by omega) (by omega)]
  congr 1
  omega

noncomputable def complR (n : Int) (rows : List Int) : Int × List Int × Int := if IsG n rows then (n, compl n rows, 0) else (0, [], 1)
theorem complR_length (n : Int) (rows : List Int) : (complR n rows).2.1.length ≤ 62 := by
  unfold complR
  split
  · rename_i h
    have := h.le
    simp only [compl, gr_length]; omega
  · simp
theorem spec_ComplementOf.ev (n : Int) (rows : List Int) : Ev (fun q => spec_ComplementOf.f q n rows) (complR n rows) := by
  unfold spec_ComplementOf.f complR
  refine Ev.bind (spec_l01Is.ev n rows) ?_
  by_cases h : IsG n rows
  · simp only [h, decide_true, if_true]
    exact Ev.bind (spec_l01Complement.ev h) (Ev.now _)
  · simp only [h, decide_false, Bool.false_eq_true, if_false]
    exact Ev.now _
/-- all &^ row &^ (1 << v) is the complement's row. -/
theorem compl_bits {n : Int} {rows : List Int} (h : IsG n rows) {v : Nat} (hv : v < n.toNat) :
    Go.bits .andNot .i64 (Go.bits .andNot .i64 (((2 ^ n.toNat - 1 : Nat)) : Int) (rd rows v)) ((2 ^ v : Nat) : Int) = ((bsum n.toNat fun w => decide (ComplE rows v w) : Nat) : Int) := by
  have hn := h.le
  have hr : rd rows (v : Int) = ((bsum n.toNat (fun w => decide (Adj rows v w)) : Nat) : Int) := by
    have := h.rows_eq
    rw [this, gr_rd hv, ← this]
  have h1 := pow62 hn
  have h2 := bsum_lt n.toNat (fun w => decide (Adj rows v w))
  have h3 : 2 ^ v < 2 ^ n.toNat := Nat.pow_lt_pow_right (by decide) hv
  rw [hr]
  obtain ⟨c, hc, hcb⟩ := bit_andNot (2 ^ n.toNat - 1) (bsum n.toNat (fun w => decide (Adj rows v w))) (by omega) (by omega)
  rw [hc]
  have hcl : c < 2 ^ n.toNat := by
    refine Nat.lt_pow_two_of_testBit c fun i hi => ?_
    rw [hcb, Nat.testBit_two_pow_sub_one]
    simp [Nat.not_lt.2 hi]
  obtain ⟨e, he, heb⟩ := bit_andNot c (2 ^ v) (by omega) (by omega)
  rw [he]
  congr 1
  refine Nat.eq_of_testBit_eq fun i => ?_
  rw [heb, hcb, Nat.testBit_two_pow_sub_one, bsum_bit, bsum_bit, Nat.testBit_two_pow]
  by_cases hi : i < n.toNat
  · by_cases c1 : Adj rows v i <;> by_cases c2 : v = i <;> simp [ComplE, hi, c1, c2]
  · simp [hi]
theorem impl_ComplementOf.ev_l {n : Int} {rows : List Int} (h : IsG n rows) (d : Nat) : ∀ (i : Nat) (acc : List Int), acc.length = n.toNat → (∀ j, j < i → acc[j]? = (compl n rows)[j]?) → i + d = n.toNat →
    Ev (fun q => impl_ComplementOf.l0 q rows (rows.length : Int) (i : Int) n rows n acc) (n, compl n rows, 0) := by
  have hn := h.1
  have hn1 := h.2.1
  have hl := h.2.2.1
  have hcl : (compl n rows).length = n.toNat := gr_length _ _
  induction d with
  | zero =>
    intro i acc h1 h2 h3
    refine Ev.step (fun k => impl_ComplementOf.l0.eq_2 ..) ?_
    simp only [if_neg (show ¬ ((i : Int) < (rows.length : Int)) by omega)]
    refine ev_some ?_
    congr 2
    refine List.ext_getElem? fun j => ?_
    by_cases hj : j < i
    · exact h2 j hj
    · rw [List.getElem?_eq_none (by omega), List.getElem?_eq_none (by omega)]
  | succ d ih =>
    intro i acc h1 h2 h3
    refine Ev.step (fun k => impl_ComplementOf.l0.eq_2 ..) ?_
    rw [impl_all.sp (by omega) hn1, shl_one (n := (i : Int)) (by omega) (by omega), Int.toNat_natCast, w64 (by omega) (by omega)]
    simp only [Option.bind_some]
    rw [compl_bits h (by omega)]
    simp only [if_pos (show (i : Int) < (rows.length : Int) by omega), if_pos (show (0 : Int) ≤ (i : Int) by omega), if_pos (show (i : Int) < (acc.length : Int) by omega)]
    exact ih (i + 1) _ (by simp [h1]) (list_set_take (by omega) i (by omega) h2 _ (gr_get (n := n.toNat) (v := i) (by omega))) (by omega)
theorem impl_ComplementOf.ev (n : Int) (rows : List Int) : Ev (fun q => impl_ComplementOf.f q n rows) (complR n rows) := by
  unfold impl_ComplementOf.f complR
  refine Ev.bind (impl_IsGraph.ev n rows) ?_
  by_cases h : IsG n rows
  · simp only [h, decide_true, if_true]
    have hn := h.1
    have hn1 := h.2.1
    rw [impl_empty.sp _ (by omega) (by omega)]
    exact impl_ComplementOf.ev_l h n.toNat 0 _ (by simp) (fun j hj => by omega) (by omega)
  · simp only [h, decide_false, Bool.false_eq_true, if_false]
    exact Ev.now _

end Go.Proofs.Ytpnofgcgdebncaa.PFnExactComplementOf
