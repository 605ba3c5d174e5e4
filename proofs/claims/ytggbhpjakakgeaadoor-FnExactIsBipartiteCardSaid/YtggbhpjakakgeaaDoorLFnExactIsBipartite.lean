/- What the functions that FnExactIsBipartite reaches compute. -/
import Derived.Test.YtggbhpjakakgeaaDoorXFnExactIsBipartitex0
import Derived.Test.YtggbhpjakakgeaaDoorXFnExactIsBipartitex1
import Derived.Test.YtggbhpjakakgeaaDoorXFnExactIsBipartitex2
import Derived.Test.YtggbhpjakakgeaaDoorXFnExactIsBipartitex3
import Derived.Test.YtggbhpjakakgeaaDoorXFnExactIsBipartitex4
import Derived.Test.YtggbhpjakakgeaaDoorXFnExactIsBipartitex5
import Derived.Test.YtggbhpjakakgeaaDoorXFnExactIsBipartitex6
import Derived.Test.YtggbhpjakakgeaaDoorXFnExactIsBipartitex7
import Derived.Test.YtggbhpjakakgeaaDoorXFnExactIsBipartitex8
import Derived.Test.YtggbhpjakakgeaaDoorXFnExactIsBipartitex9
import Derived.Test.YtggbhpjakakgeaaDoorGr
namespace Go.Proofs.YtggbhpjakakgeaaDoor.XFnExactIsBipartite
open Go.RowKit Go.Proofs.YtggbhpjakakgeaaDoorW.PrintWords Go.Proofs.YtggbhpjakakgeaaDoorW.PrintLast Go.Proofs.YtggbhpjakakgeaaDoor.B
open Classical
set_option linter.unusedVariables false
set_option linter.unusedSimpArgs false
set_option linter.unusedSectionVars false

theorem laws_szInt64S.sp {l : List Int} {a : Int} (h : l.length ≤ 9223372036854775807) (ha : a ≤ 1048576) (ha0 : 0 ≤ a) :
    (laws_szInt64S.f l a = some (-1) ∧ a < l.length) ∨ (laws_szInt64S.f l a = some (a - l.length) ∧ (l.length : Int) ≤ a) := by
  unfold laws_szInt64S.f
  rw [w64 (by omega) (by omega)]
  by_cases c : a - (l.length : Int) < 0
  · rw [if_pos c]; exact .inl ⟨rfl, by omega⟩
  · rw [if_neg c]; exact .inr ⟨rfl, by omega⟩

theorem laws_szGraph.sp {n : Int} {l : List Int} {a : Int} (h : l.length ≤ 9223372036854775807) (ha : a ≤ 1048576) (ha0 : 0 ≤ a) :
    (laws_szGraph.f n l a = some (-1) ∧ a < l.length) ∨ (laws_szGraph.f n l a = some (a - l.length) ∧ (l.length : Int) ≤ a) := by
  unfold laws_szGraph.f
  rcases laws_szInt64S.sp h ha ha0 with ⟨e, c⟩ | ⟨e, c⟩
  · rw [e]; exact .inl ⟨by simp, c⟩
  · rw [e]
    refine .inr ⟨?_, c⟩
    simp only [Option.bind_some]
    rw [if_neg (by omega)]

theorem laws_toInt64S.ev_l (l : List Int) (hl : l.length ≤ 281474976710656) (d : Nat) : ∀ (i : Nat) (acc : List Int), acc.length = l.length → (∀ j, j < i → acc[j]? = l[j]?) → i + d = l.length →
    Ev (fun k => laws_toInt64S.l0 k l acc (i : Int)) l := by
  induction d with
  | zero =>
    intro i acc h1 h2 h3
    refine Ev.step (fun k => laws_toInt64S.l0.eq_2 ..) ?_
    simp only [if_neg (show ¬ ((i : Int) < (l.length : Int)) by omega)]
    refine ev_some (List.ext_getElem? fun j => ?_)
    by_cases hj : j < i
    · exact h2 j hj
    · rw [List.getElem?_eq_none (by omega), List.getElem?_eq_none (by omega)]
  | succ d ih =>
    intro i acc h1 h2 h3
    refine Ev.step (fun k => laws_toInt64S.l0.eq_2 ..) ?_
    simp only [if_pos (show (i : Int) < (l.length : Int) by omega), if_pos (show (0 : Int) ≤ (i : Int) by omega), if_pos (show (i : Int) < (acc.length : Int) by omega)]
    rw [w64 (by omega) (by omega)]
    have := ih (i + 1) (acc.set ((i : Int)).toNat (rd l i)) (by simp [h1]) (fun j hj => by
      rw [Int.toNat_natCast]
      by_cases e : i = j
      · subst e
        rw [List.getElem?_set_self (by omega), rd_get l i (by omega)]
        simp
      · rw [List.getElem?_set_ne e]
        exact h2 j (by omega)) (by omega)
    exact this
theorem laws_toInt64S.ev (l : List Int) (hl : l.length ≤ 35184372088832) : Ev (fun k => laws_toInt64S.f k l) l := by
  unfold laws_toInt64S.f
  simp only [if_pos (show (0 : Int) ≤ (l.length : Int) by omega), if_pos (show ((l.length : Int)).toNat ≤ 35184372088832 by omega)]
  exact laws_toInt64S.ev_l l (by omega) l.length 0 _ (by simp) (fun j hj => by omega) (by omega)

theorem laws_toGraph.ev (n : Int) (l : List Int) (hl : l.length ≤ 35184372088832) : Ev (fun k => laws_toGraph.f k n l) (n, l) := by
  unfold laws_toGraph.f
  exact Ev.bind (laws_toInt64S.ev l hl) (Ev.now _)

theorem laws_eqInt64S.ev_l (l : List Int) (hl : l.length ≤ 281474976710656) (d : Nat) : ∀ (i : Nat), i + d = l.length → Ev (fun k => laws_eqInt64S.l0 k l l (i : Int)) true := by
  induction d with
  | zero =>
    intro i h3
    refine Ev.step (fun k => laws_eqInt64S.l0.eq_2 ..) ?_
    simp only [if_neg (show ¬ ((i : Int) < (l.length : Int)) by omega)]
    exact Ev.now _
  | succ d ih =>
    intro i h3
    refine Ev.step (fun k => laws_eqInt64S.l0.eq_2 ..) ?_
    simp only [if_pos (show (i : Int) < (l.length : Int) by omega), if_pos (show (0 : Int) ≤ (i : Int) by omega), if_true]
    rw [w64 (by omega) (by omega)]
    exact ih (i + 1) (by omega)
theorem laws_eqInt64S.ev (l : List Int) (hl : l.length ≤ 281474976710656) : Ev (fun k => laws_eqInt64S.f k l l) true := by
  unfold laws_eqInt64S.f
  simp only [if_true]
  exact laws_eqInt64S.ev_l l hl l.length 0 (by omega)

theorem laws_eqGraph.ev (n : Int) (l : List Int) (hl : l.length ≤ 281474976710656) : Ev (fun k => laws_eqGraph.f k n l n l) true := by
  unfold laws_eqGraph.f
  simp only [if_true]
  exact Ev.bind (laws_eqInt64S.ev l hl) (Ev.now _)

theorem spec_l01In.sp (a b c : Int) : spec_l01In.f a b c = some (decide (b ≤ a ∧ a ≤ c)) := by
  unfold spec_l01In.f
  by_cases h : b ≤ a <;> simp [h]

theorem spec_l01Has.sp (n : Int) (rows : List Int) (a b : Int) (ha : 0 ≤ a) (ha1 : a < rows.length) (hb : 0 ≤ b) (hb1 : b ≤ 62) : spec_l01Has.f n rows a b = some (dig (rd rows a) b.toNat) := by
  unfold spec_l01Has.f
  rw [u64 hb (by omega), if_pos ha, if_pos ha1, if_pos hb, bit_dig hb (by omega)]

/-! spec.IsGraph -/
theorem spec_l01Is.ev_2 (n : Int) (rows : List Int) (hn1 : n ≤ 62) (hl : (rows.length : Int) = n) (v : Nat) (hv : (v : Int) < n)
    (F : Prop) (hF : Ev (fun q => spec_l01Is.l1 q ((v + 1 : Nat) : Int) n rows) (decide F)) (d : Nat) : ∀ w : Nat, w + d = v →
    Ev (fun q => spec_l01Is.l2 q (v : Int) (w : Int) n rows) (decide ((∀ k : Nat, w ≤ k → k < v → dig (rd rows v) k = dig (rd rows k) v) ∧ F)) := by
  induction d with
  | zero =>
    intro w e
    refine Ev.step (fun k => spec_l01Is.l2.eq_2 ..) ?_
    simp only [if_neg (show ¬ ((w : Int) < (v : Int)) by omega)]
    rw [w64 (by omega) (by omega)]
    refine ev_cast hF ?_
    refine dec_congr ?_
    exact ⟨fun a => ⟨scan_end (by omega), a⟩, fun a => a.2⟩
  | succ d ih =>
    intro w e
    refine Ev.step (fun k => spec_l01Is.l2.eq_2 ..) ?_
    rw [spec_l01Has.sp n rows v w (by omega) (by omega) (by omega) (by omega), spec_l01Has.sp n rows w v (by omega) (by omega) (by omega) (by omega), w64 (n := (w : Int) + 1) (by omega) (by omega)]
    simp only [if_pos (show (w : Int) < (v : Int) by omega), Option.bind_some, Int.toNat_natCast]
    by_cases c : dig (rd rows v) w = dig (rd rows w) v
    · simp only [c, bne_self_eq_false, Bool.false_eq_true, if_false]
      refine ev_cast (ih (w + 1) (by omega)) ?_
      refine dec_congr ?_
      rw [scan_step (P := fun k : Nat => dig (rd rows v) k = dig (rd rows k) v) c]
    · simp only [bne_iff_ne, ne_eq, c, not_false_eq_true, if_true]
      rw [decide_eq_false (fun a => c (a.1 w (Nat.le_refl _) (by omega)))]
      exact Ev.now _
theorem spec_l01Is.ev_1 (n : Int) (rows : List Int) (hn1 : n ≤ 62) (hl : (rows.length : Int) = n) (d : Nat) : ∀ v : Nat, v + d = rows.length →
    Ev (fun q => spec_l01Is.l1 q (v : Int) n rows) (decide (∀ k : Nat, v ≤ k → k < rows.length → ∀ w : Nat, 0 ≤ w → w < k → dig (rd rows k) w = dig (rd rows w) k)) := by
  induction d with
  | zero =>
    intro v e
    refine Ev.step (fun k => spec_l01Is.l1.eq_2 ..) ?_
    simp only [if_neg (show ¬ ((v : Int) < n) by omega)]
    rw [decide_eq_true (scan_end (by omega))]
    exact Ev.now _
  | succ d ih =>
    intro v e
    refine Ev.step (fun k => spec_l01Is.l1.eq_2 ..) ?_
    simp only [if_pos (show (v : Int) < n by omega)]
    refine ev_cast (spec_l01Is.ev_2 n rows hn1 hl v (by omega) _ (ih (v + 1) (by omega)) v 0 (by omega)) ?_
    refine dec_congr ?_
    constructor
    · rintro ⟨a1, a2⟩
      exact (scan_step (P := fun k : Nat => ∀ w : Nat, 0 ≤ w → w < k → dig (rd rows k) w = dig (rd rows w) k) (i := v) a1).2 a2
    · intro a
      exact ⟨a v (Nat.le_refl _) (by omega), fun k hk hk1 => a k (by omega) hk1⟩
theorem spec_l01Is.ev_0 (n : Int) (rows : List Int) (hn : 1 ≤ n) (hn1 : n ≤ 62) (hl : (rows.length : Int) = n) (d : Nat) : ∀ v : Nat, v + d = rows.length →
    Ev (fun q => spec_l01Is.l0 q (v : Int) n rows) (decide ((∀ k : Nat, v ≤ k → k < rows.length → 0 ≤ rd rows k ∧ rd rows k < ((2 ^ n.toNat : Nat) : Int) ∧ dig (rd rows k) k = false) ∧
      ∀ k : Nat, 0 ≤ k → k < rows.length → ∀ w : Nat, 0 ≤ w → w < k → dig (rd rows k) w = dig (rd rows w) k)) := by
  have hp : 1 ≤ 2 ^ n.toNat := Nat.one_le_two_pow
  have hq := pow62 (n := n.toNat) (by omega)
  induction d with
  | zero =>
    intro v e
    refine Ev.step (fun k => spec_l01Is.l0.eq_2 ..) ?_
    simp only [if_neg (show ¬ ((v : Int) < n) by omega)]
    refine ev_cast (spec_l01Is.ev_1 n rows hn1 hl rows.length 0 (by omega)) ?_
    refine dec_congr ?_
    exact ⟨fun a => ⟨scan_end (by omega), a⟩, fun a => a.2⟩
  | succ d ih =>
    intro v e
    refine Ev.step (fun k => spec_l01Is.l0.eq_2 ..) ?_
    rw [u64 (by omega) (by omega), shl_one (by omega) hn1, w64 (by omega) (by omega), w64 (n := (v : Int) + 1) (by omega) (by omega), spec_l01Has.sp n rows v v (by omega) (by omega) (by omega) (by omega), Int.toNat_natCast]
    simp only [if_pos (show (v : Int) < n by omega), if_pos (show (0 : Int) ≤ (v : Int) by omega), if_pos (show (v : Int) < (rows.length : Int) by omega), if_pos (show 0 ≤ n by omega), spec_l01In.sp, Option.bind_some, decide_eq_true_eq]
    by_cases c1 : 0 ≤ rd rows v ∧ rd rows v ≤ ((2 ^ n.toNat : Nat) : Int) - 1
    · simp only [if_pos c1]
      by_cases c2 : dig (rd rows v) v = true
      · simp only [if_pos c2]
        rw [decide_eq_false (fun a => by have := (a.1 v (Nat.le_refl _) (by omega)).2.2; rw [c2] at this; cases this)]
        exact Ev.now _
      · simp only [if_neg c2]
        refine ev_cast (ih (v + 1) (by omega)) ?_
        refine dec_congr ?_
        rw [scan_step (P := fun k : Nat => 0 ≤ rd rows k ∧ rd rows k < ((2 ^ n.toNat : Nat) : Int) ∧ dig (rd rows k) k = false) (i := v) ⟨c1.1, by omega, by simpa using c2⟩]
    · simp only [if_neg c1]
      rw [decide_eq_false (fun a => by have := a.1 v (Nat.le_refl _) (by omega); omega)]
      exact Ev.now _
theorem isG_iff' (n : Int) (rows : List Int) (hn : 1 ≤ n) (hn1 : n ≤ 62) (hl : (rows.length : Int) = n) :
    ((∀ k : Nat, 0 ≤ k → k < rows.length → 0 ≤ rd rows k ∧ rd rows k < ((2 ^ n.toNat : Nat) : Int) ∧ dig (rd rows k) k = false) ∧
      ∀ k : Nat, 0 ≤ k → k < rows.length → ∀ w : Nat, 0 ≤ w → w < k → dig (rd rows k) w = dig (rd rows w) k) ↔ IsG n rows := by
  constructor
  · rintro ⟨a, b⟩
    refine ⟨hn, hn1, hl, fun v hv => a v (by omega) (by omega), fun v w hv hw => ?_⟩
    rcases Nat.lt_trichotomy v w with h | h | h
    · exact (b w (by omega) (by omega) v (by omega) h).symm
    · rw [h]
    · exact b v (by omega) (by omega) w (by omega) h
  · intro a
    exact ⟨fun k _ hk => a.2.2.2.1 k (by omega), fun k _ hk w _ hw => a.2.2.2.2 k w (by omega) (by omega)⟩
theorem spec_l01Is.ev (n : Int) (rows : List Int) : Ev (fun q => spec_l01Is.f q n rows) (decide (IsG n rows)) := by
  unfold spec_l01Is.f
  simp only [spec_l01In.sp, Option.bind_some, decide_eq_true_eq]
  by_cases h1 : 1 ≤ n ∧ n ≤ 62
  · simp only [if_pos h1]
    refine Ev.step (fun k => spec_l01Is.j0.eq_2 ..) ?_
    by_cases h3 : (rows.length : Int) = n
    · simp only [h3, bne_self_eq_false, Bool.false_eq_true, if_false]
      refine ev_cast (spec_l01Is.ev_0 n rows h1.1 h1.2 h3 rows.length 0 (by omega)) ?_
      refine dec_congr ?_
      exact isG_iff' n rows h1.1 h1.2 h3
    · simp only [bne_iff_ne, ne_eq, h3, not_false_eq_true, if_true]
      rw [decide_eq_false (fun a => h3 a.2.2.1)]
      exact Ev.now _
  · simp only [if_neg h1]
    refine Ev.step (fun k => spec_l01Is.j0.eq_2 ..) ?_
    simp only [if_true]
    rw [decide_eq_false (fun a => h1 ⟨a.1, a.2.1⟩)]
    exact Ev.now _

/-! ### the set bits of a number, in order -/
theorem bits_TrailingZeros64.sp {x : Nat} (h : x < 2 ^ 63) : bits_TrailingZeros64.f (IntKind.u64.wrap (x : Int)) = some ((Lib.ctz 64 x : Nat) : Int) := by
  unfold bits_TrailingZeros64.f
  rw [u64 (by omega) (by omega), if_pos (by omega), if_pos (by omega), Int.toNat_natCast]
def bitsFrom : Nat → Nat → Int → List Int
  | 0, _, _ => []
  | d + 1, i, r => if dig r i = true then (i : Int) :: bitsFrom d (i + 1) r else bitsFrom d (i + 1) r
theorem bitsFrom_length (r : Int) (d : Nat) : ∀ i, (bitsFrom d i r).length ≤ d := by
  induction d with
  | zero => intro i; simp [bitsFrom]
  | succ d ih =>
    intro i
    have := ih (i + 1)
    simp only [bitsFrom]
    split
    · simp only [List.length_cons]; omega
    · omega
theorem mem_bitsFrom {r : Int} {d : Nat} : ∀ {i : Nat} {x : Int}, x ∈ bitsFrom d i r ↔ ∃ j : Nat, x = (j : Int) ∧ i ≤ j ∧ j < i + d ∧ dig r j = true := by
  induction d with
  | zero =>
    intro i x
    simp only [bitsFrom, List.not_mem_nil, false_iff]
    rintro ⟨j, _, a, b, _⟩; omega
  | succ d ih =>
    intro i x
    simp only [bitsFrom]
    split
    · rename_i c
      rw [List.mem_cons, ih]
      constructor
      · rintro (rfl | ⟨j, a, b, e, g⟩)
        · exact ⟨i, rfl, by omega, by omega, c⟩
        · exact ⟨j, a, by omega, by omega, g⟩
      · rintro ⟨j, a, b, e, g⟩
        by_cases h : j = i
        · exact .inl (by rw [a, h])
        · exact .inr ⟨j, a, by omega, by omega, g⟩
    · rename_i c
      rw [ih]
      constructor
      · rintro ⟨j, a, b, e, g⟩; exact ⟨j, a, by omega, by omega, g⟩
      · rintro ⟨j, a, b, e, g⟩
        refine ⟨j, a, ?_, by omega, g⟩
        rcases Nat.lt_or_ge i j with h | h
        · omega
        · exact absurd (show dig r i = true by rw [show i = j by omega]; exact g) c
theorem bitsFrom_congr {r s : Int} {d : Nat} : ∀ {i : Nat}, (∀ j, i ≤ j → j < i + d → dig r j = dig s j) → bitsFrom d i r = bitsFrom d i s := by
  induction d with
  | zero => intro i _; rfl
  | succ d ih =>
    intro i h
    simp only [bitsFrom]
    rw [h i (by omega) (by omega), ih (i := i + 1) fun j a b => h j (by omega) (by omega)]
/-- The lowest bit struck. -/
theorem low_bit {x i : Nat} (h1 : x.testBit i = true) (h0 : ∀ j, j < i → x.testBit j = false) (hx : x < 2 ^ 63) : Lib.ctz 64 x = i ∧ ∀ j, (x &&& (x - 1)).testBit j = (x.testBit j && decide (j ≠ i)) := by
  have x0 : x ≠ 0 := fun a => by rw [a] at h1; simp at h1
  obtain ⟨m, hm, hk⟩ := Lib.ctzFrom_spec 64 x (by omega) (by omega)
  have e : Lib.ctz 64 x = Lib.ctzFrom 64 x := by unfold Lib.ctz; rw [if_neg x0]
  generalize Lib.ctzFrom 64 x = k at hm hk e
  have hp := Nat.two_pow_pos k
  have ex : x = 2 ^ (k + 1) * m + 2 ^ k := by rw [hm, Nat.pow_succ, Nat.mul_add, Nat.mul_one, Nat.mul_assoc]
  have hlt : 2 ^ k < 2 ^ (k + 1) := Nat.pow_lt_pow_right (by decide) (by omega)
  have ex1 : x - 1 = 2 ^ (k + 1) * m + (2 ^ k - 1) := by rw [ex]; omega
  have b : ∀ j, x.testBit j = if j < k + 1 then decide (k = j) else m.testBit (j - (k + 1)) := fun j => by
    rw [ex, Nat.testBit_two_pow_mul_add _ hlt, Nat.testBit_two_pow]
  have b1 : ∀ j, (x - 1).testBit j = if j < k + 1 then decide (j < k) else m.testBit (j - (k + 1)) := fun j => by
    rw [ex1, Nat.testBit_two_pow_mul_add _ (by omega), Nat.testBit_two_pow_sub_one]
  have ik : k = i := by
    rcases Nat.lt_trichotomy k i with h | h | h
    · have := h0 k h
      rw [b k, if_pos (by omega)] at this
      simp at this
    · exact h
    · have := h1
      rw [b i, if_pos (by omega)] at this
      simp at this
      omega
  subst ik
  refine ⟨e, fun j => ?_⟩
  rw [Nat.testBit_and, b j, b1 j]
  by_cases c : j < k + 1
  · rw [if_pos c, if_pos c]
    by_cases d : k = j
    · subst d; simp
    · simp [d]
  · rw [if_neg c, if_neg c]
    have : j ≠ k := by omega
    simp [this]

theorem spec_l01Neighbours.ev_l (n : Int) (rows : List Int) (v : Int) (h0 : 0 ≤ v) (h1 : v < rows.length) (hn : n ≤ 62) (d : Nat) : ∀ (i : Nat) (acc : List Int), (i : Int) + d = n → acc.length ≤ i →
    Ev (fun q => spec_l01Neighbours.l0 q v acc (i : Int) n rows) (acc ++ bitsFrom d i (rd rows v)) := by
  induction d with
  | zero =>
    intro i acc e ha
    refine Ev.step (fun k => spec_l01Neighbours.l0.eq_2 ..) ?_
    simp only [if_neg (show ¬ ((i : Int) < n) by omega), bitsFrom, List.append_nil]
    exact Ev.now _
  | succ d ih =>
    intro i acc e ha
    refine Ev.step (fun k => spec_l01Neighbours.l0.eq_2 ..) ?_
    simp only [if_pos (show (i : Int) < n by omega), spec_l01Has.sp n rows v (i : Int) h0 h1 (by omega) (by omega), Option.bind_some, Int.toNat_natCast]
    rw [w64 (by omega) (by omega)]
    by_cases c : dig (rd rows v) i = true
    · simp only [if_pos c, if_pos (show acc.length < 17592186044416 by omega), bitsFrom]
      refine ev_cast (ih (i + 1) (acc ++ [(i : Int)]) (by omega) (by rw [List.length_append]; simp only [List.length_cons, List.length_nil]; omega)) ?_
      rw [List.append_assoc, List.singleton_append]
    · simp only [if_neg c, bitsFrom]
      exact ih (i + 1) acc (by omega) (by omega)
theorem spec_l01Neighbours.ev (n : Int) (rows : List Int) (v : Int) (h0 : 0 ≤ v) (h1 : v < rows.length) (hn0 : 0 ≤ n) (hn : n ≤ 62) : Ev (fun q => spec_l01Neighbours.f q n rows v) (bitsFrom n.toNat 0 (rd rows v)) := by
  unfold spec_l01Neighbours.f
  exact spec_l01Neighbours.ev_l n rows v h0 h1 hn n.toNat 0 [] (by omega) (by simp)

/-! ### ways in a graph -/
inductive Way (rows : List Int) (n : Nat) (u : Nat) : Nat → Prop
  | refl : Way rows n u u
  | step {v w : Nat} : Way rows n u v → v < n → w < n → Adj rows v w → Way rows n u w
theorem Way.lt {rows : List Int} {n u w : Nat} (h : Way rows n u w) (hu : u < n) : w < n := by
  cases h with
  | refl => exact hu
  | step _ _ b _ => exact b
theorem Way.trans {rows : List Int} {n u v w : Nat} (h : Way rows n u v) (k : Way rows n v w) : Way rows n u w := by
  induction k with
  | refl => exact h
  | step _ a b c ih => exact .step ih a b c
theorem Way.symm {rows : List Int} {n : Int} (g : IsG n rows) {u v : Nat} (h : Way rows n.toNat u v) : Way rows n.toNat v u := by
  induction h with
  | refl => exact .refl
  | step _ a b c ih => exact (Way.step .refl b a ((g.symm a b).1 c)).trans ih
theorem IsG_row {n : Int} {rows : List Int} (h : IsG n rows) {v : Int} (h0 : 0 ≤ v) (h1 : v < n) : ∃ x : Nat, rd rows v = (x : Int) ∧ x < 2 ^ n.toNat := by
  obtain ⟨u, rfl⟩ := Int.eq_ofNat_of_zero_le h0
  obtain ⟨a, b, _⟩ := h.2.2.2.1 u h1
  obtain ⟨x, hx⟩ := Int.eq_ofNat_of_zero_le a
  exact ⟨x, hx, by rw [hx] at b; exact_mod_cast b⟩
/-- A set that holds v, is closed, and holds none but what v reaches, is what v reaches. -/
theorem closed_way {rows : List Int} {n v : Nat} {P : Nat → Prop} (h0 : P v) (h1 : ∀ x y, x < n → y < n → P x → Adj rows x y → P y) : ∀ w, Way rows n v w → P w := by
  intro w h
  induction h with
  | refl => exact h0
  | step _ a b c ih => exact h1 _ _ a b ih c

/-- The leaders of the parts that hold a vertex before v; -1 elsewhere. -/
def Leads (rows : List Int) (n v : Nat) (L : List Int) : Prop := L.length = n ∧ ∀ w, w < n → (rd L (w : Int) = -1 ∧ ∀ u, u < v → ¬ Way rows n u w) ∨ ∃ u, u < v ∧ rd L (w : Int) = (u : Int) ∧ Way rows n u w ∧ ∀ x, x < u → ¬ Way rows n x w
/-- Within the search from v, over the leaders L0: the queue Q. -/
structure Srch (rows : List Int) (n v : Nat) (L0 L Q : List Int) : Prop where
  len : L.length = n
  elem : ∀ x ∈ Q, ∃ u : Nat, x = (u : Int) ∧ u < n ∧ Way rows n v u
  inq : ∀ w, w < n → (w : Int) ∈ Q → rd L (w : Int) = (v : Int)
  out : ∀ w, w < n → (w : Int) ∉ Q → rd L (w : Int) = rd L0 (w : Int)
  first : (v : Int) ∈ Q
  size : Q.length + L.countP (fun x => decide (x < 0)) ≤ n
def Clsd (rows : List Int) (n : Nat) (Q : List Int) (i : Nat) : Prop := ∀ k, k < i → ∀ u : Nat, rd Q (k : Int) = (u : Int) → ∀ y, y < n → Adj rows u y → (y : Int) ∈ Q
theorem rd_append {l m : List Int} {k : Nat} (h : k < l.length) : rd (l ++ m) (k : Int) = rd l (k : Int) := by
  rw [rd_nat, rd_nat, List.getD_eq_getElem?_getD, List.getD_eq_getElem?_getD, List.getElem?_append_left h]
section
variable {n : Int} {rows : List Int} (g : IsG n rows) {v : Nat} (hv : v < n.toNat) {L0 : List Int} (hL0 : Leads rows n.toNat v L0) (hv0 : ∀ u, u < v → ¬ Way rows n.toNat u v)
include g hv hL0 hv0
theorem fresh {w : Nat} (hw : w < n.toNat) (hW : Way rows n.toNat v w) : rd L0 (w : Int) = -1 := by
  rcases hL0.2 w hw with a | ⟨u, a, _, b, _⟩
  · exact a.1
  · exact absurd (b.trans (hW.symm g)) (hv0 u a)
theorem spec_l01Leaders.ev_3 {a : Nat} (ha : a < n.toNat) (hWa : Way rows n.toNat v a) {i : Nat} (R : List Int)
    (next : ∀ L Q, Srch rows n.toNat v L0 L Q → i + 1 ≤ Q.length → Clsd rows n.toNat Q (i + 1) → Ev (fun q => spec_l01Leaders.l2 q L (v : Int) Q ((i : Int) + 1) n rows) R) (d : Nat) :
    ∀ (j : Nat) (L Q : List Int), j + d = (bitsFrom n.toNat 0 (rd rows (a : Int))).length → Srch rows n.toNat v L0 L Q → i < Q.length → rd Q (i : Int) = (a : Int) → Clsd rows n.toNat Q i →
      (∀ k : Nat, k < j → rd (bitsFrom n.toNat 0 (rd rows (a : Int))) (k : Int) ∈ Q) →
      Ev (fun q => spec_l01Leaders.l3 q L (v : Int) Q (i : Int) (bitsFrom n.toNat 0 (rd rows (a : Int))) (j : Int) n rows) R := by
  have hn := g.le
  have hlen := bitsFrom_length (rd rows (a : Int)) n.toNat 0
  induction d with
  | zero =>
    intro j L Q e hS hi hQi hC hj
    refine Ev.step (fun k => spec_l01Leaders.l3.eq_2 ..) ?_
    have hq := hS.size
    simp only [if_neg (show ¬ ((j : Int) < ((bitsFrom n.toNat 0 (rd rows (a : Int))).length : Int)) by omega)]
    rw [w64 (by omega) (by omega)]
    refine next L Q hS (by omega) fun k hk u hu y hy hA => ?_
    rcases Nat.lt_succ_iff_lt_or_eq.1 hk with x | rfl
    · exact hC k x u hu y hy hA
    · have ua : u = a := by omega
      subst ua
      have : (y : Int) ∈ bitsFrom n.toNat 0 (rd rows (u : Int)) := mem_bitsFrom.2 ⟨y, rfl, by omega, by omega, hA⟩
      obtain ⟨k, hk, hr⟩ := mem_rd.1 this
      rw [← hr]
      exact hj k (by omega)
  | succ d ih =>
    intro j L Q e hS hi hQi hC hj
    refine Ev.step (fun k => spec_l01Leaders.l3.eq_2 ..) ?_
    have hq := hS.size
    obtain ⟨y, hy, _, hyn, hyA⟩ := mem_bitsFrom.1 (rd_mem (l := bitsFrom n.toNat 0 (rd rows (a : Int))) (i := (j : Int)) (by omega) (by omega))
    have hyn' : y < n.toNat := by omega
    have hWy : Way rows n.toNat v y := .step hWa ha hyn' hyA
    have hLl := hS.len
    rw [hy, w64 (by omega) (by omega)]
    simp only [if_pos (show (j : Int) < ((bitsFrom n.toNat 0 (rd rows (a : Int))).length : Int) by omega), if_pos (show (0 : Int) ≤ (j : Int) by omega), if_pos (show (0 : Int) ≤ (y : Int) by omega), if_pos (show (y : Int) < (L.length : Int) by omega)]
    by_cases c : (y : Int) ∈ Q
    · have := hS.inq y hyn' c
      simp only [if_neg (show ¬ (rd L (y : Int) < 0) by omega)]
      refine ih (j + 1) L Q (by omega) hS hi hQi hC fun k hk => ?_
      rcases Nat.lt_succ_iff_lt_or_eq.1 hk with x | rfl
      · exact hj k x
      · rw [hy]; exact c
    · have f := hS.out y hyn' c
      rw [fresh g hv hL0 hv0 hyn' hWy] at f
      simp only [if_pos (show rd L (y : Int) < 0 by omega), if_pos (show Q.length < 17592186044416 by omega), Int.toNat_natCast]
      have hyl : y < L.length := by omega
      refine ih (j + 1) (L.set y (v : Int)) (Q ++ [(y : Int)]) (by omega) ⟨by rw [List.length_set]; exact hLl, fun x hx => ?_, fun w hw hm => ?_, fun w hw hm => ?_, List.mem_append_left _ hS.first, ?_⟩ (by rw [List.length_append]; omega) (by rw [rd_append hi]; exact hQi) (fun k hk u hu z hz hA => ?_) fun k hk => ?_
      · rcases List.mem_append.1 hx with x1 | x1
        · exact hS.elem x x1
        · exact ⟨y, by simpa using x1, hyn', hWy⟩
      · by_cases wy : w = y
        · subst wy; exact rd_set_self _ _ hyl _
        · rw [rd_set_ne _ _ _ (fun a => wy a.symm)]
          rcases List.mem_append.1 hm with x1 | x1
          · exact hS.inq w hw x1
          · exact absurd (by simpa using x1 : (w : Int) = y) (by omega)
      · have wy : w ≠ y := fun a => hm (by rw [a]; simp)
        rw [rd_set_ne _ _ _ (fun a => wy a.symm)]
        exact hS.out w hw fun a => hm (List.mem_append_left _ a)
      · rw [List.countP_set hyl, List.length_append]
        have ly : L[y] = -1 := by rw [← rd_get L y hyl]; exact f
        have cp : 1 ≤ L.countP (fun x => decide (x < 0)) := List.countP_pos_iff.2 ⟨L[y], List.getElem_mem hyl, by rw [ly]; rfl⟩
        rw [ly]
        simp only [List.length_cons, List.length_nil]
        rw [if_pos (by decide), if_neg (by simp)]
        omega
      · rw [rd_append (by omega)] at hu
        exact List.mem_append_left _ (hC k hk u hu z hz hA)
      · rcases Nat.lt_succ_iff_lt_or_eq.1 hk with x | rfl
        · exact List.mem_append_left _ (hj k x)
        · rw [hy]; simp
theorem spec_l01Leaders.ev_2 (R : List Int) (next : ∀ L, Leads rows n.toNat (v + 1) L → Ev (fun q => spec_l01Leaders.l1 q L ((v : Int) + 1) n rows) R) (d : Nat) :
    ∀ (i : Nat) (L Q : List Int), n.toNat ≤ i + d → Srch rows n.toNat v L0 L Q → i ≤ Q.length → Clsd rows n.toNat Q i → Ev (fun q => spec_l01Leaders.l2 q L (v : Int) Q (i : Int) n rows) R := by
  have hn := g.le
  have done : ∀ (L Q : List Int), Srch rows n.toNat v L0 L Q → Clsd rows n.toNat Q Q.length → Ev (fun q => spec_l01Leaders.l2 q L (v : Int) Q (Q.length : Int) n rows) R := by
    intro L Q hS hC
    refine Ev.step (fun k => spec_l01Leaders.l2.eq_2 ..) ?_
    simp only [if_neg (show ¬ ((Q.length : Int) < (Q.length : Int)) by omega)]
    rw [w64 (by omega) (by omega)]
    have inQ : ∀ w, Way rows n.toNat v w → (w : Int) ∈ Q := closed_way (P := fun w => (w : Int) ∈ Q) hS.first fun x y hx hy a b => by
      obtain ⟨k, hk, hr⟩ := mem_rd.1 a
      exact hC k hk x hr y hy b
    refine next L ⟨hS.len, fun w hw => ?_⟩
    by_cases c : (w : Int) ∈ Q
    · obtain ⟨u, hu, _, hW⟩ := hS.elem _ c
      have : u = w := by omega
      subst this
      exact .inr ⟨v, by omega, hS.inq u hw c, hW, fun x hx a => hv0 x hx (a.trans (hW.symm g))⟩
    · rw [hS.out w hw c]
      rcases hL0.2 w hw with ⟨a, b⟩ | ⟨u, a, b⟩
      · refine .inl ⟨a, fun u hu => ?_⟩
        rcases Nat.lt_succ_iff_lt_or_eq.1 hu with x | rfl
        · exact b u x
        · exact fun x => c (inQ w x)
      · exact .inr ⟨u, by omega, b⟩
  induction d with
  | zero =>
    intro i L Q e hS hi hC
    have := hS.size
    have : i = Q.length := by omega
    subst this
    exact done L Q hS hC
  | succ d ih =>
    intro i L Q e hS hi hC
    by_cases c : i = Q.length
    · subst c; exact done L Q hS hC
    · have hsz := hS.size
      have hrl := g.len
      refine Ev.step (fun k => spec_l01Leaders.l2.eq_2 ..) ?_
      simp only [if_pos (show (i : Int) < (Q.length : Int) by omega), if_pos (show (0 : Int) ≤ (i : Int) by omega)]
      obtain ⟨a, ha, han, hWa⟩ := hS.elem _ (rd_mem (l := Q) (i := (i : Int)) (by omega) (by omega))
      rw [ha]
      refine Ev.bind (spec_l01Neighbours.ev n rows (a : Int) (by omega) (by omega) (by have := g.1; omega) g.2.1) ?_
      refine spec_l01Leaders.ev_3 g hv hL0 hv0 han hWa R (fun L' Q' hS' hi' hC' => ?_) (bitsFrom n.toNat 0 (rd rows (a : Int))).length 0 L Q (by omega) hS (by omega) ha hC (fun k hk => by omega)
      exact ih (i + 1) L' Q' (by omega) hS' hi' hC'
end
/-- The least number of P from i on, at most i + d. -/
noncomputable def leastF (P : Nat → Prop) : Nat → Nat → Nat
  | 0, i => i
  | d + 1, i => if P i then i else leastF P d (i + 1)
theorem leastF_at {P : Nat → Prop} (d : Nat) : ∀ i, (∃ x, i ≤ x ∧ x < i + d ∧ P x) → P (leastF P d i) ∧ i ≤ leastF P d i ∧ leastF P d i < i + d ∧ ∀ x, i ≤ x → x < leastF P d i → ¬ P x := by
  induction d with
  | zero => rintro i ⟨x, a, b, _⟩; omega
  | succ d ih =>
    rintro i ⟨x, a, b, c⟩
    simp only [leastF]
    by_cases h : P i
    · rw [if_pos h]; exact ⟨h, by omega, by omega, fun x a b => by omega⟩
    · rw [if_neg h]
      have : x ≠ i := fun e => h (e ▸ c)
      obtain ⟨h1, h2, h3, h4⟩ := ih (i + 1) ⟨x, by omega, by omega, c⟩
      refine ⟨h1, by omega, by omega, fun y a b => ?_⟩
      by_cases e : y = i
      · subst e; exact h
      · exact h4 y (by omega) b
noncomputable def leadL (rows : List Int) (n : Nat) : List Int := (List.range n).map fun w => ((leastF (fun u => Way rows n u w) n 0 : Nat) : Int)
theorem leadL_leads (rows : List Int) (n : Nat) : Leads rows n n (leadL rows n) := by
  refine ⟨by simp [leadL], fun w hw => .inr ?_⟩
  obtain ⟨h1, h2, h3, h4⟩ := leastF_at (P := fun u => Way rows n u w) n 0 ⟨w, by omega, by omega, .refl⟩
  refine ⟨_, by omega, ?_, h1, fun x hx => h4 x (by omega) hx⟩
  rw [rd_nat]
  simp [leadL, hw]
theorem leads_uniq {rows : List Int} {n : Nat} {A B : List Int} (hA : Leads rows n n A) (hB : Leads rows n n B) : A = B := by
  refine list_ext_rd (by rw [hA.1, hB.1]) fun w hw => ?_
  have hw' : w < n := by rw [← hA.1]; exact hw
  rcases hA.2 w hw' with ⟨_, a2⟩ | ⟨u, a1, a2, a3, a4⟩
  · exact absurd .refl (a2 w hw')
  · rcases hB.2 w hw' with ⟨_, b2⟩ | ⟨x, b1, b2, b3, b4⟩
    · exact absurd .refl (b2 w hw')
    · have : u = x := by
        rcases Nat.lt_trichotomy u x with h | h | h
        · exact absurd a3 (b4 u h)
        · exact h
        · exact absurd b3 (a4 x h)
      rw [a2, b2, this]
theorem spec_l01Leaders.ev_1 {n : Int} {rows : List Int} (g : IsG n rows) (d : Nat) : ∀ (v : Nat) (L : List Int), v + d = n.toNat → Leads rows n.toNat v L → Ev (fun q => spec_l01Leaders.l1 q L (v : Int) n rows) (leadL rows n.toNat) := by
  have hn := g.le
  have h1 := g.1
  induction d with
  | zero =>
    intro v L e hL
    have : v = n.toNat := by omega
    subst this
    refine Ev.step (fun k => spec_l01Leaders.l1.eq_2 ..) ?_
    simp only [if_neg (show ¬ ((n.toNat : Int) < n) by omega)]
    exact ev_some (leads_uniq hL (leadL_leads rows n.toNat))
  | succ d ih =>
    intro v L e hL
    have hLl := hL.1
    have hv : v < n.toNat := by omega
    refine Ev.step (fun k => spec_l01Leaders.l1.eq_2 ..) ?_
    simp only [if_pos (show (v : Int) < n by omega), if_pos (show (0 : Int) ≤ (v : Int) by omega), if_pos (show (v : Int) < (L.length : Int) by omega), Int.toNat_natCast]
    rw [w64 (by omega) (by omega)]
    rcases hL.2 v hv with ⟨a, b⟩ | ⟨u, a, b, c, _⟩
    · simp only [if_neg (show ¬ (rd L (v : Int) ≥ 0) by omega)]
      have hvl : v < L.length := by omega
      refine spec_l01Leaders.ev_2 g hv hL b _ (fun L' h' => ih (v + 1) L' (by omega) h') n.toNat 0 (L.set v (v : Int)) [(v : Int)] (by omega) ⟨by rw [List.length_set]; exact hLl, fun x hx => ⟨v, by simpa using hx, hv, .refl⟩, fun w hw hm => ?_, fun w hw hm => ?_, by simp, ?_⟩ (by simp) (fun k hk => by omega)
      · have : (w : Int) = v := by simpa using hm
        have : w = v := by omega
        subst this; exact rd_set_self _ _ hvl _
      · rw [rd_set_ne _ _ _ (fun a => hm (by rw [a]; simp))]
      · rw [List.countP_set hvl]
        have ly : L[v] = -1 := by rw [← rd_get L v hvl]; exact a
        have cp : 1 ≤ L.countP (fun x => decide (x < 0)) := List.countP_pos_iff.2 ⟨L[v], List.getElem_mem hvl, by rw [ly]; rfl⟩
        have cl := List.countP_le_length (p := fun x : Int => decide (x < 0)) (l := L)
        rw [ly, if_pos (by decide), if_neg (by simp)]
        simp only [List.length_cons, List.length_nil]
        omega
    · simp only [if_pos (show rd L (v : Int) ≥ 0 by omega)]
      refine ih (v + 1) L (by omega) ⟨hLl, fun w hw => ?_⟩
      rcases hL.2 w hw with ⟨x, y⟩ | ⟨x, y, z⟩
      · refine .inl ⟨x, fun t ht => ?_⟩
        rcases Nat.lt_succ_iff_lt_or_eq.1 ht with s | rfl
        · exact y t s
        · exact fun s => y u a (c.trans s)
      · exact .inr ⟨x, by omega, z⟩
theorem spec_l01Leaders.ev_0 {n : Int} {rows : List Int} (g : IsG n rows) (d : Nat) : ∀ (v : Nat), v + d = n.toNat → Ev (fun q => spec_l01Leaders.l0 q (List.replicate v (-1)) (v : Int) n rows) (leadL rows n.toNat) := by
  have hn := g.le
  have h1 := g.1
  induction d with
  | zero =>
    intro v e
    have : v = n.toNat := by omega
    subst this
    refine Ev.step (fun k => spec_l01Leaders.l0.eq_2 ..) ?_
    simp only [if_neg (show ¬ ((n.toNat : Int) < n) by omega)]
    refine spec_l01Leaders.ev_1 g n.toNat 0 _ (by omega) ⟨List.length_replicate .., fun w hw => .inl ⟨?_, fun u hu => by omega⟩⟩
    rw [rd_nat]; simp [hw]
  | succ d ih =>
    intro v e
    refine Ev.step (fun k => spec_l01Leaders.l0.eq_2 ..) ?_
    simp only [if_pos (show (v : Int) < n by omega), List.length_replicate, if_pos (show v < 17592186044416 by omega)]
    rw [w64 (by omega) (by omega), ← List.replicate_succ']
    exact ih (v + 1) (by omega)
theorem spec_l01Leaders.ev {n : Int} {rows : List Int} (g : IsG n rows) : Ev (fun q => spec_l01Leaders.f q n rows) (leadL rows n.toNat) := by
  unfold spec_l01Leaders.f
  exact spec_l01Leaders.ev_0 g n.toNat 0 (by omega)

/-! ### walks by their lengths -/
def Wk (E : Nat → Nat → Prop) (n v : Nat) : Nat → Nat → Prop
  | 0, w => w = v
  | d + 1, w => w < n ∧ ∃ u, u < n ∧ Wk E n v d u ∧ E u w
theorem Wk.lt {E : Nat → Nat → Prop} {n v d w : Nat} (hv : v < n) (h : Wk E n v d w) : w < n := by
  cases d with
  | zero => rw [Wk] at h; rw [h]; exact hv
  | succ d => exact h.1
/-- w lies d steps from v, not fewer. -/
def AtD (E : Nat → Nat → Prop) (n v d w : Nat) : Prop := Wk E n v d w ∧ ∀ e, e < d → ¬ Wk E n v e w
theorem least_of {P : Nat → Prop} (d : Nat) (h : P d) : ∃ e, e ≤ d ∧ P e ∧ ∀ x, x < e → ¬ P x := by
  induction d using Nat.strongRecOn with
  | _ d ih =>
    by_cases c : ∃ e, e < d ∧ P e
    · obtain ⟨e, a, b⟩ := c
      obtain ⟨x, p, q, r⟩ := ih e a b
      exact ⟨x, by omega, q, r⟩
    · exact ⟨d, Nat.le_refl _, h, fun x hx p => c ⟨x, hx, p⟩⟩
theorem AtD.pred {E : Nat → Nat → Prop} {n v d w : Nat} (h : AtD E n v (d + 1) w) : w < n ∧ ∃ u, u < n ∧ AtD E n v d u ∧ E u w := by
  obtain ⟨⟨a, u, b, c, e⟩, f⟩ := h
  exact ⟨a, u, b, ⟨c, fun x hx p => f (x + 1) (by omega) ⟨a, u, b, p, e⟩⟩, e⟩
theorem AtD.down {E : Nat → Nat → Prop} {n v d : Nat} (k : Nat) : ∀ {w : Nat}, AtD E n v (d + k) w → ∃ u, AtD E n v d u := by
  induction k with
  | zero => intro w h; exact ⟨w, h⟩
  | succ k ih => intro w h; obtain ⟨_, u, _, b, _⟩ := AtD.pred (d := d + k) h; exact ih b
/-- x is the distance of w from v, -1 if there is no way. -/
def DistIs (E : Nat → Nat → Prop) (n v w : Nat) (x : Int) : Prop := (x = -1 ∧ ∀ d, ¬ Wk E n v d w) ∨ ∃ d : Nat, x = (d : Int) ∧ AtD E n v d w
theorem DistIs.uniq {E : Nat → Nat → Prop} {n v w : Nat} {x y : Int} (h : DistIs E n v w x) (k : DistIs E n v w y) : x = y := by
  rcases h with ⟨a, b⟩ | ⟨d, a, b⟩
  · rcases k with ⟨c, _⟩ | ⟨e, _, f⟩
    · rw [a, c]
    · exact absurd f.1 (b e)
  · rcases k with ⟨_, c⟩ | ⟨e, c, f⟩
    · exact absurd b.1 (c d)
    · rcases Nat.lt_trichotomy d e with g | g | g
      · exact absurd b.1 (f.2 d g)
      · rw [a, c, g]
      · exact absurd f.1 (b.2 e g)
theorem dist_exists (E : Nat → Nat → Prop) (n v w : Nat) : ∃ x, DistIs E n v w x := by
  by_cases c : ∃ d, Wk E n v d w
  · obtain ⟨d, h⟩ := c
    obtain ⟨e, _, a, b⟩ := least_of (P := fun d => Wk E n v d w) d h
    exact ⟨e, .inr ⟨e, rfl, a, b⟩⟩
  · exact ⟨-1, .inl ⟨rfl, fun d h => c ⟨d, h⟩⟩⟩
noncomputable def distL (E : Nat → Nat → Prop) (n v : Nat) : List Int := (List.range n).map fun w => Classical.choose (dist_exists E n v w)
theorem distL_length (E : Nat → Nat → Prop) (n v : Nat) : (distL E n v).length = n := by simp [distL]
theorem distL_at (E : Nat → Nat → Prop) {n w : Nat} (v : Nat) (hw : w < n) : DistIs E n v w (rd (distL E n v) (w : Int)) := by
  have : rd (distL E n v) (w : Int) = Classical.choose (dist_exists E n v w) := by rw [rd_nat]; simp [distL, hw]
  rw [this]
  exact Classical.choose_spec (dist_exists E n v w)
theorem distL_eq {E : Nat → Nat → Prop} {n v : Nat} {L : List Int} (hl : L.length = n) (h : ∀ w, w < n → DistIs E n v w (rd L (w : Int))) : L = distL E n v :=
  list_ext_rd (by rw [hl, distL_length]) fun w hw => (h w (by omega)).uniq (distL_at E v (by omega))

theorem pigeon (n : Nat) : ∀ (d : Nat) (f : Nat → Nat), (∀ e, e ≤ d → f e < n) → (∀ a b, a ≤ d → b ≤ d → f a = f b → a = b) → d < n := by
  induction n with
  | zero => intro d f h _; exact absurd (h 0 (Nat.zero_le _)) (by omega)
  | succ n ih =>
    intro d f h k
    cases d with
    | zero => omega
    | succ d =>
      have := ih d (fun e => if f e = n then f (d + 1) else f e) (fun e he => by
        have a := h e (by omega)
        have b := h (d + 1) (by omega)
        by_cases c : f e = n
        · simp only [if_pos c]
          by_cases x : f (d + 1) = n
          · have := k e (d + 1) (by omega) (by omega) (by rw [c, x]); omega
          · omega
        · simp only [if_neg c]; omega) (fun a b ha hb he => by
        by_cases c : f a = n
        · by_cases x : f b = n
          · exact k a b (by omega) (by omega) (by rw [c, x])
          · simp only [if_pos c, if_neg x] at he
            have := k (d + 1) b (by omega) (by omega) he; omega
        · by_cases x : f b = n
          · simp only [if_neg c, if_pos x] at he
            have := k a (d + 1) (by omega) (by omega) he; omega
          · simp only [if_neg c, if_neg x] at he
            exact k a b (by omega) (by omega) he)
      omega
theorem AtD.uniq {E : Nat → Nat → Prop} {n v d e w : Nat} (h : AtD E n v d w) (k : AtD E n v e w) : d = e := by
  rcases Nat.lt_trichotomy d e with a | a | a
  · exact absurd h.1 (k.2 d a)
  · exact a
  · exact absurd k.1 (h.2 e a)
theorem AtD.bound {E : Nat → Nat → Prop} {n v d w : Nat} (hv : v < n) (h : AtD E n v d w) : d < n := by
  have ex : ∀ e, e ≤ d → ∃ u, AtD E n v e u := fun e he => AtD.down (d := e) (d - e) (w := w) (by rw [show e + (d - e) = d by omega]; exact h)
  refine pigeon n d (fun e => if c : e ≤ d then Classical.choose (ex e c) else 0) (fun e he => ?_) fun a b ha hb he => ?_
  · simp only [dif_pos he]; exact (Classical.choose_spec (ex e he)).1.lt hv
  · simp only [dif_pos ha, dif_pos hb] at he
    have p := Classical.choose_spec (ex a ha)
    have q := Classical.choose_spec (ex b hb)
    rw [he] at p
    exact p.uniq q
theorem distL_bd (E : Nat → Nat → Prop) {n v w : Nat} (hv : v < n) (hw : w < n) : -1 ≤ rd (distL E n v) (w : Int) ∧ rd (distL E n v) (w : Int) < (n : Int) := by
  rcases distL_at E v hw with ⟨a, _⟩ | ⟨d, a, b⟩
  · rw [a]; omega
  · have := b.bound hv
    rw [a]; omega
theorem distL_self (E : Nat → Nat → Prop) {n v : Nat} (hv : v < n) : rd (distL E n v) (v : Int) = 0 :=
  (distL_at E v hv).uniq (.inr ⟨0, rfl, rfl, fun e he => by omega⟩)

theorem way_wk {rows : List Int} {n u w : Nat} (hu : u < n) : Way rows n u w ↔ ∃ d, Wk (Adj rows) n u d w := by
  constructor
  · intro h
    exact closed_way (P := fun x => ∃ d, Wk (Adj rows) n u d x) ⟨0, rfl⟩ (fun x y hx hy ⟨d, hd⟩ ha => ⟨d + 1, hy, x, hx, hd, ha⟩) w h
  · rintro ⟨d, h⟩
    induction d generalizing w with
    | zero => rw [Wk] at h; rw [h]; exact .refl
    | succ d ih =>
      obtain ⟨a, x, b, c, e⟩ := h
      exact .step (ih c) b a e

/-- A colouring with two colours. -/
def Bip (rows : List Int) (n : Nat) : Prop := ∃ c : Nat → Bool, ∀ u w, u < n → w < n → Adj rows u w → c u ≠ c w
theorem bip_walk {rows : List Int} {n v : Nat} (hv : v < n) {c : Nat → Bool} (hc : ∀ u w, u < n → w < n → Adj rows u w → c u ≠ c w) (d : Nat) : ∀ w, Wk (Adj rows) n v d w → (c w = c v ↔ d % 2 = 0) := by
  induction d with
  | zero => intro w h; rw [Wk] at h; subst h; simp
  | succ d ih =>
    rintro w ⟨a, u, b, k, e⟩
    have h := ih u k
    have ne := hc u w b a e
    by_cases z : d % 2 = 0
    · have e1 := h.2 z
      have : ¬ (d + 1) % 2 = 0 := by omega
      simp only [this, iff_false]
      intro x; exact ne (by rw [e1, x])
    · have e1 : ¬ c u = c v := fun x => z (h.1 x)
      have : (d + 1) % 2 = 0 := by omega
      simp only [this, iff_true]
      cases hcu : c u <;> cases hcw : c w <;> cases hcv : c v <;> simp_all
/-- Two joined vertices at walks of like parity from one vertex: no colouring. -/
theorem not_bip {rows : List Int} {n v d e x y : Nat} (hv : v < n) (hx : x < n) (hy : y < n) (hA : Adj rows x y) (h1 : Wk (Adj rows) n v d x) (h2 : Wk (Adj rows) n v e y) (hp : d % 2 = e % 2) : ¬ Bip rows n := by
  rintro ⟨c, hc⟩
  have a := bip_walk hv hc d x h1
  have b := bip_walk hv hc e y h2
  have ne := hc x y hx hy hA
  by_cases z : d % 2 = 0
  · exact ne ((a.2 z).trans (b.2 (by omega)).symm)
  · have p : ¬ c x = c v := fun k => z (a.1 k)
    have q : ¬ c y = c v := fun k => z (by have := b.1 k; omega)
    cases hcx : c x <;> cases hcy : c y <;> cases hcv : c v <;> simp_all
theorem lead_self {rows : List Int} {n v : Nat} (hv : v < n) : rd (leadL rows n) (v : Int) = (v : Int) ↔ ∀ u, u < v → ¬ Way rows n u v := by
  rcases (leadL_leads rows n).2 v hv with ⟨_, a⟩ | ⟨u, a, b, c, e⟩
  · exact absurd .refl (a v hv)
  · constructor
    · intro h
      have : u = v := by omega
      subst this; exact e
    · intro h
      have : ¬ u < v := fun z => h u z c
      have : ¬ v < u := fun z => e v z .refl
      have : u = v := by omega
      subst this; exact b

/-- The colours of the parts that hold a vertex before v; -1 elsewhere. -/
def KOut (rows : List Int) (n v : Nat) (K : List Int) : Prop := K.length = n ∧ ∀ w, w < n → ((∃ u, u < v ∧ Way rows n u w) → (rd K (w : Int) = 0 ∨ rd K (w : Int) = 1) ∧ ∀ y, y < n → Adj rows w y → rd K (y : Int) = 1 - rd K (w : Int)) ∧ ((∀ u, u < v → ¬ Way rows n u w) → rd K (w : Int) = -1)
structure KS (rows : List Int) (n v : Nat) (K0 K Q : List Int) : Prop where
  len : K.length = n
  elem : ∀ x ∈ Q, ∃ u : Nat, x = (u : Int) ∧ u < n ∧ ∃ d, Wk (Adj rows) n v d u ∧ rd K (u : Int) = ((d % 2 : Nat) : Int)
  out : ∀ w, w < n → (w : Int) ∉ Q → rd K (w : Int) = rd K0 (w : Int)
  first : (v : Int) ∈ Q
  size : Q.length + K.countP (fun x => decide (x < 0)) ≤ n
def KC (rows : List Int) (n : Nat) (K Q : List Int) (i : Nat) : Prop := ∀ k, k < i → ∀ u : Nat, rd Q (k : Int) = (u : Int) → ∀ y, y < n → Adj rows u y → (y : Int) ∈ Q ∧ rd K (y : Int) = 1 - rd K (u : Int)
/-- One neighbour. -/
theorem spec_l01Kinds.l3_step (k : Nat) {K L Q T : List Int} {i j y a : Nat} (v n : Int) (rows : List Int) (h1 : j < T.length) (h2 : rd T (j : Int) = (y : Int)) (h3 : y < K.length) (h4 : rd Q (i : Int) = (a : Int)) (h5 : i < Q.length) (h6 : a < K.length) (h7 : Q.length < 17592186044416) (h8 : T.length < 1000) :
    spec_l01Kinds.l3 (k + 1) K L v Q (i : Int) T (j : Int) n rows = if rd K (y : Int) = rd K (a : Int) then some (K, false) else if rd K (y : Int) < 0 then spec_l01Kinds.l3 k (K.set y (wrap64 (1 - rd K (a : Int)))) L v (Q ++ [(y : Int)]) (i : Int) T ((j + 1 : Nat) : Int) n rows else spec_l01Kinds.l3 k K L v Q (i : Int) T ((j + 1 : Nat) : Int) n rows := by
  rw [spec_l01Kinds.l3.eq_2]
  simp only [h2, h4, if_pos (show (j : Int) < (T.length : Int) by omega), if_pos (show (0 : Int) ≤ (j : Int) by omega), if_pos (show (0 : Int) ≤ (y : Int) by omega), if_pos (show (y : Int) < (K.length : Int) by omega), if_pos (show (0 : Int) ≤ (i : Int) by omega), if_pos (show (i : Int) < (Q.length : Int) by omega), if_pos (show (0 : Int) ≤ (a : Int) by omega), if_pos (show (a : Int) < (K.length : Int) by omega), if_pos h7, Int.toNat_natCast, show wrap64 ((j : Int) + 1) = ((j + 1 : Nat) : Int) by rw [w64 (by omega) (by omega)]; omega]
section
variable {n : Int} {rows : List Int} (g : IsG n rows) {v : Nat} (hv : v < n.toNat) {K0 : List Int} (hK0 : KOut rows n.toNat v K0) (hv0 : ∀ u, u < v → ¬ Way rows n.toNat u v)
include g hv hK0 hv0
theorem kfresh {w : Nat} (hw : w < n.toNat) (hW : Way rows n.toNat v w) : rd K0 (w : Int) = -1 :=
  (hK0.2 w hw).2 fun u hu h => hv0 u hu (h.trans (hW.symm g))
set_option maxHeartbeats 1000000 in
theorem spec_l01Kinds.ev_3 {a : Nat} (ha : a < n.toNat) {i : Nat}
    (next : ∀ K Q, KS rows n.toNat v K0 K Q → i + 1 ≤ Q.length → KC rows n.toNat K Q (i + 1) → ∃ K', Ev (fun q => spec_l01Kinds.l2 q K (leadL rows n.toNat) (v : Int) Q ((i : Int) + 1) n rows) (K', decide (Bip rows n.toNat))) (d : Nat) :
    ∀ (j : Nat) (K Q : List Int), j + d = (bitsFrom n.toNat 0 (rd rows (a : Int))).length → KS rows n.toNat v K0 K Q → i < Q.length → rd Q (i : Int) = (a : Int) → KC rows n.toNat K Q i →
      (∀ k : Nat, k < j → rd (bitsFrom n.toNat 0 (rd rows (a : Int))) (k : Int) ∈ Q ∧ rd K (rd (bitsFrom n.toNat 0 (rd rows (a : Int))) (k : Int)) = 1 - rd K (a : Int)) →
      ∃ K', Ev (fun q => spec_l01Kinds.l3 q K (leadL rows n.toNat) (v : Int) Q (i : Int) (bitsFrom n.toNat 0 (rd rows (a : Int))) (j : Int) n rows) (K', decide (Bip rows n.toNat)) := by
  have hn := g.le
  have hlen := bitsFrom_length (rd rows (a : Int)) n.toNat 0
  induction d with
  | zero =>
    intro j K Q e hS hi hQi hC hj
    have hq := hS.size
    obtain ⟨K', hK'⟩ := next K Q hS (by omega) fun k hk u hu y hy hA => by
      rcases Nat.lt_succ_iff_lt_or_eq.1 hk with x | rfl
      · exact hC k x u hu y hy hA
      · have ua : u = a := by omega
        subst ua
        have : (y : Int) ∈ bitsFrom n.toNat 0 (rd rows (u : Int)) := mem_bitsFrom.2 ⟨y, rfl, by omega, by omega, hA⟩
        obtain ⟨k, hk, hr⟩ := mem_rd.1 this
        rw [← hr]
        exact hj k (by omega)
    refine ⟨K', Ev.step (fun k => spec_l01Kinds.l3.eq_2 ..) ?_⟩
    simp only [if_neg (show ¬ ((j : Int) < ((bitsFrom n.toNat 0 (rd rows (a : Int))).length : Int)) by omega)]
    rw [w64 (by omega) (by omega)]
    exact hK'
  | succ d ih =>
    intro j K Q e hS hi hQi hC hj
    have hq := hS.size
    obtain ⟨y, hy, _, hyn, hyA⟩ := mem_bitsFrom.1 (rd_mem (l := bitsFrom n.toNat 0 (rd rows (a : Int))) (i := (j : Int)) (by omega) (by omega))
    have hyn' : y < n.toNat := by omega
    have hKl := hS.len
    have haQ : (a : Int) ∈ Q := by rw [← hQi]; exact rd_mem (by omega) (by omega)
    have l1 : j < (bitsFrom n.toNat 0 (rd rows (a : Int))).length := by omega
    have l3 : y < K.length := by omega
    have l5 : i < Q.length := hi
    have l6 : a < K.length := by omega
    have l7 : Q.length < 17592186044416 := by omega
    have l8 : (bitsFrom n.toNat 0 (rd rows (a : Int))).length < 1000 := by omega
    have jd : j + 1 + d = (bitsFrom n.toNat 0 (rd rows (a : Int))).length := by omega
    clear hlen
    obtain ⟨a', ea, _, da, hWa, hKa⟩ := hS.elem _ haQ
    have : a' = a := by omega
    subst this
    have hWy : Wk (Adj rows) n.toNat v (da + 1) y := ⟨hyn', a', ha, hWa, hyA⟩
    by_cases c : (y : Int) ∈ Q
    · obtain ⟨y', ey, _, dy, hWy2, hKy⟩ := hS.elem _ c
      have : y' = y := by omega
      subst this
      by_cases z : rd K (y' : Int) = rd K (a' : Int)
      · have nb : ¬ Bip rows n.toNat := not_bip hv ha hyn' hyA hWa hWy2 (by omega)
        refine ⟨K, Ev.step (fun k => spec_l01Kinds.l3_step k _ _ _ l1 hy l3 hQi l5 l6 l7 l8) ?_⟩
        simp only [if_pos z]
        rw [decide_eq_false nb]
        exact Ev.now _
      · obtain ⟨K', hK'⟩ := ih (j + 1) K Q jd hS hi hQi hC fun k hk => by
          rcases Nat.lt_succ_iff_lt_or_eq.1 hk with x | rfl
          · exact hj k x
          · rw [hy]; exact ⟨c, by omega⟩
        have y0 : ¬ (rd K (y' : Int) < 0) := by omega
        refine ⟨K', Ev.step (fun k => spec_l01Kinds.l3_step k _ _ _ l1 hy l3 hQi l5 l6 l7 l8) ?_⟩
        simp only [if_neg z, if_neg y0]
        exact hK'
    · have f := hS.out y hyn' c
      rw [kfresh g hv hK0 hv0 hyn' ((way_wk hv).2 ⟨_, hWy⟩)] at f
      have hyl : y < K.length := by omega
      have hya : y ≠ a' := fun z => by subst z; exact c haQ
      have old : ∀ u : Nat, (u : Int) ∈ Q → ∀ z, rd (K.set y z) (u : Int) = rd K (u : Int) := fun u hu z => rd_set_ne _ _ _ (fun x => by subst x; exact c hu) _
      obtain ⟨K', hK'⟩ := ih (j + 1) (K.set y (1 - rd K (a' : Int))) (Q ++ [(y : Int)]) jd ⟨by rw [List.length_set]; exact hKl, fun x hx => by
          rcases List.mem_append.1 hx with x1 | x1
          · obtain ⟨u, p, q, dd, r, s⟩ := hS.elem x x1
            exact ⟨u, p, q, dd, r, by rw [old u (by rw [← p]; exact x1)]; exact s⟩
          · exact ⟨y, by simpa using x1, hyn', da + 1, hWy, by rw [rd_set_self _ _ hyl]; omega⟩, fun w hw hm => by
          have wy : w ≠ y := fun a => hm (by rw [a]; simp)
          rw [rd_set_ne _ _ _ (fun a => wy a.symm)]
          exact hS.out w hw fun a => hm (List.mem_append_left _ a), List.mem_append_left _ hS.first, by
          rw [List.countP_set hyl, List.length_append]
          have ly : K[y] = -1 := by rw [← rd_get K y hyl]; exact f
          have cp : 1 ≤ K.countP (fun x => decide (x < 0)) := List.countP_pos_iff.2 ⟨K[y], List.getElem_mem hyl, by rw [ly]; rfl⟩
          rw [ly]
          simp only [List.length_cons, List.length_nil]
          rw [if_pos (by decide), if_neg (by simp; omega)]
          omega⟩ (by rw [List.length_append]; omega) (by rw [rd_append hi]; exact hQi) (fun k hk u hu z hz hA => by
          rw [rd_append (by omega)] at hu
          obtain ⟨p, q⟩ := hC k hk u hu z hz hA
          have huQ : (u : Int) ∈ Q := by rw [← hu]; exact rd_mem (by omega) (by omega)
          exact ⟨List.mem_append_left _ p, by rw [old z p, old u huQ]; exact q⟩) fun k hk => by
          rcases Nat.lt_succ_iff_lt_or_eq.1 hk with x | rfl
          · obtain ⟨p, q⟩ := hj k x
            obtain ⟨u, pu, _⟩ := hS.elem _ p
            refine ⟨List.mem_append_left _ p, ?_⟩
            rw [pu] at p q ⊢
            rw [old u p, old a' haQ]; exact q
          · rw [hy]
            exact ⟨by simp, by rw [rd_set_self _ _ hyl, old a' haQ]⟩
      have y1 : ¬ rd K (y : Int) = rd K (a' : Int) := by omega
      have y2 : rd K (y : Int) < 0 := by omega
      refine ⟨K', Ev.step (fun k => spec_l01Kinds.l3_step k _ _ _ l1 hy l3 hQi l5 l6 l7 l8) ?_⟩
      simp only [if_neg y1, if_pos y2]
      rw [w64 (n := 1 - rd K (a' : Int)) (by omega) (by omega)]
      exact hK'
theorem spec_l01Kinds.ev_2 (next : ∀ K, KOut rows n.toNat (v + 1) K → ∃ K', Ev (fun q => spec_l01Kinds.l1 q K (leadL rows n.toNat) ((v : Int) + 1) n rows) (K', decide (Bip rows n.toNat))) (d : Nat) :
    ∀ (i : Nat) (K Q : List Int), n.toNat ≤ i + d → KS rows n.toNat v K0 K Q → i ≤ Q.length → KC rows n.toNat K Q i → ∃ K', Ev (fun q => spec_l01Kinds.l2 q K (leadL rows n.toNat) (v : Int) Q (i : Int) n rows) (K', decide (Bip rows n.toNat)) := by
  have hn := g.le
  have done : ∀ (K Q : List Int), KS rows n.toNat v K0 K Q → KC rows n.toNat K Q Q.length → ∃ K', Ev (fun q => spec_l01Kinds.l2 q K (leadL rows n.toNat) (v : Int) Q (Q.length : Int) n rows) (K', decide (Bip rows n.toNat)) := by
    intro K Q hS hC
    have inQ : ∀ w, Way rows n.toNat v w → (w : Int) ∈ Q := closed_way (P := fun w => (w : Int) ∈ Q) hS.first fun x y hx hy a b => by
      obtain ⟨k, hk, hr⟩ := mem_rd.1 a
      exact (hC k hk x hr y hy b).1
    have ofQ : ∀ w : Nat, (w : Int) ∈ Q → Way rows n.toNat v w := fun w hw => by
      obtain ⟨u, p, _, dd, r, _⟩ := hS.elem _ hw
      have : u = w := by omega
      subst this
      exact (way_wk hv).2 ⟨dd, r⟩
    obtain ⟨K', hK'⟩ := next K ⟨hS.len, fun w hw => by
      refine ⟨fun h => ?_, fun h => ?_⟩
      · obtain ⟨u, hu, hW⟩ := h
        by_cases c : (w : Int) ∈ Q
        · obtain ⟨u', p, _, dd, r, s⟩ := hS.elem _ c
          have : u' = w := by omega
          subst this
          refine ⟨by omega, fun y hy hA => ?_⟩
          obtain ⟨k, hk, hr⟩ := mem_rd.1 c
          exact (hC k hk u' hr y hy hA).2
        · have uv : u < v := by
            rcases Nat.lt_succ_iff_lt_or_eq.1 hu with x | rfl
            · exact x
            · exact absurd (inQ w hW) c
          obtain ⟨p, q⟩ := (hK0.2 w hw).1 ⟨u, uv, hW⟩
          rw [hS.out w hw c]
          refine ⟨p, fun y hy hA => ?_⟩
          have yQ : (y : Int) ∉ Q := fun z => hv0 u uv ((Way.step hW hw hy hA).trans ((ofQ y z).symm g))
          rw [hS.out y hy yQ]
          exact q y hy hA
      · have c : (w : Int) ∉ Q := fun z => h v (by omega) (ofQ w z)
        rw [hS.out w hw c]
        exact (hK0.2 w hw).2 fun u hu => h u (by omega)⟩
    have hq := hS.size
    refine ⟨K', Ev.step (fun k => spec_l01Kinds.l2.eq_2 ..) ?_⟩
    simp only [if_neg (show ¬ ((Q.length : Int) < (Q.length : Int)) by omega)]
    rw [w64 (by omega) (by omega)]
    exact hK'
  induction d with
  | zero =>
    intro i K Q e hS hi hC
    have := hS.size
    have : i = Q.length := by omega
    subst this
    exact done K Q hS hC
  | succ d ih =>
    intro i K Q e hS hi hC
    by_cases c : i = Q.length
    · subst c; exact done K Q hS hC
    · have hsz := hS.size
      have hrl := g.len
      obtain ⟨a, ha, han, _⟩ := hS.elem _ (rd_mem (l := Q) (i := (i : Int)) (by omega) (by omega))
      obtain ⟨K', hK'⟩ := spec_l01Kinds.ev_3 g hv hK0 hv0 han (i := i) (fun K' Q' hS' hi' hC' => ih (i + 1) K' Q' (by omega) hS' hi' hC') (bitsFrom n.toNat 0 (rd rows (a : Int))).length 0 K Q (by omega) hS (by omega) ha hC (fun k hk => by omega)
      refine ⟨K', Ev.step (fun k => spec_l01Kinds.l2.eq_2 ..) ?_⟩
      simp only [if_pos (show (i : Int) < (Q.length : Int) by omega), if_pos (show (0 : Int) ≤ (i : Int) by omega), ha]
      exact Ev.bind (spec_l01Neighbours.ev n rows (a : Int) (by omega) (by omega) (by have := g.1; omega) g.2.1) hK'
end
theorem spec_l01Kinds.ev_1 {n : Int} {rows : List Int} (g : IsG n rows) (d : Nat) : ∀ (v : Nat) (K : List Int), v + d = n.toNat → KOut rows n.toNat v K → ∃ K', Ev (fun q => spec_l01Kinds.l1 q K (leadL rows n.toNat) (v : Int) n rows) (K', decide (Bip rows n.toNat)) := by
  have hn := g.le
  have h1 := g.1
  have hLl := (leadL_leads rows n.toNat).1
  induction d with
  | zero =>
    intro v K e hK
    have : v = n.toNat := by omega
    subst this
    have hb : Bip rows n.toNat := ⟨fun w => decide (rd K (w : Int) = 1), fun u w hu hw hA => by
      obtain ⟨p, q⟩ := (hK.2 u hu).1 ⟨u, hu, .refl⟩
      have := q w hw hA
      intro z
      have := decide_eq_decide.1 z
      omega⟩
    refine ⟨K, Ev.step (fun k => spec_l01Kinds.l1.eq_2 ..) ?_⟩
    simp only [if_neg (show ¬ ((n.toNat : Int) < n) by omega)]
    rw [decide_eq_true hb]
    exact Ev.now _
  | succ d ih =>
    intro v K e hK
    have hv : v < n.toNat := by omega
    have hKl := hK.1
    by_cases c : rd (leadL rows n.toNat) (v : Int) = (v : Int)
    · have hv0 := (lead_self hv).1 c
      have f := (hK.2 v hv).2 hv0
      have hvl : v < K.length := by omega
      obtain ⟨K', hK'⟩ := spec_l01Kinds.ev_2 g hv hK hv0 (fun K' h' => ih (v + 1) K' (by omega) h') n.toNat 0 (K.set v 0) [(v : Int)] (by omega) ⟨by rw [List.length_set]; exact hKl, fun x hx => ⟨v, by simpa using hx, hv, 0, rfl, by rw [rd_set_self _ _ hvl]; rfl⟩, fun w hw hm => by rw [rd_set_ne _ _ _ (fun a => hm (by rw [a]; simp))], by simp, by
        rw [List.countP_set hvl]
        have ly : K[v] = -1 := by rw [← rd_get K v hvl]; exact f
        have cp : 1 ≤ K.countP (fun x => decide (x < 0)) := List.countP_pos_iff.2 ⟨K[v], List.getElem_mem hvl, by rw [ly]; rfl⟩
        have cl := List.countP_le_length (p := fun x : Int => decide (x < 0)) (l := K)
        rw [ly, if_pos (by decide), if_neg (by simp)]
        simp only [List.length_cons, List.length_nil]
        omega⟩ (by simp) (fun k hk => by omega)
      refine ⟨K', Ev.step (fun k => spec_l01Kinds.l1.eq_2 ..) ?_⟩
      simp only [if_pos (show (v : Int) < n by omega), if_pos (show (0 : Int) ≤ (v : Int) by omega), if_pos (show (v : Int) < ((leadL rows n.toNat).length : Int) by omega), if_pos c, if_pos (show (v : Int) < (K.length : Int) by omega), Int.toNat_natCast]
      exact hK'
    · have ex : ∃ u, u < v ∧ Way rows n.toNat u v := by
        by_cases z : ∃ u, u < v ∧ Way rows n.toNat u v
        · exact z
        · exact absurd ((lead_self hv).2 fun u hu hW => z ⟨u, hu, hW⟩) c
      obtain ⟨t, ht, hW⟩ := ex
      obtain ⟨K', hK'⟩ := ih (v + 1) K (by omega) ⟨hKl, fun w hw => ⟨fun ⟨u, hu, hu2⟩ => (hK.2 w hw).1 (by
        rcases Nat.lt_succ_iff_lt_or_eq.1 hu with x | rfl
        · exact ⟨u, x, hu2⟩
        · exact ⟨t, ht, hW.trans hu2⟩), fun h => (hK.2 w hw).2 fun u hu => h u (by omega)⟩⟩
      refine ⟨K', Ev.step (fun k => spec_l01Kinds.l1.eq_2 ..) ?_⟩
      simp only [if_pos (show (v : Int) < n by omega), if_pos (show (0 : Int) ≤ (v : Int) by omega), if_pos (show (v : Int) < ((leadL rows n.toNat).length : Int) by omega), if_neg c]
      rw [w64 (by omega) (by omega)]
      exact hK'
theorem spec_l01Kinds.ev_0 {n : Int} {rows : List Int} (g : IsG n rows) (d : Nat) : ∀ (v : Nat) (K : List Int), v + d = n.toNat → K.length = n.toNat → (∀ w, w < v → rd K (w : Int) = -1) → ∃ K', Ev (fun q => spec_l01Kinds.l0 q K (leadL rows n.toNat) (v : Int) n rows) (K', decide (Bip rows n.toNat)) := by
  have hn := g.le
  have h1 := g.1
  induction d with
  | zero =>
    intro v K e hKl h
    obtain ⟨K', hK'⟩ := spec_l01Kinds.ev_1 g n.toNat 0 K (by omega) ⟨hKl, fun w hw => ⟨fun ⟨u, hu, _⟩ => by omega, fun _ => h w (by omega)⟩⟩
    refine ⟨K', Ev.step (fun k => spec_l01Kinds.l0.eq_2 ..) ?_⟩
    simp only [if_neg (show ¬ ((v : Int) < n) by omega)]
    exact hK'
  | succ d ih =>
    intro v K e hKl h
    obtain ⟨K', hK'⟩ := ih (v + 1) (K.set v (-1)) (by omega) (by rw [List.length_set]; exact hKl) fun w hw => by
      by_cases c : v = w
      · subst c; rw [rd_set_self _ _ (by omega)]
      · rw [rd_set_ne _ _ _ c]; exact h w (by omega)
    refine ⟨K', Ev.step (fun k => spec_l01Kinds.l0.eq_2 ..) ?_⟩
    simp only [if_pos (show (v : Int) < n by omega), if_pos (show (0 : Int) ≤ (v : Int) by omega), if_pos (show (v : Int) < (K.length : Int) by omega), Int.toNat_natCast]
    rw [w64 (by omega) (by omega)]
    exact hK'
theorem spec_l01Kinds.ev {n : Int} {rows : List Int} (g : IsG n rows) : ∃ K', Ev (fun q => spec_l01Kinds.f q n rows) (K', decide (Bip rows n.toNat)) := by
  have hn := g.le
  have h1 := g.1
  obtain ⟨K', hK'⟩ := spec_l01Kinds.ev_0 g n.toNat 0 (List.replicate n.toNat 0) (by omega) (by simp) (fun w hw => by omega)
  refine ⟨K', ?_⟩
  unfold spec_l01Kinds.f
  simp only [if_pos (show 0 ≤ n by omega), if_pos (show n.toNat ≤ 35184372088832 by omega)]
  exact Ev.bind (spec_l01Leaders.ev g) hK'

noncomputable def bipR (n : Int) (rows : List Int) : Bool × Int := if IsG n rows then (decide (Bip rows n.toNat), 0) else (false, 1)
theorem spec_IsBipartite.ev (n : Int) (rows : List Int) : Ev (fun q => spec_IsBipartite.f q n rows) (bipR n rows) := by
  unfold spec_IsBipartite.f bipR
  refine Ev.bind (spec_l01Is.ev n rows) ?_
  by_cases h : IsG n rows
  · simp only [h, decide_true, if_true]
    obtain ⟨K, hK⟩ := spec_l01Kinds.ev h
    exact Ev.bind hK (Ev.now _)
  · simp only [h, decide_false, Bool.false_eq_true, if_false]
    exact Ev.now _

/-! impl.IsGraph -/
theorem impl_IsGraph.ev_1 (n : Int) (rows : List Int) (hn : 1 ≤ n) (hn1 : n ≤ 62) (hl : (rows.length : Int) = n) (v : Nat) (hv : (v : Int) < n)
    (F : Prop) (hF : Ev (fun q => impl_IsGraph.l0 q n rows (rows.length : Int) ((v + 1 : Nat) : Int) n rows) (decide F)) (d : Nat) : ∀ w : Nat, w + d = rows.length →
    Ev (fun q => impl_IsGraph.l1 q n (v : Int) (rd rows v) rows (rows.length : Int) (v : Int) n (w : Int) n rows) (decide ((∀ k : Nat, w ≤ k → k < rows.length → dig (rd rows v) k = dig (rd rows k) v) ∧ F)) := by
  induction d with
  | zero =>
    intro w e
    refine Ev.step (fun k => impl_IsGraph.l1.eq_2 ..) ?_
    simp only [if_neg (show ¬ ((w : Int) < n) by omega)]
    rw [w64 (by omega) (by omega)]
    refine ev_cast hF ?_
    refine dec_congr ?_
    exact ⟨fun a => ⟨scan_end (by omega), a⟩, fun a => a.2⟩
  | succ d ih =>
    intro w e
    refine Ev.step (fun k => impl_IsGraph.l1.eq_2 ..) ?_
    simp only [if_pos (show (w : Int) < n by omega), if_pos (show (0 : Int) ≤ (w : Int) by omega), if_pos (show (w : Int) < (rows.length : Int) by omega), if_pos (show (0 : Int) ≤ (v : Int) by omega)]
    rw [bit_val (v := (w : Int)) (by omega) (by omega), bit_val (v := (v : Int)) (by omega) (by omega), w64 (n := (w : Int) + 1) (by omega) (by omega)]
    simp only [Int.toNat_natCast]
    by_cases c : dig (rd rows v) w = dig (rd rows w) v
    · simp only [c, if_true]
      refine ev_cast (ih (w + 1) (by omega)) ?_
      refine dec_congr ?_
      rw [scan_step (P := fun k : Nat => dig (rd rows v) k = dig (rd rows k) v) c]
    · rw [decide_eq_false (fun a => c (a.1 w (Nat.le_refl _) (by omega)))]
      have : ¬ ((if dig (rd rows v) w = true then (1 : Int) else 0) = if dig (rd rows w) v = true then 1 else 0) := by
        intro h
        apply c
        cases h1 : dig (rd rows v) w <;> cases h2 : dig (rd rows w) v <;> simp [h1, h2] at h ⊢
      simp only [if_neg this]
      exact Ev.now _
theorem impl_IsGraph.ev_0 (n : Int) (rows : List Int) (hn : 1 ≤ n) (hn1 : n ≤ 62) (hl : (rows.length : Int) = n) (d : Nat) : ∀ v : Nat, v + d = rows.length →
    Ev (fun q => impl_IsGraph.l0 q n rows (rows.length : Int) (v : Int) n rows)
      (decide (∀ k : Nat, v ≤ k → k < rows.length → (0 ≤ rd rows k ∧ rd rows k < ((2 ^ n.toNat : Nat) : Int) ∧ dig (rd rows k) k = false) ∧ ∀ w : Nat, 0 ≤ w → w < rows.length → dig (rd rows k) w = dig (rd rows w) k)) := by
  induction d with
  | zero =>
    intro v e
    refine Ev.step (fun k => impl_IsGraph.l0.eq_2 ..) ?_
    simp only [if_neg (show ¬ ((v : Int) < (rows.length : Int)) by omega)]
    rw [decide_eq_true (scan_end (by omega))]
    exact Ev.now _
  | succ d ih =>
    intro v e
    refine Ev.step (fun k => impl_IsGraph.l0.eq_2 ..) ?_
    simp only [if_pos (show (v : Int) < (rows.length : Int) by omega), if_pos (show (0 : Int) ≤ (v : Int) by omega), if_pos (show 0 ≤ n by omega)]
    rw [shl_one (by omega) hn1, bit_dig (by omega) (by omega), Int.toNat_natCast]
    have key : ∀ g : Bool, (g = true ↔ ¬ (0 ≤ rd rows v ∧ rd rows v < ((2 ^ n.toNat : Nat) : Int) ∧ dig (rd rows v) v = false)) → Ev (fun q => impl_IsGraph.j2 q n (v : Int) (rd rows v) rows (rows.length : Int) (v : Int) g n rows)
        (decide (∀ k : Nat, v ≤ k → k < rows.length → (0 ≤ rd rows k ∧ rd rows k < ((2 ^ n.toNat : Nat) : Int) ∧ dig (rd rows k) k = false) ∧ ∀ w : Nat, 0 ≤ w → w < rows.length → dig (rd rows k) w = dig (rd rows w) k)) := by
      intro g hg
      refine Ev.step (fun k => impl_IsGraph.j2.eq_2 ..) ?_
      by_cases c : g = true
      · simp only [if_pos c]
        rw [decide_eq_false (fun a => hg.1 c (a v (Nat.le_refl _) (by omega)).1)]
        exact Ev.now _
      · simp only [if_neg c]
        have c2 : 0 ≤ rd rows v ∧ rd rows v < ((2 ^ n.toNat : Nat) : Int) ∧ dig (rd rows v) v = false := Classical.not_not.1 fun a => c (hg.2 a)
        refine ev_cast (impl_IsGraph.ev_1 n rows hn hn1 hl v (by omega) _ (ih (v + 1) (by omega)) rows.length 0 (by omega)) ?_
        refine dec_congr ?_
        constructor
        · rintro ⟨a1, a2⟩
          exact (scan_step (P := fun k : Nat => (0 ≤ rd rows k ∧ rd rows k < ((2 ^ n.toNat : Nat) : Int) ∧ dig (rd rows k) k = false) ∧ ∀ w : Nat, 0 ≤ w → w < rows.length → dig (rd rows k) w = dig (rd rows w) k) (i := v) ⟨c2, a1⟩).2 a2
        · intro a
          exact ⟨(a v (Nat.le_refl _) (by omega)).2, fun k hk hk1 => a k (by omega) hk1⟩
    by_cases c1 : rd rows v < 0
    · simp only [if_pos c1]
      exact key true ⟨fun _ a => by omega, fun _ => rfl⟩
    · simp only [if_neg c1]
      by_cases c2 : rd rows v ≥ ((2 ^ n.toNat : Nat) : Int)
      · simp only [if_pos c2]
        exact key true ⟨fun _ a => by omega, fun _ => rfl⟩
      · simp only [if_neg c2]
        exact key _ ⟨fun g a => by rw [a.2.2] at g; exact Bool.false_ne_true g, fun g => by
          by_cases h : dig (rd rows v) v = true
          · exact h
          · exact (g ⟨by omega, by omega, by simpa using h⟩).elim⟩
theorem isG_iff (n : Int) (rows : List Int) (hn : 1 ≤ n) (hn1 : n ≤ 62) (hl : (rows.length : Int) = n) :
    (∀ k : Nat, 0 ≤ k → k < rows.length → (0 ≤ rd rows k ∧ rd rows k < ((2 ^ n.toNat : Nat) : Int) ∧ dig (rd rows k) k = false) ∧ ∀ w : Nat, 0 ≤ w → w < rows.length → dig (rd rows k) w = dig (rd rows w) k) ↔ IsG n rows :=
  ⟨fun a => ⟨hn, hn1, hl, fun v hv => (a v (by omega) (by omega)).1, fun v w hv hw => (a v (by omega) (by omega)).2 w (by omega) (by omega)⟩,
    fun a k _ hk => ⟨a.2.2.2.1 k (by omega), fun w _ hw => a.2.2.2.2 k w (by omega) (by omega)⟩⟩
theorem impl_IsGraph.ev (n : Int) (rows : List Int) : Ev (fun q => impl_IsGraph.f q n rows) (decide (IsG n rows)) := by
  unfold impl_IsGraph.f
  by_cases h1 : n < 1
  · simp only [if_pos h1]
    refine Ev.step (fun k => impl_IsGraph.j0.eq_2 ..) ?_
    simp only [if_true]; rw [decide_eq_false (fun a => by have := a.1; omega)]; exact Ev.now _
  by_cases h2 : n > 62
  · simp only [if_neg h1, if_pos h2]
    refine Ev.step (fun k => impl_IsGraph.j0.eq_2 ..) ?_
    simp only [if_true]; rw [decide_eq_false (fun a => by have := a.2.1; omega)]; exact Ev.now _
  simp only [if_neg h1, if_neg h2]
  refine Ev.step (fun k => impl_IsGraph.j0.eq_2 ..) ?_
  by_cases h3 : (rows.length : Int) = n
  · simp only [h3, bne_self_eq_false, Bool.false_eq_true, if_false]
    have := impl_IsGraph.ev_0 n rows (by omega) (by omega) h3 rows.length 0 (by omega)
    rw [h3] at this
    refine ev_cast this ?_
    refine dec_congr ?_
    exact isG_iff n rows (by omega) (by omega) h3
  · simp only [bne_iff_ne, ne_eq, h3, not_false_eq_true, if_true]
    rw [decide_eq_false (fun a => h3 a.2.2.1)]
    exact Ev.now _

theorem impl_list.ev_l (n : Nat) (hn : n ≤ 62) (d : Nat) : ∀ (i x : Nat) (acc : List Int), i + d = n → x < 2 ^ n → acc.length ≤ i → (∀ j, j < i → x.testBit j = false) →
    Ev (fun q => impl_list.l0 q (x : Int) acc) (acc ++ bitsFrom d i (x : Int)) := by
  have hp := pow62 hn
  induction d with
  | zero =>
    intro i x acc e hx ha h
    have x0 : x = 0 := by
      refine Nat.eq_of_testBit_eq fun j => ?_
      rw [Nat.zero_testBit]
      rcases Nat.lt_or_ge j n with c | c
      · exact h j (by omega)
      · exact Nat.testBit_lt_two_pow (Nat.lt_of_lt_of_le hx (Nat.pow_le_pow_right (by decide) c))
    refine Ev.step (fun k => impl_list.l0.eq_2 ..) ?_
    rw [x0]
    simp only [if_pos (show ((0 : Nat) : Int) = 0 from rfl), bitsFrom, List.append_nil]
    exact Ev.now _
  | succ d ih =>
    intro i x acc e hx ha h
    by_cases c : x.testBit i = true
    · obtain ⟨h1, h2⟩ := low_bit c h (by omega)
      have x0 : x ≠ 0 := fun a => by rw [a] at c; simp at c
      refine Ev.step (fun k => impl_list.l0.eq_2 ..) ?_
      rw [bits_TrailingZeros64.sp (by omega), h1, w64 (by omega) (by omega), show (x : Int) - 1 = ((x - 1 : Nat) : Int) by omega, bit_and _ _ (by omega) (by omega)]
      simp only [if_neg (show ¬ ((x : Int) = 0) by omega), Option.bind_some, if_pos (show acc.length < 17592186044416 by omega)]
      have := ih (i + 1) (x &&& (x - 1)) (acc ++ [(i : Int)]) (by omega) (Nat.lt_of_le_of_lt Nat.and_le_left hx) (by rw [List.length_append]; simp only [List.length_cons, List.length_nil]; omega) (fun j hj => by
        rw [h2 j]
        rcases Nat.lt_succ_iff_lt_or_eq.1 hj with a | rfl
        · rw [h j a]; rfl
        · simp)
      refine ev_cast this ?_
      have cd : dig (x : Int) i = true := by rw [dig_nat]; exact c
      simp only [bitsFrom, if_pos cd, List.append_assoc, List.singleton_append]
      rw [bitsFrom_congr fun j a b => ?_]
      rw [dig_nat, dig_nat, h2 j]
      simp [show j ≠ i by omega]
    · have cd : ¬ dig (x : Int) i = true := by rw [dig_nat]; exact c
      simp only [bitsFrom, if_neg cd]
      refine ih (i + 1) x acc (by omega) hx (by omega) fun j hj => ?_
      rcases Nat.lt_succ_iff_lt_or_eq.1 hj with a | rfl
      · exact h j a
      · simpa using c
theorem impl_list.ev {n : Nat} (hn : n ≤ 62) {x : Nat} (hx : x < 2 ^ n) : Ev (fun q => impl_list.f q (x : Int)) (bitsFrom n 0 (x : Int)) := by
  unfold impl_list.f
  exact impl_list.ev_l n hn n 0 x [] (by omega) hx (by simp) (fun j hj => by omega)

theorem slices_Repeat.sp {n : Int} (h0 : 1 ≤ n) (h1 : n ≤ 62) : slices_Repeat_int64_int64.f [-1] n = some (List.replicate n.toNat (-1)) := by
  unfold slices_Repeat_int64_int64.f
  rw [if_pos (show ([-1] : List Int).length = 1 from rfl), if_pos h0, if_pos h1]
  rfl
theorem bit_lt' {m c r : Nat} (hc : c < 2 ^ m) (h : c.testBit r = true) : r < m := by
  rcases Nat.lt_or_ge r m with a | a
  · exact a
  · rw [Nat.testBit_lt_two_pow (Nat.lt_of_lt_of_le hc (Nat.pow_le_pow_right (by decide) a))] at h; cases h
section
variable {n : Int} {rows : List Int} (g : IsG n rows)
include g
theorem impl_Graph_distances.ev_1 {S F dd : Nat} (hF : F < 2 ^ n.toNat) {X0 : List Int} (hX0 : X0.length = n.toNat) (R : List Int)
    (next : ∀ (X : List Int) (N : Nat), X.length = n.toNat → (∀ w, w < n.toNat → rd X (w : Int) = if F.testBit w = true then (dd : Int) else rd X0 (w : Int)) → N < 2 ^ n.toNat → (∀ j, N.testBit j = true ↔ ∃ u, u < n.toNat ∧ F.testBit u = true ∧ Adj rows u j) →
      Ev (fun q => impl_Graph_distances.l0 q X (Go.bits .or .i64 (S : Int) (N : Int)) (Go.bits .andNot .i64 (N : Int) (S : Int)) (wrap64 ((dd : Int) + 1)) n rows) R) (d : Nat) :
    ∀ (i A : Nat) (X : List Int), i + d = (bitsFrom n.toNat 0 (F : Int)).length → A < 2 ^ n.toNat → X.length = n.toNat →
      (∀ w, w < n.toNat → rd X (w : Int) = if ∃ k : Nat, k < i ∧ rd (bitsFrom n.toNat 0 (F : Int)) (k : Int) = (w : Int) then (dd : Int) else rd X0 (w : Int)) →
      (∀ j, A.testBit j = true ↔ ∃ k : Nat, k < i ∧ ∃ u : Nat, rd (bitsFrom n.toNat 0 (F : Int)) (k : Int) = (u : Int) ∧ Adj rows u j) →
      Ev (fun q => impl_Graph_distances.l1 q X (S : Int) (dd : Int) (A : Int) (bitsFrom n.toNat 0 (F : Int)) ((bitsFrom n.toNat 0 (F : Int)).length : Int) (i : Int) n rows) R := by
  have hn := g.le
  have hp := pow62 hn
  have hlen := bitsFrom_length (F : Int) n.toNat 0
  have hrl := g.len
  have elem : ∀ k : Nat, k < (bitsFrom n.toNat 0 (F : Int)).length → ∃ u : Nat, rd (bitsFrom n.toNat 0 (F : Int)) (k : Int) = (u : Int) ∧ u < n.toNat ∧ F.testBit u = true := fun k hk => by
    obtain ⟨u, a, _, b, c⟩ := mem_bitsFrom.1 (rd_mem (l := bitsFrom n.toNat 0 (F : Int)) (i := (k : Int)) (by omega) (by omega))
    exact ⟨u, a, by omega, by rw [← dig_nat]; exact c⟩
  have back : ∀ u, u < n.toNat → F.testBit u = true → ∃ k : Nat, k < (bitsFrom n.toNat 0 (F : Int)).length ∧ rd (bitsFrom n.toNat 0 (F : Int)) (k : Int) = (u : Int) := fun u hu hb => by
    obtain ⟨k, hk, hr⟩ := mem_rd.1 (show (u : Int) ∈ bitsFrom n.toNat 0 (F : Int) from mem_bitsFrom.2 ⟨u, rfl, by omega, by omega, by rw [dig_nat]; exact hb⟩)
    exact ⟨k, hk, hr⟩
  induction d with
  | zero =>
    intro i A X e hA hX hXv hAb
    refine Ev.step (fun k => impl_Graph_distances.l1.eq_2 ..) ?_
    simp only [if_neg (show ¬ ((i : Int) < ((bitsFrom n.toNat 0 (F : Int)).length : Int)) by omega)]
    refine next X A hX (fun w hw => ?_) hA fun j => (hAb j).trans ⟨?_, ?_⟩
    · rw [hXv w hw]
      by_cases c : F.testBit w = true
      · obtain ⟨k, hk, hr⟩ := back w hw c
        rw [if_pos c, if_pos ⟨k, by omega, hr⟩]
      · rw [if_neg c, if_neg]
        rintro ⟨k, hk, hr⟩
        obtain ⟨u, a, _, b⟩ := elem k (by omega)
        have : u = w := by omega
        subst this
        exact c b
    · rintro ⟨k, hk, u, hu, ha⟩
      obtain ⟨u', a, b, c⟩ := elem k (by omega)
      have : u = u' := by omega
      subst this
      exact ⟨u, b, c, ha⟩
    · rintro ⟨u, hu, hb, ha⟩
      obtain ⟨k, hk, hr⟩ := back u hu hb
      exact ⟨k, by omega, u, hr, ha⟩
  | succ d ih =>
    intro i A X e hA hX hXv hAb
    refine Ev.step (fun k => impl_Graph_distances.l1.eq_2 ..) ?_
    obtain ⟨u, hu, hun, _⟩ := elem i (by omega)
    obtain ⟨x, hx, hx1⟩ := IsG_row g (v := (u : Int)) (by omega) (by omega)
    rw [hu, hx, w64 (n := (i : Int) + 1) (by omega) (by omega), bit_or _ _ (by omega) (by omega)]
    simp only [if_pos (show (i : Int) < ((bitsFrom n.toNat 0 (F : Int)).length : Int) by omega), if_pos (show (0 : Int) ≤ (i : Int) by omega), if_pos (show (0 : Int) ≤ (u : Int) by omega), if_pos (show (u : Int) < (rows.length : Int) by omega), if_pos (show (u : Int) < (X.length : Int) by omega), Int.toNat_natCast]
    refine ih (i + 1) (A ||| x) (X.set u (dd : Int)) (by omega) (Nat.or_lt_two_pow hA hx1) (by rw [List.length_set]; exact hX) (fun w hw => ?_) fun j => ?_
    · by_cases c : w = u
      · subst c
        rw [rd_set_self _ _ (by omega), if_pos ⟨i, by omega, hu⟩]
      · rw [rd_set_ne _ _ _ (fun a => c a.symm), hXv w hw]
        by_cases z : ∃ k : Nat, k < i ∧ rd (bitsFrom n.toNat 0 (F : Int)) (k : Int) = (w : Int)
        · obtain ⟨k, a, b⟩ := z
          rw [if_pos ⟨k, a, b⟩, if_pos ⟨k, by omega, b⟩]
        · rw [if_neg z, if_neg]
          rintro ⟨k, a, b⟩
          rcases Nat.lt_succ_iff_lt_or_eq.1 a with a | rfl
          · exact z ⟨k, a, b⟩
          · exact c (by omega)
    · rw [Nat.testBit_or, Bool.or_eq_true, hAb j]
      have hxb : x.testBit j = true ↔ Adj rows u j := by unfold Adj; rw [hx, dig_nat]
      rw [hxb]
      constructor
      · rintro (⟨k, a, b⟩ | a)
        · exact ⟨k, by omega, b⟩
        · exact ⟨i, by omega, u, hu, a⟩
      · rintro ⟨k, a, u', b, c⟩
        rcases Nat.lt_succ_iff_lt_or_eq.1 a with a | rfl
        · exact .inl ⟨k, a, u', b, c⟩
        · have : u' = u := by omega
          subst this
          exact .inr c
theorem impl_Graph_distances.ev_0 {v : Nat} (hv : v < n.toNat) (k : Nat) : ∀ (d S F : Nat) (X : List Int), S < 2 ^ n.toNat → F < 2 ^ n.toNat → X.length = n.toNat → (∀ w, F.testBit w = true ↔ AtD (Adj rows) n.toNat v d w) → (∀ w, S.testBit w = true ↔ ∃ e, e ≤ d ∧ Wk (Adj rows) n.toNat v e w) →
    (∀ w, w < n.toNat → (∃ e, e < d ∧ AtD (Adj rows) n.toNat v e w ∧ rd X (w : Int) = (e : Int)) ∨ ((∀ e, e < d → ¬ Wk (Adj rows) n.toNat v e w) ∧ rd X (w : Int) = -1)) → (F = 0 ∨ (d < S ∧ 2 ^ n.toNat - S < k)) →
    Ev (fun q => impl_Graph_distances.l0 q X (S : Int) (F : Int) (d : Int) n rows) (distL (Adj rows) n.toNat v) := by
  have hn := g.le
  have hp := pow62 hn
  have done : ∀ (d S : Nat) (X : List Int), X.length = n.toNat → (∀ w, (0 : Nat).testBit w = true ↔ AtD (Adj rows) n.toNat v d w) →
      (∀ w, w < n.toNat → (∃ e, e < d ∧ AtD (Adj rows) n.toNat v e w ∧ rd X (w : Int) = (e : Int)) ∨ ((∀ e, e < d → ¬ Wk (Adj rows) n.toNat v e w) ∧ rd X (w : Int) = -1)) →
      Ev (fun q => impl_Graph_distances.l0 q X (S : Int) ((0 : Nat) : Int) (d : Int) n rows) (distL (Adj rows) n.toNat v) := by
    intro d S X hX h0 h3
    refine Ev.step (fun k => impl_Graph_distances.l0.eq_2 ..) ?_
    simp only [if_pos (show ((0 : Nat) : Int) = 0 from rfl)]
    refine ev_some (distL_eq hX fun w hw => ?_)
    rcases h3 w hw with ⟨e, _, a, b⟩ | ⟨a, b⟩
    · exact .inr ⟨e, b, a⟩
    · refine .inl ⟨b, fun e he => ?_⟩
      obtain ⟨x, _, p, q⟩ := least_of (P := fun e => Wk (Adj rows) n.toNat v e w) e he
      have hx : d ≤ x := by
        rcases Nat.lt_or_ge x d with y | y
        · exact absurd p (a x y)
        · exact y
      obtain ⟨u, hu⟩ := AtD.down (d := d) (x - d) (w := w) (by rw [show d + (x - d) = x by omega]; exact ⟨p, q⟩)
      have := (h0 u).2 hu
      rw [Nat.zero_testBit] at this
      cases this
  induction k with
  | zero =>
    intro d S F X hS hF hX h0 h1 h3 h4
    have : F = 0 := by rcases h4 with h | h <;> omega
    subst this
    exact done d S X hX h0 h3
  | succ k ih =>
    intro d S F X hS hF hX h0 h1 h3 h4
    by_cases f0 : F = 0
    · subst f0; exact done d S X hX h0 h3
    · have h5 := h4.resolve_left f0
      refine Ev.step (fun k => impl_Graph_distances.l0.eq_2 ..) ?_
      simp only [if_neg (show ¬ ((F : Int) = 0) by omega)]
      refine Ev.bind (impl_list.ev hn hF) ?_
      refine impl_Graph_distances.ev_1 g (S := S) (dd := d) hF hX _ (fun X' N hX' hXv hN hNb => ?_) (bitsFrom n.toNat 0 (F : Int)).length 0 0 X (by omega) (Nat.two_pow_pos _) hX (fun w hw => by
        rw [if_neg]; rintro ⟨k, a, _⟩; omega) (fun j => by
        rw [Nat.zero_testBit]
        exact ⟨fun a => (by cases a), fun ⟨k, a, _⟩ => by omega⟩)
      obtain ⟨G, hG, hGb⟩ := bit_andNot N S (by omega) (by omega)
      have hG1 : G < 2 ^ n.toNat := Nat.lt_pow_two_of_testBit _ fun i hi => by
        rw [hGb i, Nat.testBit_lt_two_pow (Nat.lt_of_lt_of_le hN (Nat.pow_le_pow_right (by decide) hi))]; rfl
      rw [hG, bit_or _ _ (by omega) (by omega), w64 (by omega) (by omega)]
      have hle : S ≤ S ||| N := Nat.left_le_or
      have jn : ∀ j, N.testBit j = true → j < n.toNat := fun j hj => bit_lt' hN hj
      have nw : ∀ j, N.testBit j = true → Wk (Adj rows) n.toNat v (d + 1) j := fun j hj => by
        obtain ⟨u, a, b, c⟩ := (hNb j).1 hj
        exact ⟨jn j hj, u, a, ((h0 u).1 b).1, c⟩
      have hnext : ∀ w, Wk (Adj rows) n.toNat v (d + 1) w → S.testBit w = true ∨ N.testBit w = true := fun w hw => by
        obtain ⟨a, u, b, c, e⟩ := hw
        by_cases z : F.testBit u = true
        · exact .inr ((hNb w).2 ⟨u, b, z, e⟩)
        · refine .inl ((h1 w).2 ?_)
          have : ∃ x, x < d ∧ Wk (Adj rows) n.toNat v x u := by
            refine Classical.byContradiction fun no => z ((h0 u).2 ⟨c, fun x hx p => no ⟨x, hx, p⟩⟩)
          obtain ⟨x, p, q⟩ := this
          exact ⟨x + 1, by omega, a, u, b, q, e⟩
      refine ih (d + 1) (S ||| N) G X' (Nat.or_lt_two_pow hS hN) hG1 hX' (fun w => ?_) (fun w => ?_) (fun w hw => ?_) ?_
      · rw [hGb w]
        simp only [Bool.and_eq_true, Bool.not_eq_true']
        constructor
        · rintro ⟨a, b⟩
          refine ⟨nw w a, fun e he p => ?_⟩
          rw [(h1 w).2 ⟨e, by omega, p⟩] at b
          cases b
        · rintro ⟨a, b⟩
          have ns : ¬ S.testBit w = true := fun z => by
            obtain ⟨e, x, y⟩ := (h1 w).1 z
            exact b e (by omega) y
          exact ⟨(hnext w a).resolve_left ns, by simpa using ns⟩
      · rw [Nat.testBit_or, Bool.or_eq_true]
        constructor
        · rintro (a | a)
          · obtain ⟨e, x, y⟩ := (h1 w).1 a
            exact ⟨e, by omega, y⟩
          · exact ⟨d + 1, Nat.le_refl _, nw w a⟩
        · rintro ⟨e, x, y⟩
          by_cases z : e ≤ d
          · exact .inl ((h1 w).2 ⟨e, z, y⟩)
          · rw [show e = d + 1 by omega] at y
            exact hnext w y
      · rw [hXv w hw]
        by_cases z : F.testBit w = true
        · rw [if_pos z]
          exact .inl ⟨d, by omega, (h0 w).1 z, rfl⟩
        · rw [if_neg z]
          rcases h3 w hw with ⟨e, a, b⟩ | ⟨a, b⟩
          · exact .inl ⟨e, by omega, b⟩
          · refine .inr ⟨fun e he p => ?_, b⟩
            rcases Nat.lt_succ_iff_lt_or_eq.1 he with y | rfl
            · exact a e y p
            · exact z ((h0 w).2 ⟨p, a⟩)
      · by_cases g0 : G = 0
        · exact .inl g0
        · refine .inr ?_
          have ne : S ||| N ≠ S := fun a => by
            refine g0 (Nat.eq_of_testBit_eq fun i => ?_)
            rw [hGb i, Nat.zero_testBit]
            by_cases x : N.testBit i = true
            · have : (S ||| N).testBit i = true := by rw [Nat.testBit_or, x]; simp
              rw [a] at this
              rw [x, this]; rfl
            · have : N.testBit i = false := by simpa using x
              rw [this]; rfl
          omega
theorem impl_Graph_distances.ev (v : Nat) (hv : v < n.toNat) : Ev (fun q => impl_Graph_distances.f q n rows (v : Int)) (distL (Adj rows) n.toNat v) := by
  have hn := g.le
  have hp := pow62 hn
  have hb : 2 ^ v < 2 ^ n.toNat := Nat.pow_lt_pow_right (by decide) hv
  have h2 := Nat.one_le_two_pow (n := v)
  unfold impl_Graph_distances.f
  rw [slices_Repeat.sp g.1 g.2.1]
  simp only [Option.bind_some, if_pos (show (0 : Int) ≤ (v : Int) by omega)]
  rw [shl_one (by omega) (by omega), Int.toNat_natCast]
  refine impl_Graph_distances.ev_0 g hv (2 ^ n.toNat + 1) 0 (2 ^ v) (2 ^ v) _ hb hb (by simp) (fun w => ?_) (fun w => ?_) (fun w hw => .inr ⟨fun e he => by omega, ?_⟩) (.inr ⟨h2, Nat.lt_succ_of_le (Nat.sub_le _ _)⟩)
  · rw [Nat.testBit_two_pow, decide_eq_true_eq]
    exact ⟨fun a => ⟨a.symm, fun e he => by omega⟩, fun a => a.1.symm⟩
  · rw [Nat.testBit_two_pow, decide_eq_true_eq]
    exact ⟨fun a => ⟨0, Nat.le_refl _, a.symm⟩, fun ⟨e, a, b⟩ => by
      have : e = 0 := by omega
      subst this
      exact b.symm⟩
  · rw [rd_nat]; simp [hw]
end

/-- The edges of the vertices from v on, smaller end first. -/
def edgesFrom (rows : List Int) (n : Nat) : Nat → Nat → List (List Int)
  | 0, _ => []
  | d + 1, v => ((bitsFrom n 0 (rd rows (v : Int))).filter fun x => decide ((v : Int) < x)).map (fun x => [(v : Int), x]) ++ edgesFrom rows n d (v + 1)
theorem impl_Graph_edges.ev_1 {n : Int} {rows : List Int} (v : Nat) (hv : v ≤ 62) (T : List Int) (hT : T.length ≤ 62) (R : List (List Int)) (d : Nat) : ∀ (i : Nat) (acc : List (List Int)), i + d = T.length → acc.length ≤ 62 * v + i →
    (∀ acc', acc' = acc ++ ((T.drop i).filter fun x => decide ((v : Int) < x)).map (fun x => [(v : Int), x]) → acc'.length ≤ 62 * (v + 1) → Ev (fun q => impl_Graph_edges.l0 q acc' n ((v : Int) + 1) n rows) R) →
    Ev (fun q => impl_Graph_edges.l1 q acc (v : Int) n (v : Int) T (T.length : Int) (i : Int) n rows) R := by
  induction d with
  | zero =>
    intro i acc e ha next
    refine Ev.step (fun k => impl_Graph_edges.l1.eq_2 ..) ?_
    simp only [if_neg (show ¬ ((i : Int) < (T.length : Int)) by omega)]
    rw [w64 (by omega) (by omega)]
    refine next acc ?_ (by omega)
    rw [List.drop_eq_nil_of_le (by omega)]; simp
  | succ d ih =>
    intro i acc e ha next
    refine Ev.step (fun k => impl_Graph_edges.l1.eq_2 ..) ?_
    simp only [if_pos (show (i : Int) < (T.length : Int) by omega), if_pos (show (0 : Int) ≤ (i : Int) by omega)]
    rw [w64 (by omega) (by omega)]
    by_cases c : rd T (i : Int) > (v : Int)
    · simp only [if_pos c, if_pos (show acc.length < 5864062014805 by omega)]
      refine ih (i + 1) _ (by omega) (by rw [List.length_append]; simp only [List.length_cons, List.length_nil]; omega) fun acc' h1 h2 => next acc' ?_ h2
      rw [h1, drop_rd T i (by omega), List.filter_cons, if_pos (by simpa using c), List.map_cons, List.append_assoc, List.singleton_append]
    · simp only [if_neg c]
      refine ih (i + 1) _ (by omega) (by omega) fun acc' h1 h2 => next acc' ?_ h2
      rw [h1, drop_rd T i (by omega), List.filter_cons, if_neg (by simpa using c)]
theorem impl_Graph_edges.ev_0 {n : Int} {rows : List Int} (g : IsG n rows) (d : Nat) : ∀ (v : Nat) (acc : List (List Int)), v + d = n.toNat → acc.length ≤ 62 * v →
    Ev (fun q => impl_Graph_edges.l0 q acc n (v : Int) n rows) (acc ++ edgesFrom rows n.toNat d v) := by
  have hn := g.le
  have h1 := g.1
  have hl := g.len
  induction d with
  | zero =>
    intro v acc e ha
    refine Ev.step (fun k => impl_Graph_edges.l0.eq_2 ..) ?_
    simp only [if_neg (show ¬ ((v : Int) < n) by omega), edgesFrom, List.append_nil]
    exact Ev.now _
  | succ d ih =>
    intro v acc e ha
    refine Ev.step (fun k => impl_Graph_edges.l0.eq_2 ..) ?_
    simp only [if_pos (show (v : Int) < n by omega), if_pos (show (0 : Int) ≤ (v : Int) by omega), if_pos (show (v : Int) < (rows.length : Int) by omega)]
    obtain ⟨x, hx, hx1⟩ := IsG_row g (v := (v : Int)) (by omega) (by omega)
    rw [hx]
    refine Ev.bind (impl_list.ev hn hx1) ?_
    have hb := bitsFrom_length (x : Int) n.toNat 0
    refine impl_Graph_edges.ev_1 v (by omega) (bitsFrom n.toNat 0 (x : Int)) (by omega) _ (bitsFrom n.toNat 0 (x : Int)).length 0 acc (by omega) (by omega) fun acc' e1 e2 => ?_
    refine ev_cast (ih (v + 1) acc' (by omega) e2) ?_
    rw [e1, edgesFrom, hx, List.drop_zero, List.append_assoc]
theorem impl_Graph_edges.ev {n : Int} {rows : List Int} (g : IsG n rows) : Ev (fun q => impl_Graph_edges.f q n rows) (edgesFrom rows n.toNat n.toNat 0) := by
  unfold impl_Graph_edges.f
  exact impl_Graph_edges.ev_0 g n.toNat 0 [] (by omega) (by simp)
/-! ### the number of edges -/
def sumF : Nat → Nat → (Nat → Nat) → Nat
  | 0, _, _ => 0
  | d + 1, i, f => f i + sumF d (i + 1) f
theorem sumF_congr {f g : Nat → Nat} (d : Nat) : ∀ {i : Nat}, (∀ j, i ≤ j → j < i + d → f j = g j) → sumF d i f = sumF d i g := by
  induction d with
  | zero => intro i _; rfl
  | succ d ih =>
    intro i h
    simp only [sumF]
    rw [h i (by omega) (by omega), ih (i := i + 1) fun j a b => h j (by omega) (by omega)]
theorem sumF_one {f g : Nat → Nat} {x : Nat} (hx : g x = f x + 1) (d : Nat) : ∀ {i : Nat}, i ≤ x → x < i + d → (∀ j, i ≤ j → j < i + d → j ≠ x → f j = g j) → sumF d i g = sumF d i f + 1 := by
  induction d with
  | zero => intro i a b; omega
  | succ d ih =>
    intro i a b h
    simp only [sumF]
    by_cases c : i = x
    · subst c
      rw [hx, sumF_congr d (f := f) (g := g) (i := i + 1) fun j p q => h j (by omega) (by omega) (by omega)]
      omega
    · rw [h i (by omega) (by omega) c, ih (i := i + 1) (by omega) (by omega) fun j p q r => h j (by omega) (by omega) r]
      omega
theorem sumF_zero {f : Nat → Nat} (d : Nat) : ∀ {i : Nat}, (∀ j, i ≤ j → j < i + d → f j = 0) → sumF d i f = 0 := by
  induction d with
  | zero => intro i _; rfl
  | succ d ih =>
    intro i h
    simp only [sumF]
    rw [h i (by omega) (by omega), ih (i := i + 1) fun j a b => h j (by omega) (by omega)]
/-- Is the edge v, w there, v the smaller end? -/
def one (rows : List Int) (v w : Nat) : Nat := if dig (rd rows (v : Int)) w = true ∧ v < w then 1 else 0
def ecnt (rows : List Int) (n : Nat) : Nat := sumF n 0 fun v => sumF n 0 (one rows v)
theorem filter_sum (rows : List Int) (v : Nat) (d : Nat) : ∀ i, ((bitsFrom d i (rd rows (v : Int))).filter fun x => decide ((v : Int) < x)).length = sumF d i (one rows v) := by
  induction d with
  | zero => intro i; rfl
  | succ d ih =>
    intro i
    simp only [bitsFrom, sumF, one]
    by_cases c : dig (rd rows (v : Int)) i = true
    · by_cases e : v < i
      · rw [if_pos c, if_pos ⟨c, e⟩, List.filter_cons, if_pos (by simp; omega), List.length_cons, ih]
        omega
      · rw [if_pos c, if_neg (fun a => e a.2), List.filter_cons, if_neg (by simp; omega), ih]
        omega
    · rw [if_neg c, if_neg (fun a => c a.1), ih]
      omega
theorem edgesFrom_length (rows : List Int) (n : Nat) (d : Nat) : ∀ v, (edgesFrom rows n d v).length = sumF d v fun v => sumF n 0 (one rows v) := by
  induction d with
  | zero => intro v; rfl
  | succ d ih =>
    intro v
    simp only [edgesFrom, sumF, List.length_append, List.length_map, filter_sum, ih]

section
variable {n : Int} {rows : List Int} (g : IsG n rows)
include g
theorem impl_Graph_part.ev_1 {S F : Nat} (hF : F < 2 ^ n.toNat) (R : Int)
    (next : ∀ N : Nat, N < 2 ^ n.toNat → (∀ j, N.testBit j = true ↔ ∃ u, u < n.toNat ∧ F.testBit u = true ∧ Adj rows u j) →
      Ev (fun q => impl_Graph_part.l0 q (Go.bits .or .i64 (S : Int) (N : Int)) (Go.bits .andNot .i64 (N : Int) (S : Int)) n rows) R) (d : Nat) :
    ∀ (i A : Nat), i + d = (bitsFrom n.toNat 0 (F : Int)).length → A < 2 ^ n.toNat →
      (∀ j, A.testBit j = true ↔ ∃ k : Nat, k < i ∧ ∃ u : Nat, rd (bitsFrom n.toNat 0 (F : Int)) (k : Int) = (u : Int) ∧ Adj rows u j) →
      Ev (fun q => impl_Graph_part.l1 q (S : Int) (A : Int) (bitsFrom n.toNat 0 (F : Int)) ((bitsFrom n.toNat 0 (F : Int)).length : Int) (i : Int) n rows) R := by
  have hn := g.le
  have hp := pow62 hn
  have hlen := bitsFrom_length (F : Int) n.toNat 0
  have hrl := g.len
  have elem : ∀ k : Nat, k < (bitsFrom n.toNat 0 (F : Int)).length → ∃ u : Nat, rd (bitsFrom n.toNat 0 (F : Int)) (k : Int) = (u : Int) ∧ u < n.toNat ∧ F.testBit u = true := fun k hk => by
    obtain ⟨u, a, _, b, c⟩ := mem_bitsFrom.1 (rd_mem (l := bitsFrom n.toNat 0 (F : Int)) (i := (k : Int)) (by omega) (by omega))
    exact ⟨u, a, by omega, by rw [← dig_nat]; exact c⟩
  induction d with
  | zero =>
    intro i A e hA hAb
    refine Ev.step (fun k => impl_Graph_part.l1.eq_2 ..) ?_
    simp only [if_neg (show ¬ ((i : Int) < ((bitsFrom n.toNat 0 (F : Int)).length : Int)) by omega)]
    refine next A hA fun j => (hAb j).trans ⟨?_, ?_⟩
    · rintro ⟨k, hk, u, hu, ha⟩
      obtain ⟨u', a, b, c⟩ := elem k (by omega)
      have : u = u' := by omega
      subst this
      exact ⟨u, b, c, ha⟩
    · rintro ⟨u, hu, hb, ha⟩
      have : (u : Int) ∈ bitsFrom n.toNat 0 (F : Int) := mem_bitsFrom.2 ⟨u, rfl, by omega, by omega, by rw [dig_nat]; exact hb⟩
      obtain ⟨k, hk, hr⟩ := mem_rd.1 this
      exact ⟨k, by omega, u, hr, ha⟩
  | succ d ih =>
    intro i A e hA hAb
    refine Ev.step (fun k => impl_Graph_part.l1.eq_2 ..) ?_
    obtain ⟨u, hu, hun, _⟩ := elem i (by omega)
    obtain ⟨x, hx, hx1⟩ := IsG_row g (v := (u : Int)) (by omega) (by omega)
    rw [hu, hx, w64 (by omega) (by omega), bit_or _ _ (by omega) (by omega)]
    simp only [if_pos (show (i : Int) < ((bitsFrom n.toNat 0 (F : Int)).length : Int) by omega), if_pos (show (0 : Int) ≤ (i : Int) by omega), if_pos (show (0 : Int) ≤ (u : Int) by omega), if_pos (show (u : Int) < (rows.length : Int) by omega)]
    refine ih (i + 1) (A ||| x) (by omega) (Nat.or_lt_two_pow hA hx1) fun j => ?_
    rw [Nat.testBit_or, Bool.or_eq_true, hAb j]
    have hxb : x.testBit j = true ↔ Adj rows u j := by unfold Adj; rw [hx, dig_nat]
    rw [hxb]
    constructor
    · rintro (⟨k, a, b⟩ | a)
      · exact ⟨k, by omega, b⟩
      · exact ⟨i, by omega, u, hu, a⟩
    · rintro ⟨k, a, u', b, c⟩
      rcases Nat.lt_succ_iff_lt_or_eq.1 a with a | rfl
      · exact .inl ⟨k, a, u', b, c⟩
      · have : u' = u := by omega
        subst this
        exact .inr c
/-- What a vertex reaches, as bits. -/
noncomputable def partOf (rows : List Int) (n v : Nat) : Nat := bsum n fun w => decide (Way rows n v w)
theorem impl_Graph_part.ev_0 {v : Nat} (hv : v < n.toNat) (d : Nat) : ∀ (S F : Nat), S < 2 ^ n.toNat → F < 2 ^ n.toNat → (∀ j, F.testBit j = true → S.testBit j = true) → S.testBit v = true → (∀ j, S.testBit j = true → Way rows n.toNat v j) →
    (∀ x y, x < n.toNat → y < n.toNat → S.testBit x = true → F.testBit x = false → Adj rows x y → S.testBit y = true) → (F = 0 ∨ 2 ^ n.toNat - S < d) →
    Ev (fun q => impl_Graph_part.l0 q (S : Int) (F : Int) n rows) ((partOf rows n.toNat v : Nat) : Int) := by
  have hn := g.le
  have hp := pow62 hn
  have done : ∀ (S : Nat), S < 2 ^ n.toNat → S.testBit v = true → (∀ j, S.testBit j = true → Way rows n.toNat v j) →
      (∀ x y, x < n.toNat → y < n.toNat → S.testBit x = true → (0 : Nat).testBit x = false → Adj rows x y → S.testBit y = true) →
      Ev (fun q => impl_Graph_part.l0 q (S : Int) ((0 : Nat) : Int) n rows) ((partOf rows n.toNat v : Nat) : Int) := by
    intro S hS h1 h2 h3
    refine Ev.step (fun k => impl_Graph_part.l0.eq_2 ..) ?_
    simp only [if_pos (show ((0 : Nat) : Int) = 0 from rfl)]
    refine ev_some ?_
    congr 1
    refine Nat.eq_of_testBit_eq fun j => ?_
    unfold partOf
    rw [bsum_bit]
    by_cases c : S.testBit j = true
    · have w := h2 j c
      rw [c, decide_eq_true (w.lt hv), decide_eq_true w]; rfl
    · have c' : S.testBit j = false := by simpa using c
      rw [c']
      by_cases jn : j < n.toNat
      · have nw : ¬ Way rows n.toNat v j := fun w => c (closed_way (P := fun j => S.testBit j = true) h1 (fun x y hx hy a b => h3 x y hx hy a (Nat.zero_testBit _) b) j w)
        rw [decide_eq_false nw, Bool.and_false]
      · rw [decide_eq_false jn, Bool.false_and]
  induction d with
  | zero =>
    intro S F hS hF h0 h1 h2 h3 h4
    have : F = 0 := by rcases h4 with h | h <;> omega
    subst this
    exact done S hS h1 h2 h3
  | succ d ih =>
    intro S F hS hF h0 h1 h2 h3 h4
    by_cases f0 : F = 0
    · subst f0; exact done S hS h1 h2 h3
    · refine Ev.step (fun k => impl_Graph_part.l0.eq_2 ..) ?_
      simp only [if_neg (show ¬ ((F : Int) = 0) by omega)]
      refine Ev.bind (impl_list.ev hn hF) ?_
      refine impl_Graph_part.ev_1 g (S := S) hF _ (fun N hN hNb => ?_) (bitsFrom n.toNat 0 (F : Int)).length 0 0 (by omega) (Nat.two_pow_pos _) (fun j => by
        rw [Nat.zero_testBit]
        exact ⟨fun a => (by cases a), fun ⟨k, a, _⟩ => by omega⟩)
      obtain ⟨G, hG, hGb⟩ := bit_andNot N S (by omega) (by omega)
      have hG1 : G < 2 ^ n.toNat := by
        refine Nat.lt_pow_two_of_testBit _ fun i hi => ?_
        rw [hGb i, Nat.testBit_lt_two_pow (Nat.lt_of_lt_of_le hN (Nat.pow_le_pow_right (by decide) hi))]; rfl
      rw [hG, bit_or _ _ (by omega) (by omega)]
      have wN : ∀ j, N.testBit j = true → Way rows n.toNat v j := fun j hj => by
        obtain ⟨u, a, b, c⟩ := (hNb j).1 hj
        have jn : j < n.toNat := by
          rcases Nat.lt_or_ge j n.toNat with x | x
          · exact x
          · rw [Nat.testBit_lt_two_pow (Nat.lt_of_lt_of_le hN (Nat.pow_le_pow_right (by decide) x))] at hj; cases hj
        exact .step (h2 u (h0 u b)) a jn c
      have hSN : S ||| N < 2 ^ n.toNat := Nat.or_lt_two_pow hS hN
      have hle : S ≤ S ||| N := Nat.left_le_or
      refine ih (S ||| N) G hSN hG1 (fun j hj => ?_) (by rw [Nat.testBit_or, h1]; rfl) (fun j hj => ?_) (fun x y hx hy a b c => ?_) ?_
      · rw [hGb j] at hj
        rw [Nat.testBit_or]
        simp only [Bool.and_eq_true] at hj
        rw [hj.1]; simp
      · rw [Nat.testBit_or, Bool.or_eq_true] at hj
        exact hj.elim (h2 j) (wN j)
      · rw [Nat.testBit_or, Bool.or_eq_true] at a ⊢
        rw [hGb x] at b
        have sx : S.testBit x = true := by
          rcases a with a | a
          · exact a
          · rw [a] at b; simpa using b
        by_cases fx : F.testBit x = true
        · exact .inr ((hNb y).2 ⟨x, hx, fx, c⟩)
        · exact .inl (h3 x y hx hy sx (by simpa using fx) c)
      · by_cases g0 : G = 0
        · exact .inl g0
        · refine .inr ?_
          have ne : S ||| N ≠ S := fun a => by
            refine g0 (Nat.eq_of_testBit_eq fun i => ?_)
            rw [hGb i, Nat.zero_testBit]
            by_cases x : N.testBit i = true
            · have : (S ||| N).testBit i = true := by rw [Nat.testBit_or, x]; simp
              rw [a] at this
              rw [x, this]; rfl
            · have : N.testBit i = false := by simpa using x
              rw [this]; rfl
          have := h4.resolve_left f0
          omega
theorem impl_Graph_part.ev (v : Nat) (hv : v < n.toNat) : Ev (fun q => impl_Graph_part.f q n rows (v : Int)) ((partOf rows n.toNat v : Nat) : Int) := by
  have hn := g.le
  have hp := pow62 hn
  unfold impl_Graph_part.f
  simp only [if_pos (show (0 : Int) ≤ (v : Int) by omega)]
  rw [shl_one (by omega) (by omega), Int.toNat_natCast]
  have hb : 2 ^ v < 2 ^ n.toNat := Nat.pow_lt_pow_right (by decide) hv
  refine impl_Graph_part.ev_0 g hv (2 ^ n.toNat + 1) (2 ^ v) (2 ^ v) hb hb (fun _ a => a) (by rw [Nat.testBit_two_pow]; simp) (fun j hj => ?_) (fun x y _ _ a b _ => ?_) (.inr (Nat.lt_succ_of_le (Nat.sub_le _ _)))
  · rw [Nat.testBit_two_pow, decide_eq_true_eq] at hj
    subst hj; exact .refl
  · rw [a] at b; cases b
end

theorem impl_all.sp {n : Int} (h0 : 0 ≤ n) (h1 : n ≤ 62) : impl_all.f n = some (((2 ^ n.toNat - 1 : Nat)) : Int) := by
  unfold impl_all.f
  have hp : 1 ≤ 2 ^ n.toNat := Nat.one_le_two_pow
  have hq := pow62 (n := n.toNat) (by omega)
  rw [if_pos h0, shl_one h0 h1]
  generalize 2 ^ n.toNat = P at *
  rw [w64 (by omega) (by omega)]
  congr 1
  omega

/-- How many numbers from i on are their own leaders. -/
def ownFrom (L : List Int) : Nat → Nat → Nat
  | 0, _ => 0
  | d + 1, i => (if rd L (i : Int) = (i : Int) then 1 else 0) + ownFrom L d (i + 1)
theorem ownFrom_le (L : List Int) (d : Nat) : ∀ i, ownFrom L d i ≤ d := by
  induction d with
  | zero => intro i; simp [ownFrom]
  | succ d ih => intro i; have := ih (i + 1); simp only [ownFrom]; split <;> omega
theorem ownFrom_zero {L : List Int} {d : Nat} : ∀ {i : Nat}, ownFrom L d i = 0 ↔ ∀ j : Nat, i ≤ j → j < i + d → rd L (j : Int) ≠ (j : Int) := by
  induction d with
  | zero => intro i; simp only [ownFrom]; exact ⟨fun _ j a b => by omega, fun _ => trivial⟩
  | succ d ih =>
    intro i
    simp only [ownFrom]
    by_cases c : rd L (i : Int) = (i : Int)
    · rw [if_pos c]
      exact ⟨fun a => by omega, fun a => absurd c (a i (by omega) (by omega))⟩
    · rw [if_neg c, Nat.zero_add, ih]
      constructor
      · intro a j x y
        by_cases e : j = i
        · rw [e]; exact c
        · exact a j (by omega) (by omega)
      · exact fun a j x y => a j (by omega) (by omega)

/-- The parts whose leaders are at least i. -/
noncomputable def partsFrom (rows : List Int) (n : Nat) (L : List Int) : Nat → Nat → List (List Int)
  | 0, _ => []
  | d + 1, i => if rd L (i : Int) = (i : Int) then bitsFrom n 0 ((partOf rows n i : Nat) : Int) :: partsFrom rows n L d (i + 1) else partsFrom rows n L d (i + 1)
theorem partsFrom_length (rows : List Int) (n : Nat) (L : List Int) (d : Nat) : ∀ i, (partsFrom rows n L d i).length = ownFrom L d i := by
  induction d with
  | zero => intro i; rfl
  | succ d ih =>
    intro i
    simp only [partsFrom, ownFrom]
    split
    · rw [List.length_cons, ih]; omega
    · rw [ih]; omega
theorem bitsFrom_skip {r : Int} (d : Nat) : ∀ {i j : Nat}, i ≤ j → j < i + d → dig r j = true → (∀ k, i ≤ k → k < j → dig r k = false) → ∃ t, bitsFrom d i r = (j : Int) :: t := by
  induction d with
  | zero => intro i j a b; omega
  | succ d ih =>
    intro i j a b c e
    by_cases h : i = j
    · subst h; exact ⟨_, by rw [bitsFrom, if_pos c]⟩
    · obtain ⟨t, ht⟩ := ih (i := i + 1) (j := j) (by omega) (by omega) c (fun k x y => e k (by omega) y)
      refine ⟨t, ?_⟩
      have := e i (by omega) (by omega)
      rw [bitsFrom, if_neg (by rw [this]; simp), ht]
theorem impl_Graph_parts.ev_l {n : Int} {rows : List Int} (g : IsG n rows) {L : List Int} (hL : Leads rows n.toNat n.toNat L) (d : Nat) : ∀ (i R : Nat) (acc : List (List Int)), i + d = n.toNat → R < 2 ^ n.toNat → acc.length ≤ i →
    (∀ w, R.testBit w = true ↔ w < n.toNat ∧ ∀ u, u < i → ¬ Way rows n.toNat u w) →
    Ev (fun q => impl_Graph_parts.l0 q acc (R : Int) n rows) (acc ++ partsFrom rows n.toNat L d i) := by
  have hn := g.le
  have hp := pow62 hn
  induction d with
  | zero =>
    intro i R acc e hR ha hb
    refine Ev.step (fun k => impl_Graph_parts.l0.eq_2 ..) ?_
    have : R = 0 := Nat.eq_of_testBit_eq fun w => by
      rw [Nat.zero_testBit]
      by_cases c : R.testBit w = true
      · obtain ⟨a, b⟩ := (hb w).1 c
        exact absurd .refl (b w (by omega))
      · simpa using c
    subst this
    simp only [if_pos (show ((0 : Nat) : Int) = 0 from rfl), partsFrom, List.append_nil]
    exact Ev.now _
  | succ d ih =>
    intro i R acc e hR ha hb
    have hi : i < n.toNat := by omega
    by_cases c : rd L (i : Int) = (i : Int)
    · -- i leads a part
      have hlead : ∀ u, u < i → ¬ Way rows n.toNat u i := by
        rcases hL.2 i hi with ⟨_, a⟩ | ⟨u, _, a, _, b⟩
        · exact absurd .refl (a i hi)
        · have : u = i := by omega
          subst this; exact b
      have hRi : R.testBit i = true := (hb i).2 ⟨hi, hlead⟩
      have R0 : R ≠ 0 := fun a => by rw [a, Nat.zero_testBit] at hRi; cases hRi
      obtain ⟨t, ht⟩ := bitsFrom_skip (r := (R : Int)) n.toNat (i := 0) (j := i) (by omega) (by omega) (by rw [dig_nat]; exact hRi) (fun k _ hk => by
        rw [dig_nat]
        by_cases x : R.testBit k = true
        · exact absurd .refl (((hb k).1 x).2 k hk)
        · simpa using x)
      refine Ev.step (fun k => impl_Graph_parts.l0.eq_2 ..) ?_
      simp only [if_neg (show ¬ ((R : Int) = 0) by omega)]
      refine Ev.bind (impl_list.ev hn hR) ?_
      rw [ht]
      have hr0 : rd ((i : Int) :: t) 0 = (i : Int) := rfl
      simp only [if_pos (show (0 : Int) < ((((i : Int) :: t).length : Nat) : Int) by simp only [List.length_cons]; omega), hr0]
      refine Ev.bind (impl_Graph_part.ev g i hi) ?_
      have hpo : partOf rows n.toNat i < 2 ^ n.toNat := bsum_lt _ _
      refine Ev.bind (impl_list.ev hn hpo) ?_
      obtain ⟨R', hR', hRb⟩ := bit_andNot R (partOf rows n.toNat i) (by omega) (by omega)
      simp only [if_pos (show acc.length < 5864062014805 by omega), hR']
      have hpb : ∀ w, (partOf rows n.toNat i).testBit w = decide (w < n.toNat ∧ Way rows n.toNat i w) := fun w => by
        unfold partOf; rw [bsum_bit, ← Bool.decide_and]
      have hR1 : R' < 2 ^ n.toNat := Nat.lt_pow_two_of_testBit _ fun w hw => by
        rw [hRb w, Nat.testBit_lt_two_pow (Nat.lt_of_lt_of_le hR (Nat.pow_le_pow_right (by decide) hw))]; rfl
      refine ev_cast (ih (i + 1) R' _ (by omega) hR1 (by rw [List.length_append]; simp only [List.length_cons, List.length_nil]; omega) fun w => ?_) ?_
      · rw [hRb w, hpb w]
        simp only [Bool.and_eq_true, Bool.not_eq_true', decide_eq_false_iff_not]
        rw [hb w]
        constructor
        · rintro ⟨⟨a, b⟩, x⟩
          refine ⟨a, fun u hu => ?_⟩
          rcases Nat.lt_succ_iff_lt_or_eq.1 hu with y | rfl
          · exact b u y
          · exact fun z => x ⟨a, z⟩
        · rintro ⟨a, b⟩
          exact ⟨⟨a, fun u hu => b u (by omega)⟩, fun x => b i (by omega) x.2⟩
      · rw [partsFrom, if_pos c, List.append_assoc, List.singleton_append]
    · rw [partsFrom, if_neg c]
      refine ih (i + 1) R acc (by omega) hR (by omega) fun w => (hb w).trans ⟨fun ⟨a, b⟩ => ⟨a, fun u hu => ?_⟩, fun ⟨a, b⟩ => ⟨a, fun u hu => b u (by omega)⟩⟩
      rcases Nat.lt_succ_iff_lt_or_eq.1 hu with y | rfl
      · exact b u y
      · intro hw
        rcases hL.2 u hi with ⟨_, x⟩ | ⟨t, t1, t2, t3, t4⟩
        · exact absurd .refl (x u hi)
        · by_cases tu : t = u
          · subst tu; exact c t2
          · have : t < u := by
              rcases Nat.lt_trichotomy t u with h | h | h
              · exact h
              · exact absurd h tu
              · exact absurd .refl (t4 u h)
            exact b t this (t3.trans hw)
noncomputable def partsL (rows : List Int) (n : Nat) : List (List Int) := partsFrom rows n (leadL rows n) n 0
theorem impl_Graph_parts.ev {n : Int} {rows : List Int} (g : IsG n rows) : Ev (fun q => impl_Graph_parts.f q n rows) (partsL rows n.toNat) := by
  have hn := g.le
  have hp := pow62 hn
  have hq := Nat.one_le_two_pow (n := n.toNat)
  unfold impl_Graph_parts.f
  rw [impl_all.sp (n := n) (by have := g.1; omega) g.2.1]
  simp only [Option.bind_some]
  have := impl_Graph_parts.ev_l g (leadL_leads rows n.toNat) n.toNat 0 (2 ^ n.toNat - 1) [] (by omega) (by omega) (by simp) (fun w => by
    rw [Nat.testBit_two_pow_sub_one, decide_eq_true_eq]
    exact ⟨fun a => ⟨a, fun u hu => by omega⟩, fun a => a.1⟩)
  rw [List.nil_append] at this
  exact this

theorem filt_ge {v : Nat} {r : Int} (d : Nat) : ∀ i, v < i → (bitsFrom d i r).filter (fun x => decide ((v : Int) < x)) = bitsFrom d i r := by
  induction d with
  | zero => intro i _; rfl
  | succ d ih =>
    intro i h
    rw [bitsFrom]
    split
    · rw [List.filter_cons, if_pos (by simp; omega), ih (i + 1) (by omega)]
    · exact ih (i + 1) (by omega)
theorem filt_lt {v : Nat} {r : Int} (d : Nat) : ∀ i, i ≤ v + 1 → v + 1 ≤ i + d → (bitsFrom d i r).filter (fun x => decide ((v : Int) < x)) = bitsFrom (i + d - (v + 1)) (v + 1) r := by
  induction d with
  | zero =>
    intro i h k
    have : i = v + 1 := by omega
    subst this
    rw [Nat.add_zero, Nat.sub_self]; rfl
  | succ d ih =>
    intro i h k
    by_cases c : i = v + 1
    · subst c
      rw [filt_ge (d + 1) (v + 1) (by omega), show v + 1 + (d + 1) - (v + 1) = d + 1 by omega]
    · have e := ih (i + 1) (by omega) (by omega)
      rw [show i + 1 + d - (v + 1) = i + (d + 1) - (v + 1) by omega] at e
      rw [bitsFrom]
      split
      · rw [List.filter_cons, if_neg (by simp; omega), e]
      · exact e
theorem edgesFrom_step {n : Int} {rows : List Int} (g : IsG n rows) {d v : Nat} (h : v < n.toNat) : edgesFrom rows n.toNat (d + 1) v = (bitsFrom (n.toNat - (v + 1)) (v + 1) (rd rows (v : Int))).map (fun x => [(v : Int), x]) ++ edgesFrom rows n.toNat d (v + 1) := by
  rw [edgesFrom, filt_lt n.toNat 0 (by omega) (by omega), Nat.zero_add]
theorem mem_edgesFrom {n : Int} {rows : List Int} (g : IsG n rows) (d : Nat) : ∀ v e, v + d = n.toNat → e ∈ edgesFrom rows n.toNat d v → ∃ a b : Nat, e = [(a : Int), (b : Int)] ∧ a < b ∧ b < n.toNat ∧ Adj rows a b := by
  induction d with
  | zero => intro v e _ h; rw [edgesFrom] at h; cases h
  | succ d ih =>
    intro v e hv h
    rw [edgesFrom_step g (by omega), List.mem_append] at h
    rcases h with h | h
    · obtain ⟨x, hx, rfl⟩ := List.mem_map.1 h
      obtain ⟨j, rfl, h1, h2, h3⟩ := mem_bitsFrom.1 hx
      exact ⟨v, j, rfl, by omega, by omega, h3⟩
    · exact ih (v + 1) e (by omega) h
theorem edgesFrom_le (rows : List Int) (n : Nat) (d : Nat) : ∀ v, (edgesFrom rows n d v).length ≤ d * n := by
  induction d with
  | zero => intro v; simp [edgesFrom]
  | succ d ih =>
    intro v
    have h1 := ih (v + 1)
    have h2 := List.length_filter_le (fun x => decide ((v : Int) < x)) (bitsFrom n 0 (rd rows (v : Int)))
    have h3 := bitsFrom_length (rd rows (v : Int)) n 0
    rw [edgesFrom, List.length_append, List.length_map, Nat.succ_mul]
    omega
theorem edge_mem {n : Int} {rows : List Int} (g : IsG n rows) {a b : Nat} (hab : a < b) (hb : b < n.toNat) (hA : Adj rows a b) : [(a : Int), (b : Int)] ∈ edgesFrom rows n.toNat n.toNat 0 := by
  have key : ∀ d v, v + d = n.toNat → v ≤ a → [(a : Int), (b : Int)] ∈ edgesFrom rows n.toNat d v := by
    intro d
    induction d with
    | zero => intro v h1 h2; omega
    | succ d ih =>
      intro v h1 h2
      rw [edgesFrom_step g (by omega), List.mem_append]
      by_cases c : v = a
      · subst c
        exact .inl (List.mem_map.2 ⟨(b : Int), mem_bitsFrom.2 ⟨b, rfl, by omega, by omega, hA⟩, rfl⟩)
      · exact .inr (ih (v + 1) (by omega) (by omega))
  exact key n.toNat 0 (by omega) (by omega)

theorem mem_rdL {T : List (List Int)} {e : List Int} : e ∈ T ↔ ∃ k : Nat, k < T.length ∧ rd_L1 T (k : Int) = e := by
  rw [List.mem_iff_getElem]
  constructor
  · rintro ⟨j, hj, e⟩; exact ⟨j, hj, by rw [← e]; simp [rd_L1, hj]⟩
  · rintro ⟨j, hj, e⟩; exact ⟨j, hj, by rw [← e]; simp [rd_L1, hj]⟩

/-- Two joined vertices that p reaches by ways of one length. -/
def BadAt (rows : List Int) (n p : Nat) : Prop := ∃ a b, a < b ∧ b < n ∧ Adj rows a b ∧ 0 ≤ rd (distL (Adj rows) n p) (a : Int) ∧ rd (distL (Adj rows) n p) (a : Int) = rd (distL (Adj rows) n p) (b : Int)
theorem bad_not {rows : List Int} {n p : Nat} (hp : p < n) (h : BadAt rows n p) : ¬ Bip rows n := by
  obtain ⟨a, b, hab, hb, hA, h0, e⟩ := h
  rcases distL_at (Adj rows) p (show a < n by omega) with ⟨x, _⟩ | ⟨d, x, y⟩
  · omega
  · rcases distL_at (Adj rows) p hb with ⟨z, _⟩ | ⟨k, z, w⟩
    · omega
    · exact not_bip hp (by omega) hb hA y.1 w.1 (by omega)
theorem edge_dist {n : Int} {rows : List Int} (g : IsG n rows) {p a b : Nat} (hp : p < n.toNat) (ha : a < n.toNat) (hb : b < n.toNat) (hA : Adj rows a b) (hW : Way rows n.toNat p a) :
    ∃ d k : Nat, rd (distL (Adj rows) n.toNat p) (a : Int) = (d : Int) ∧ rd (distL (Adj rows) n.toNat p) (b : Int) = (k : Int) ∧ k ≤ d + 1 ∧ d ≤ k + 1 := by
  obtain ⟨d0, h0⟩ := (way_wk hp).1 hW
  have hW2 : Way rows n.toNat p b := .step hW ha hb hA
  obtain ⟨k0, h1⟩ := (way_wk hp).1 hW2
  rcases distL_at (Adj rows) p ha with ⟨_, x⟩ | ⟨d, x, y⟩
  · exact absurd h0 (x d0)
  · rcases distL_at (Adj rows) p hb with ⟨_, z⟩ | ⟨k, z, w⟩
    · exact absurd h1 (z k0)
    · refine ⟨d, k, x, z, ?_, ?_⟩
      · rcases Nat.lt_or_ge (d + 1) k with c | c
        · exact absurd ⟨hb, a, ha, y.1, hA⟩ (w.2 (d + 1) c)
        · exact c
      · rcases Nat.lt_or_ge (k + 1) d with c | c
        · exact absurd ⟨ha, b, hb, w.1, (g.symm ha hb).1 hA⟩ (y.2 (k + 1) c)
        · exact c
theorem bip_of {n : Int} {rows : List Int} (g : IsG n rows) (h : ∀ p, p < n.toNat → rd (leadL rows n.toNat) (p : Int) = (p : Int) → ¬ BadAt rows n.toNat p) : Bip rows n.toNat := by
  have key : ∀ w, w < n.toNat → ∃ p, p < n.toNat ∧ rd (leadL rows n.toNat) (w : Int) = (p : Int) ∧ rd (leadL rows n.toNat) (p : Int) = (p : Int) ∧ Way rows n.toNat p w ∧ ∀ x, x < p → ¬ Way rows n.toNat x w := fun w hw => by
    rcases (leadL_leads rows n.toNat).2 w hw with ⟨_, a⟩ | ⟨u, a, b, c, e⟩
    · exact absurd .refl (a w hw)
    · exact ⟨u, a, b, (lead_self a).2 fun x hx hx2 => e x hx (hx2.trans c), c, e⟩
  refine ⟨fun w => decide (rd (distL (Adj rows) n.toNat (rd (leadL rows n.toNat) (w : Int)).toNat) (w : Int) % 2 = 0), fun u w hu hw hA hz => ?_⟩
  obtain ⟨p, hp, e1, e2, e3, e4⟩ := key u hu
  obtain ⟨q, hq, f1, f2, f3, f4⟩ := key w hw
  have pw : Way rows n.toNat p w := .step e3 hu hw hA
  have qu : Way rows n.toNat q u := .step f3 hw hu ((g.symm hu hw).1 hA)
  have pq : p = q := by
    rcases Nat.lt_trichotomy p q with x | x | x
    · exact absurd pw (f4 p x)
    · exact x
    · exact absurd qu (e4 q x)
  subst pq
  have hz := decide_eq_decide.1 hz
  rw [e1, f1, Int.toNat_natCast] at hz
  obtain ⟨d, k, h1, h2, h3, h4⟩ := edge_dist g hp hu hw hA e3
  rw [h1, h2] at hz
  have dk : d = k := by omega
  subst dk
  refine h p hp e2 ?_
  by_cases c : u < w
  · exact ⟨u, w, c, hw, hA, by omega, by rw [h1, h2]⟩
  · have uw : u ≠ w := fun z => by subst z; exact g.irrefl hu hA
    exact ⟨w, u, by omega, hu, (g.symm hu hw).1 hA, by omega, by rw [h1, h2]⟩
theorem mem_parts {rows : List Int} {n : Nat} {L : List Int} {e : List Int} (d : Nat) : ∀ i, e ∈ partsFrom rows n L d i ↔ ∃ p : Nat, i ≤ p ∧ p < i + d ∧ rd L (p : Int) = (p : Int) ∧ e = bitsFrom n 0 ((partOf rows n p : Nat) : Int) := by
  induction d with
  | zero => intro i; rw [partsFrom]; simp; intro p h1 h2; omega
  | succ d ih =>
    intro i
    rw [partsFrom]
    constructor
    · intro h
      by_cases c : rd L (i : Int) = (i : Int)
      · rw [if_pos c] at h
        rcases List.mem_cons.1 h with rfl | h
        · exact ⟨i, by omega, by omega, c, rfl⟩
        · obtain ⟨p, a, b, x, y⟩ := (ih (i + 1)).1 h
          exact ⟨p, by omega, by omega, x, y⟩
      · rw [if_neg c] at h
        obtain ⟨p, a, b, x, y⟩ := (ih (i + 1)).1 h
        exact ⟨p, by omega, by omega, x, y⟩
    · rintro ⟨p, a, b, x, y⟩
      by_cases z : p = i
      · subst z
        rw [if_pos x, y]; exact List.mem_cons_self
      · have := (ih (i + 1)).2 ⟨p, by omega, by omega, x, y⟩
        split
        · exact List.mem_cons_of_mem _ this
        · exact this
theorem part_first {n : Int} {rows : List Int} (g : IsG n rows) {p : Nat} (hp : p < n.toNat) (h : rd (leadL rows n.toNat) (p : Int) = (p : Int)) : ∃ t, bitsFrom n.toNat 0 ((partOf rows n.toNat p : Nat) : Int) = (p : Int) :: t := by
  have hl := (lead_self hp).1 h
  refine bitsFrom_skip n.toNat (by omega) (by omega) ?_ fun k _ hk => ?_
  · rw [dig_nat, partOf, bsum_bit, decide_eq_true hp, decide_eq_true (show Way rows n.toNat p p from .refl)]; rfl
  · rw [dig_nat, partOf, bsum_bit, decide_eq_false (show ¬ Way rows n.toNat p k from fun z => hl k hk (z.symm g)), Bool.and_false]
section
variable {n : Int} {rows : List Int} (g : IsG n rows)
include g
theorem impl_Graph_bipartite.ev_1 {p : Nat} (hp : p < n.toNat) {T : List (List Int)} {xn xi : Int} {b : Bool} (hb : BadAt rows n.toNat p → b = false)
    {E : List (List Int)} (hE : E.length ≤ 100000) (hel : ∀ e ∈ E, ∃ a b : Nat, e = [(a : Int), (b : Int)] ∧ a < b ∧ b < n.toNat ∧ Adj rows a b) (hall : ∀ a b : Nat, a < b → b < n.toNat → Adj rows a b → [(a : Int), (b : Int)] ∈ E)
    (next : ¬ BadAt rows n.toNat p → Ev (fun q => impl_Graph_bipartite.l0 q T xn (wrap64 (xi + 1)) n rows) b) (d : Nat) :
    ∀ i : Nat, i + d = E.length → (∀ k : Nat, k < i → ∀ a b : Nat, rd_L1 E (k : Int) = [(a : Int), (b : Int)] → ¬ (0 ≤ rd (distL (Adj rows) n.toNat p) (a : Int) ∧ rd (distL (Adj rows) n.toNat p) (a : Int) = rd (distL (Adj rows) n.toNat p) (b : Int))) →
      Ev (fun q => impl_Graph_bipartite.l1 q (distL (Adj rows) n.toNat p) T xn xi E (E.length : Int) (i : Int) n rows) b := by
  have hDl := distL_length (Adj rows) n.toNat p
  induction d with
  | zero =>
    intro i e h
    refine Ev.step (fun k => impl_Graph_bipartite.l1.eq_2 ..) ?_
    simp only [if_neg (show ¬ ((i : Int) < (E.length : Int)) by omega)]
    refine next ?_
    rintro ⟨x, y, hxy, hy, hA, h0, he⟩
    obtain ⟨k, hk, hr⟩ := mem_rdL.1 (hall x y hxy hy hA)
    exact h k (by omega) x y hr ⟨h0, he⟩
  | succ d ih =>
    intro i e h
    obtain ⟨x, y, he, hxy, hy, hA⟩ := hel (rd_L1 E (i : Int)) (mem_rdL.2 ⟨i, by omega, rfl⟩)
    have hw : wrap64 ((i : Int) + 1) = ((i + 1 : Nat) : Int) := by rw [w64 (by omega) (by omega)]; omega
    have go : ¬ (0 ≤ rd (distL (Adj rows) n.toNat p) (x : Int) ∧ rd (distL (Adj rows) n.toNat p) (x : Int) = rd (distL (Adj rows) n.toNat p) (y : Int)) → Ev (fun q => impl_Graph_bipartite.l1 q (distL (Adj rows) n.toNat p) T xn xi E (E.length : Int) ((i + 1 : Nat) : Int) n rows) b := fun z => ih (i + 1) (by omega) fun k hk u w hr => by
      rcases Nat.lt_succ_iff_lt_or_eq.1 hk with c | rfl
      · exact h k c u w hr
      · rw [he] at hr
        injection hr with h1 h2
        injection h2 with h2 _
        have : x = u := by omega
        have : y = w := by omega
        subst x y
        exact z
    refine Ev.step (fun k => impl_Graph_bipartite.l1.eq_2 ..) ?_
    simp only [if_pos (show (i : Int) < (E.length : Int) by omega), if_pos (show (0 : Int) ≤ (i : Int) by omega), he, show rd [(x : Int), (y : Int)] 0 = (x : Int) from rfl, show rd [(x : Int), (y : Int)] 1 = (y : Int) from rfl, if_pos (show (0 : Int) < (([(x : Int), (y : Int)] : List Int).length : Int) by simp), if_pos (show (1 : Int) < (([(x : Int), (y : Int)] : List Int).length : Int) by simp), if_pos (show (0 : Int) ≤ (x : Int) by omega), if_pos (show (x : Int) < ((distL (Adj rows) n.toNat p).length : Int) by omega), if_pos (show (0 : Int) ≤ (y : Int) by omega), if_pos (show (y : Int) < ((distL (Adj rows) n.toNat p).length : Int) by omega), hw]
    by_cases c : rd (distL (Adj rows) n.toNat p) (x : Int) ≥ 0
    · simp only [if_pos c]
      by_cases z : rd (distL (Adj rows) n.toNat p) (x : Int) = rd (distL (Adj rows) n.toNat p) (y : Int)
      · simp only [if_pos z]
        rw [hb ⟨x, y, hxy, hy, hA, c, z⟩]
        exact Ev.now _
      · simp only [if_neg z]
        exact go fun k => z k.2
    · simp only [if_neg c]
      exact go fun k => c k.1
theorem impl_Graph_bipartite.ev_0 {T : List (List Int)} (hT : T.length ≤ 100000) (hel : ∀ e ∈ T, ∃ (p : Nat) (t : List Int), e = (p : Int) :: t ∧ p < n.toNat) (hall : ∀ p, p < n.toNat → rd (leadL rows n.toNat) (p : Int) = (p : Int) → ∃ t, (p : Int) :: t ∈ T) (d : Nat) :
    ∀ i : Nat, i + d = T.length → (∀ k : Nat, k < i → ∀ (p : Nat) (t : List Int), rd_L1 T (k : Int) = (p : Int) :: t → ¬ BadAt rows n.toNat p) →
      Ev (fun q => impl_Graph_bipartite.l0 q T (T.length : Int) (i : Int) n rows) (decide (Bip rows n.toNat)) := by
  have hn := g.le
  induction d with
  | zero =>
    intro i e h
    refine Ev.step (fun k => impl_Graph_bipartite.l0.eq_2 ..) ?_
    simp only [if_neg (show ¬ ((i : Int) < (T.length : Int)) by omega)]
    refine ev_some (decide_eq_true (bip_of g fun p hp hl => ?_)).symm
    obtain ⟨t, ht⟩ := hall p hp hl
    obtain ⟨k, hk, hr⟩ := mem_rdL.1 ht
    exact h k (by omega) p t hr
  | succ d ih =>
    intro i e h
    obtain ⟨p, t, he, hp⟩ := hel (rd_L1 T (i : Int)) (mem_rdL.2 ⟨i, by omega, rfl⟩)
    refine Ev.step (fun k => impl_Graph_bipartite.l0.eq_2 ..) ?_
    simp only [if_pos (show (i : Int) < (T.length : Int) by omega), if_pos (show (0 : Int) ≤ (i : Int) by omega), he, show rd ((p : Int) :: t) 0 = (p : Int) from rfl, if_pos (show (0 : Int) < ((((p : Int) :: t) : List Int).length : Int) by rw [List.length_cons]; omega)]
    refine Ev.bind (impl_Graph_distances.ev g p hp) ?_
    refine Ev.bind (impl_Graph_edges.ev g) ?_
    have hEl := edgesFrom_le rows n.toNat n.toNat 0
    have := Nat.mul_le_mul hn hn
    refine impl_Graph_bipartite.ev_1 g hp (fun hB => decide_eq_false (bad_not hp hB)) (by omega) (fun e he => mem_edgesFrom g n.toNat 0 e (by omega) he) (fun a b hab hb hA => edge_mem g hab hb hA) (fun nB => ?_) _ 0 (Nat.zero_add _) (fun k hk => by omega)
    rw [show wrap64 ((i : Int) + 1) = ((i + 1 : Nat) : Int) by rw [w64 (by omega) (by omega)]; omega]
    refine ih (i + 1) (by omega) fun k hk p' t' hr => ?_
    rcases Nat.lt_succ_iff_lt_or_eq.1 hk with c | rfl
    · exact h k c p' t' hr
    · rw [he] at hr
      injection hr with h1 _
      have : p = p' := by omega
      subst this
      exact nB
theorem impl_Graph_bipartite.ev : Ev (fun q => impl_Graph_bipartite.f q n rows) (decide (Bip rows n.toNat)) := by
  have hn := g.le
  unfold impl_Graph_bipartite.f
  refine Ev.bind (impl_Graph_parts.ev g) ?_
  have hl : (partsL rows n.toNat).length ≤ n.toNat := by
    have := ownFrom_le (leadL rows n.toNat) n.toNat 0
    rw [partsL, partsFrom_length]; omega
  refine impl_Graph_bipartite.ev_0 g (by omega) (fun e he => ?_) (fun p hp hlp => ?_) _ 0 (Nat.zero_add _) (fun k hk => by omega)
  · obtain ⟨p, a, b, c, rfl⟩ := (mem_parts n.toNat 0).1 he
    obtain ⟨t, ht⟩ := part_first g (by omega) c
    exact ⟨p, t, ht, by omega⟩
  · obtain ⟨t, ht⟩ := part_first g hp hlp
    exact ⟨t, (mem_parts n.toNat 0).2 ⟨p, by omega, by omega, hlp, ht.symm⟩⟩
end

theorem impl_IsBipartite.ev (n : Int) (rows : List Int) : Ev (fun q => impl_IsBipartite.f q n rows) (bipR n rows) := by
  unfold impl_IsBipartite.f bipR
  refine Ev.bind (impl_IsGraph.ev n rows) ?_
  by_cases h : IsG n rows
  · simp only [h, decide_true, if_true]
    exact Ev.bind (impl_Graph_bipartite.ev h) (Ev.now _)
  · simp only [h, decide_false, Bool.false_eq_true, if_false]
    exact Ev.now _

end Go.Proofs.YtggbhpjakakgeaaDoor.XFnExactIsBipartite
