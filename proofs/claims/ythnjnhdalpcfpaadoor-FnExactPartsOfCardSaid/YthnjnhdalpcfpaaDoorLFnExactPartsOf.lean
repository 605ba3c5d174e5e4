/- What the functions that FnExactPartsOf reaches compute. -/
import Derived.Test.YthnjnhdalpcfpaaDoorXFnExactPartsOfx0
import Derived.Test.YthnjnhdalpcfpaaDoorXFnExactPartsOfx1
import Derived.Test.YthnjnhdalpcfpaaDoorXFnExactPartsOfx2
import Derived.Test.YthnjnhdalpcfpaaDoorXFnExactPartsOfx3
import Derived.Test.YthnjnhdalpcfpaaDoorXFnExactPartsOfx4
import Derived.Test.YthnjnhdalpcfpaaDoorXFnExactPartsOfx5
import Derived.Test.YthnjnhdalpcfpaaDoorXFnExactPartsOfx6
import Derived.Test.YthnjnhdalpcfpaaDoorXFnExactPartsOfx7
import Derived.Test.YthnjnhdalpcfpaaDoorGr
namespace Go.Proofs.YthnjnhdalpcfpaaDoor.XFnExactPartsOf
open Go.RowKit Go.Proofs.YthnjnhdalpcfpaaDoorW.PrintWords Go.Proofs.YthnjnhdalpcfpaaDoorW.PrintLast Go.Proofs.YthnjnhdalpcfpaaDoor.B
open Classical
set_option linter.unusedVariables false
set_option linter.unusedSimpArgs false
set_option linter.unusedSectionVars false

theorem laws_szInt64S.sp {l : List Int} {a : Int} (h : l.length ≤ 9223372036854775807) (ha : a ≤ 1048576) (ha0 : 0 ≤ a) :
    (laws_szInt64S.f l a = some (-1) ∧ a < l.length) ∨ (laws_szInt64S.f l a = some (a - l.length) ∧ (l.length : Int) ≤ a) := by
  unfold laws_szInt64S.f
  rw [w64 (by omega) (by omega)]
  by_cases c : a - (l.length : Int) < 0
  · rw [if_pos c]; exact .inl ⟨rfl, by omega⟩
  · rw [if_neg c]; exact .inr ⟨rfl, by omega⟩

theorem laws_szGraph.sp {n : Int} {l : List Int} {a : Int} (h : l.length ≤ 9223372036854775807) (ha : a ≤ 1048576) (ha0 : 0 ≤ a) :
    (laws_szGraph.f n l a = some (-1) ∧ a < l.length) ∨ (laws_szGraph.f n l a = some (a - l.length) ∧ (l.length : Int) ≤ a) := by
  unfold laws_szGraph.f
  rcases laws_szInt64S.sp h ha ha0 with ⟨e, c⟩ | ⟨e, c⟩
  · rw [e]; exact .inl ⟨by simp, c⟩
  · rw [e]
    refine .inr ⟨?_, c⟩
    simp only [Option.bind_some]
    rw [if_neg (by omega)]

theorem laws_toInt64S.ev_l (l : List Int) (hl : l.length ≤ 281474976710656) (d : Nat) : ∀ (i : Nat) (acc : List Int), acc.length = l.length → (∀ j, j < i → acc[j]? = l[j]?) → i + d = l.length →
    Ev (fun k => laws_toInt64S.l0 k l acc (i : Int)) l := by
  induction d with
  | zero =>
    intro i acc h1 h2 h3
    refine Ev.step (fun k => laws_toInt64S.l0.eq_2 ..) ?_
    simp only [if_neg (show ¬ ((i : Int) < (l.length : Int)) by omega)]
    refine ev_some (List.ext_getElem? fun j => ?_)
    by_cases hj : j < i
    · exact h2 j hj
    · rw [List.getElem?_eq_none (by omega), List.getElem?_eq_none (by omega)]
  | succ d ih =>
    intro i acc h1 h2 h3
    refine Ev.step (fun k => laws_toInt64S.l0.eq_2 ..) ?_
    simp only [if_pos (show (i : Int) < (l.length : Int) by omega), if_pos (show (0 : Int) ≤ (i : Int) by omega), if_pos (show (i : Int) < (acc.length : Int) by omega)]
    rw [w64 (by omega) (by omega)]
    have := ih (i + 1) (acc.set ((i : Int)).toNat (rd l i)) (by simp [h1]) (fun j hj => by
      rw [Int.toNat_natCast]
      by_cases e : i = j
      · subst e
        rw [List.getElem?_set_self (by omega), rd_get l i (by omega)]
        simp
      · rw [List.getElem?_set_ne e]
        exact h2 j (by omega)) (by omega)
    exact this
theorem laws_toInt64S.ev (l : List Int) (hl : l.length ≤ 35184372088832) : Ev (fun k => laws_toInt64S.f k l) l := by
  unfold laws_toInt64S.f
  simp only [if_pos (show (0 : Int) ≤ (l.length : Int) by omega), if_pos (show ((l.length : Int)).toNat ≤ 35184372088832 by omega)]
  exact laws_toInt64S.ev_l l (by omega) l.length 0 _ (by simp) (fun j hj => by omega) (by omega)

theorem laws_toGraph.ev (n : Int) (l : List Int) (hl : l.length ≤ 35184372088832) : Ev (fun k => laws_toGraph.f k n l) (n, l) := by
  unfold laws_toGraph.f
  exact Ev.bind (laws_toInt64S.ev l hl) (Ev.now _)

theorem laws_eqInt64S.ev_l (l : List Int) (hl : l.length ≤ 281474976710656) (d : Nat) : ∀ (i : Nat), i + d = l.length → Ev (fun k => laws_eqInt64S.l0 k l l (i : Int)) true := by
  induction d with
  | zero =>
    intro i h3
    refine Ev.step (fun k => laws_eqInt64S.l0.eq_2 ..) ?_
    simp only [if_neg (show ¬ ((i : Int) < (l.length : Int)) by omega)]
    exact Ev.now _
  | succ d ih =>
    intro i h3
    refine Ev.step (fun k => laws_eqInt64S.l0.eq_2 ..) ?_
    simp only [if_pos (show (i : Int) < (l.length : Int) by omega), if_pos (show (0 : Int) ≤ (i : Int) by omega), if_true]
    rw [w64 (by omega) (by omega)]
    exact ih (i + 1) (by omega)
theorem laws_eqInt64S.ev (l : List Int) (hl : l.length ≤ 281474976710656) : Ev (fun k => laws_eqInt64S.f k l l) true := by
  unfold laws_eqInt64S.f
  simp only [if_true]
  exact laws_eqInt64S.ev_l l hl l.length 0 (by omega)

theorem laws_eqGraph.ev (n : Int) (l : List Int) (hl : l.length ≤ 281474976710656) : Ev (fun k => laws_eqGraph.f k n l n l) true := by
  unfold laws_eqGraph.f
  simp only [if_true]
  exact Ev.bind (laws_eqInt64S.ev l hl) (Ev.now _)

/-- The marks a + i, from the place i on. -/
theorem laws_markInt64S.ev_l (n : Nat) (a : Int) (ha : 0 ≤ a) (han : a + n ≤ 4611686018427387904) (d : Nat) : ∀ (i : Nat) (l : List Int), l.length = n → i + d = n →
    ∃ m : List Int, Ev (fun k => laws_markInt64S.l0 k l (a + i) (i : Int)) (a + n, m) ∧ m.length = n ∧ (∀ j, j < i → m[j]? = l[j]?) ∧ ∀ j : Nat, i ≤ j → j < n → rd m j = a + j := by
  induction d with
  | zero =>
    intro i l h1 h3
    refine ⟨l, ?_, h1, fun _ _ => rfl, fun j h h' => by omega⟩
    refine Ev.step (fun k => laws_markInt64S.l0.eq_2 ..) ?_
    simp only [if_neg (show ¬ ((i : Int) < (l.length : Int)) by omega)]
    have : i = n := by omega
    rw [this]
    exact Ev.now _
  | succ d ih =>
    intro i l h1 h3
    obtain ⟨m, hm, h4, h5, h6⟩ := ih (i + 1) (l.set i (a + i)) (by simp [h1]) (by omega)
    refine ⟨m, ?_, h4, fun j hj => ?_, fun j hj hj' => ?_⟩
    · refine Ev.step (fun k => laws_markInt64S.l0.eq_2 ..) ?_
      simp only [if_pos (show (i : Int) < (l.length : Int) by omega), if_pos (show (0 : Int) ≤ (i : Int) by omega)]
      rw [w64 (by omega) (by omega), w64 (by omega) (by omega), Int.add_assoc, Int.toNat_natCast]
      exact hm
    · rw [h5 j (by omega), List.getElem?_set_ne (by omega)]
    · by_cases e : j = i
      · subst e
        have := h5 j (by omega)
        rw [List.getElem?_set_self (by omega)] at this
        rw [rd_nat]
        simp [this]
      · exact h6 j (by omega) hj'
theorem laws_markInt64S.ev (l : List Int) (a : Int) (ha : 0 ≤ a) (han : a + l.length ≤ 4611686018427387904) :
    ∃ m : List Int, Ev (fun k => laws_markInt64S.f k l a) (a + l.length, m) ∧ m.length = l.length ∧ ∀ j : Nat, j < l.length → rd m j = a + j := by
  obtain ⟨m, hm, h4, _, h6⟩ := laws_markInt64S.ev_l l.length a ha han l.length 0 l rfl (by omega)
  refine ⟨m, ?_, h4, fun j hj => h6 j (by omega) hj⟩
  unfold laws_markInt64S.f
  have := hm
  simp only [Int.natCast_zero, Int.add_zero] at this
  exact this

theorem laws_markGraph.ev (n : Int) (l : List Int) (a : Int) (ha : 0 ≤ a) (han : a + l.length ≤ 4611686018427387904) :
    ∃ m : List Int, Ev (fun k => laws_markGraph.f k n l a) (a + l.length, m) ∧ m.length = l.length ∧ ∀ j : Nat, j < l.length → rd m j = a + j := by
  obtain ⟨m, hm, h4, h6⟩ := laws_markInt64S.ev l a ha han
  refine ⟨m, ?_, h4, h6⟩
  unfold laws_markGraph.f
  exact Ev.bind hm (Ev.now _)

theorem laws_eqInt64SS.ev_l (l : List (List Int)) (hl : l.length ≤ 1000000) (hr : ∀ j : Nat, (rd_L1 l (j : Int)).length ≤ 1000000) (d : Nat) : ∀ (i : Nat), i + d = l.length → Ev (fun k => laws_eqInt64SS.l0 k l l (i : Int)) true := by
  induction d with
  | zero =>
    intro i h3
    refine Ev.step (fun k => laws_eqInt64SS.l0.eq_2 ..) ?_
    simp only [if_neg (show ¬ ((i : Int) < (l.length : Int)) by omega)]
    exact Ev.now _
  | succ d ih =>
    intro i h3
    have := hr i
    refine Ev.step (fun k => laws_eqInt64SS.l0.eq_2 ..) ?_
    simp only [if_pos (show (i : Int) < (l.length : Int) by omega), if_pos (show (0 : Int) ≤ (i : Int) by omega)]
    refine Ev.bind (laws_eqInt64S.ev _ (by omega)) ?_
    simp only [if_true]
    rw [w64 (by omega) (by omega)]
    exact ih (i + 1) (by omega)
theorem laws_eqInt64SS.ev (l : List (List Int)) (hl : l.length ≤ 1000000) (hr : ∀ j : Nat, (rd_L1 l (j : Int)).length ≤ 1000000) : Ev (fun k => laws_eqInt64SS.f k l l) true := by
  unfold laws_eqInt64SS.f
  simp only [if_true]
  exact laws_eqInt64SS.ev_l l hl hr l.length 0 (by omega)

theorem laws_heldInt64S.ev_l (m : List Int) (a : Int) (ha : 0 ≤ a) (han : a + m.length ≤ 4611686018427387904) (hm : ∀ j : Nat, j < m.length → rd m j = a + j) (d : Nat) :
    ∀ (i : Nat), i + d = m.length → Ev (fun k => laws_heldInt64S.l0 k m (a + i) (i : Int)) (a + m.length) := by
  induction d with
  | zero =>
    intro i h3
    refine Ev.step (fun k => laws_heldInt64S.l0.eq_2 ..) ?_
    simp only [if_neg (show ¬ ((i : Int) < (m.length : Int)) by omega)]
    have : i = m.length := by omega
    rw [this]
    exact Ev.now _
  | succ d ih =>
    intro i h3
    refine Ev.step (fun k => laws_heldInt64S.l0.eq_2 ..) ?_
    simp only [if_pos (show (i : Int) < (m.length : Int) by omega), if_pos (show (0 : Int) ≤ (i : Int) by omega), if_pos (hm i (by omega))]
    rw [w64 (by omega) (by omega), w64 (by omega) (by omega), Int.add_assoc]
    exact ih (i + 1) (by omega)
theorem laws_heldInt64S.ev (m : List Int) (a : Int) (ha : 0 ≤ a) (han : a + m.length ≤ 4611686018427387904) (hm : ∀ j : Nat, j < m.length → rd m j = a + j) :
    Ev (fun k => laws_heldInt64S.f k m a) (a + m.length) := by
  unfold laws_heldInt64S.f
  have := laws_heldInt64S.ev_l m a ha han hm m.length 0 (by omega)
  simp only [Int.natCast_zero, Int.add_zero] at this
  exact this

theorem rd_L1_set_self (l : List (List Int)) (i : Nat) (h : i < l.length) (x : List Int) : rd_L1 (l.set i x) (i : Int) = x := by simp [rd_L1, h]
theorem rd_L1_set_ne (l : List (List Int)) (i j : Nat) (h : i ≠ j) (x : List Int) : rd_L1 (l.set i x) (j : Int) = rd_L1 l (j : Int) := by
  simp [rd_L1, h]
/-- How many numbers stand in the rows before j. -/
def lenTo (l : List (List Int)) : Nat → Nat
  | 0 => 0
  | j + 1 => lenTo l j + (rd_L1 l (j : Int)).length
theorem lenTo_le {l : List (List Int)} {c : Nat} (h : ∀ j : Nat, (rd_L1 l (j : Int)).length ≤ c) (j : Nat) : lenTo l j ≤ j * c := by
  induction j with
  | zero => simp [lenTo]
  | succ j ih => have := h j; rw [lenTo, Nat.succ_mul]; omega
theorem lenTo_congr {l m : List (List Int)} {j : Nat} (h : ∀ k : Nat, k < j → (rd_L1 l (k : Int)).length = (rd_L1 m (k : Int)).length) : lenTo l j = lenTo m j := by
  induction j with
  | zero => rfl
  | succ j ih => rw [lenTo, lenTo, ih fun k hk => h k (by omega), h j (by omega)]
theorem lenTo_mono (l : List (List Int)) (d : Nat) : ∀ j, lenTo l j ≤ lenTo l (j + d) := by
  induction d with
  | zero => intro j; exact Nat.le_refl _
  | succ d ih => intro j; have := ih j; rw [← Nat.add_assoc, lenTo]; omega
/-- Marked: the rows' numbers are a, a + 1, .. one after another. -/
def Marked (a : Int) (l m : List (List Int)) : Prop := m.length = l.length ∧ ∀ j : Nat, j < l.length → (rd_L1 m (j : Int)).length = (rd_L1 l (j : Int)).length ∧ ∀ k : Nat, k < (rd_L1 m (j : Int)).length → rd (rd_L1 m (j : Int)) (k : Int) = a + lenTo l j + k

theorem laws_heldInt64SS.ev_l (l m : List (List Int)) (hM : Marked 1 l m) (hl : l.length ≤ 100000) (hr : ∀ j : Nat, (rd_L1 l (j : Int)).length ≤ 1000) (d : Nat) : ∀ (i : Nat), i + d = l.length →
    Ev (fun k => laws_heldInt64SS.l0 k m (1 + lenTo l i) (i : Int)) (1 + lenTo l l.length) := by
  have hb := lenTo_le hr
  have hml := hM.1
  induction d with
  | zero =>
    intro i h3
    have : i = l.length := by omega
    subst this
    refine Ev.step (fun k => laws_heldInt64SS.l0.eq_2 ..) ?_
    simp only [if_neg (show ¬ ((l.length : Int) < (m.length : Int)) by omega)]
    exact Ev.now _
  | succ d ih =>
    intro i h3
    have hi := hr i
    have hbi := hb i
    have := Nat.mul_le_mul (show i ≤ 100000 by omega) (Nat.le_refl 1000)
    obtain ⟨e1, e2⟩ := hM.2 i (by omega)
    refine Ev.step (fun k => laws_heldInt64SS.l0.eq_2 ..) ?_
    simp only [if_pos (show (i : Int) < (m.length : Int) by omega), if_pos (show (0 : Int) ≤ (i : Int) by omega)]
    refine Ev.bind (laws_heldInt64S.ev (rd_L1 m (i : Int)) (1 + lenTo l i) (by omega) (by omega) e2) ?_
    simp only [if_neg (show ¬ ((1 : Int) + lenTo l i + ((rd_L1 m (i : Int)).length : Int) < 0) by omega)]
    rw [w64 (n := (i : Int) + 1) (by omega) (by omega), show (1 : Int) + lenTo l i + ((rd_L1 m (i : Int)).length : Int) = 1 + ((lenTo l (i + 1) : Nat) : Int) by rw [lenTo]; omega]
    exact ih (i + 1) (by omega)
theorem laws_heldInt64SS.ev (l m : List (List Int)) (hM : Marked 1 l m) (hl : l.length ≤ 100000) (hr : ∀ j : Nat, (rd_L1 l (j : Int)).length ≤ 1000) : Ev (fun k => laws_heldInt64SS.f k m 1) (1 + lenTo l l.length) := by
  unfold laws_heldInt64SS.f
  have := laws_heldInt64SS.ev_l l m hM hl hr l.length 0 (by omega)
  simpa [lenTo] using this

theorem spec_l01In.sp (a b c : Int) : spec_l01In.f a b c = some (decide (b ≤ a ∧ a ≤ c)) := by
  unfold spec_l01In.f
  by_cases h : b ≤ a <;> simp [h]

theorem spec_l01Has.sp (n : Int) (rows : List Int) (a b : Int) (ha : 0 ≤ a) (ha1 : a < rows.length) (hb : 0 ≤ b) (hb1 : b ≤ 62) : spec_l01Has.f n rows a b = some (dig (rd rows a) b.toNat) := by
  unfold spec_l01Has.f
  rw [u64 hb (by omega), if_pos ha, if_pos ha1, if_pos hb, bit_dig hb (by omega)]

/-! spec.IsGraph -/
theorem spec_l01Is.ev_2 (n : Int) (rows : List Int) (hn1 : n ≤ 62) (hl : (rows.length : Int) = n) (v : Nat) (hv : (v : Int) < n)
    (F : Prop) (hF : Ev (fun q => spec_l01Is.l1 q ((v + 1 : Nat) : Int) n rows) (decide F)) (d : Nat) : ∀ w : Nat, w + d = v →
    Ev (fun q => spec_l01Is.l2 q (v : Int) (w : Int) n rows) (decide ((∀ k : Nat, w ≤ k → k < v → dig (rd rows v) k = dig (rd rows k) v) ∧ F)) := by
  induction d with
  | zero =>
    intro w e
    refine Ev.step (fun k => spec_l01Is.l2.eq_2 ..) ?_
    simp only [if_neg (show ¬ ((w : Int) < (v : Int)) by omega)]
    rw [w64 (by omega) (by omega)]
    refine ev_cast hF ?_
    refine dec_congr ?_
    exact ⟨fun a => ⟨scan_end (by omega), a⟩, fun a => a.2⟩
  | succ d ih =>
    intro w e
    refine Ev.step (fun k => spec_l01Is.l2.eq_2 ..) ?_
    rw [spec_l01Has.sp n rows v w (by omega) (by omega) (by omega) (by omega), spec_l01Has.sp n rows w v (by omega) (by omega) (by omega) (by omega), w64 (n := (w : Int) + 1) (by omega) (by omega)]
    simp only [if_pos (show (w : Int) < (v : Int) by omega), Option.bind_some, Int.toNat_natCast]
    by_cases c : dig (rd rows v) w = dig (rd rows w) v
    · simp only [c, bne_self_eq_false, Bool.false_eq_true, if_false]
      refine ev_cast (ih (w + 1) (by omega)) ?_
      refine dec_congr ?_
      rw [scan_step (P := fun k : Nat => dig (rd rows v) k = dig (rd rows k) v) c]
    · simp only [bne_iff_ne, ne_eq, c, not_false_eq_true, if_true]
      rw [decide_eq_false (fun a => c (a.1 w (Nat.le_refl _) (by omega)))]
      exact Ev.now _
theorem spec_l01Is.ev_1 (n : Int) (rows : List Int) (hn1 : n ≤ 62) (hl : (rows.length : Int) = n) (d : Nat) : ∀ v : Nat, v + d = rows.length →
    Ev (fun q => spec_l01Is.l1 q (v : Int) n rows) (decide (∀ k : Nat, v ≤ k → k < rows.length → ∀ w : Nat, 0 ≤ w → w < k → dig (rd rows k) w = dig (rd rows w) k)) := by
  induction d with
  | zero =>
    intro v e
    refine Ev.step (fun k => spec_l01Is.l1.eq_2 ..) ?_
    simp only [if_neg (show ¬ ((v : Int) < n) by omega)]
    rw [decide_eq_true (scan_end (by omega))]
    exact Ev.now _
  | succ d ih =>
    intro v e
    refine Ev.step (fun k => spec_l01Is.l1.eq_2 ..) ?_
    simp only [if_pos (show (v : Int) < n by omega)]
    refine ev_cast (spec_l01Is.ev_2 n rows hn1 hl v (by omega) _ (ih (v + 1) (by omega)) v 0 (by omega)) ?_
    refine dec_congr ?_
    constructor
    · rintro ⟨a1, a2⟩
      exact (scan_step (P := fun k : Nat => ∀ w : Nat, 0 ≤ w → w < k → dig (rd rows k) w = dig (rd rows w) k) (i := v) a1).2 a2
    · intro a
      exact ⟨a v (Nat.le_refl _) (by omega), fun k hk hk1 => a k (by omega) hk1⟩
theorem spec_l01Is.ev_0 (n : Int) (rows : List Int) (hn : 1 ≤ n) (hn1 : n ≤ 62) (hl : (rows.length : Int) = n) (d : Nat) : ∀ v : Nat, v + d = rows.length →
    Ev (fun q => spec_l01Is.l0 q (v : Int) n rows) (decide ((∀ k : Nat, v ≤ k → k < rows.length → 0 ≤ rd rows k ∧ rd rows k < ((2 ^ n.toNat : Nat) : Int) ∧ dig (rd rows k) k = false) ∧
      ∀ k : Nat, 0 ≤ k → k < rows.length → ∀ w : Nat, 0 ≤ w → w < k → dig (rd rows k) w = dig (rd rows w) k)) := by
  have hp : 1 ≤ 2 ^ n.toNat := Nat.one_le_two_pow
  have hq := pow62 (n := n.toNat) (by omega)
  induction d with
  | zero =>
    intro v e
    refine Ev.step (fun k => spec_l01Is.l0.eq_2 ..) ?_
    simp only [if_neg (show ¬ ((v : Int) < n) by omega)]
    refine ev_cast (spec_l01Is.ev_1 n rows hn1 hl rows.length 0 (by omega)) ?_
    refine dec_congr ?_
    exact ⟨fun a => ⟨scan_end (by omega), a⟩, fun a => a.2⟩
  | succ d ih =>
    intro v e
    refine Ev.step (fun k => spec_l01Is.l0.eq_2 ..) ?_
    rw [u64 (by omega) (by omega), shl_one (by omega) hn1, w64 (by omega) (by omega), w64 (n := (v : Int) + 1) (by omega) (by omega), spec_l01Has.sp n rows v v (by omega) (by omega) (by omega) (by omega), Int.toNat_natCast]
    simp only [if_pos (show (v : Int) < n by omega), if_pos (show (0 : Int) ≤ (v : Int) by omega), if_pos (show (v : Int) < (rows.length : Int) by omega), if_pos (show 0 ≤ n by omega), spec_l01In.sp, Option.bind_some, decide_eq_true_eq]
    by_cases c1 : 0 ≤ rd rows v ∧ rd rows v ≤ ((2 ^ n.toNat : Nat) : Int) - 1
    · simp only [if_pos c1]
      by_cases c2 : dig (rd rows v) v = true
      · simp only [if_pos c2]
        rw [decide_eq_false (fun a => by have := (a.1 v (Nat.le_refl _) (by omega)).2.2; rw [c2] at this; cases this)]
        exact Ev.now _
      · simp only [if_neg c2]
        refine ev_cast (ih (v + 1) (by omega)) ?_
        refine dec_congr ?_
        rw [scan_step (P := fun k : Nat => 0 ≤ rd rows k ∧ rd rows k < ((2 ^ n.toNat : Nat) : Int) ∧ dig (rd rows k) k = false) (i := v) ⟨c1.1, by omega, by simpa using c2⟩]
    · simp only [if_neg c1]
      rw [decide_eq_false (fun a => by have := a.1 v (Nat.le_refl _) (by omega); omega)]
      exact Ev.now _
theorem isG_iff' (n : Int) (rows : List Int) (hn : 1 ≤ n) (hn1 : n ≤ 62) (hl : (rows.length : Int) = n) :
    ((∀ k : Nat, 0 ≤ k → k < rows.length → 0 ≤ rd rows k ∧ rd rows k < ((2 ^ n.toNat : Nat) : Int) ∧ dig (rd rows k) k = false) ∧
      ∀ k : Nat, 0 ≤ k → k < rows.length → ∀ w : Nat, 0 ≤ w → w < k → dig (rd rows k) w = dig (rd rows w) k) ↔ IsG n rows := by
  constructor
  · rintro ⟨a, b⟩
    refine ⟨hn, hn1, hl, fun v hv => a v (by omega) (by omega), fun v w hv hw => ?_⟩
    rcases Nat.lt_trichotomy v w with h | h | h
    · exact (b w (by omega) (by omega) v (by omega) h).symm
    · rw [h]
    · exact b v (by omega) (by omega) w (by omega) h
  · intro a
    exact ⟨fun k _ hk => a.2.2.2.1 k (by omega), fun k _ hk w _ hw => a.2.2.2.2 k w (by omega) (by omega)⟩
theorem spec_l01Is.ev (n : Int) (rows : List Int) : Ev (fun q => spec_l01Is.f q n rows) (decide (IsG n rows)) := by
  unfold spec_l01Is.f
  simp only [spec_l01In.sp, Option.bind_some, decide_eq_true_eq]
  by_cases h1 : 1 ≤ n ∧ n ≤ 62
  · simp only [if_pos h1]
    refine Ev.step (fun k => spec_l01Is.j0.eq_2 ..) ?_
    by_cases h3 : (rows.length : Int) = n
    · simp only [h3, bne_self_eq_false, Bool.false_eq_true, if_false]
      refine ev_cast (spec_l01Is.ev_0 n rows h1.1 h1.2 h3 rows.length 0 (by omega)) ?_
      refine dec_congr ?_
      exact isG_iff' n rows h1.1 h1.2 h3
    · simp only [bne_iff_ne, ne_eq, h3, not_false_eq_true, if_true]
      rw [decide_eq_false (fun a => h3 a.2.2.1)]
      exact Ev.now _
  · simp only [if_neg h1]
    refine Ev.step (fun k => spec_l01Is.j0.eq_2 ..) ?_
    simp only [if_true]
    rw [decide_eq_false (fun a => h1 ⟨a.1, a.2.1⟩)]
    exact Ev.now _

/-! ### the set bits of a number, in order -/
theorem bits_TrailingZeros64.sp {x : Nat} (h : x < 2 ^ 63) : bits_TrailingZeros64.f (IntKind.u64.wrap (x : Int)) = some ((Lib.ctz 64 x : Nat) : Int) := by
  unfold bits_TrailingZeros64.f
  rw [u64 (by omega) (by omega), if_pos (by omega), if_pos (by omega), Int.toNat_natCast]
def bitsFrom : Nat → Nat → Int → List Int
  | 0, _, _ => []
  | d + 1, i, r => if dig r i = true then (i : Int) :: bitsFrom d (i + 1) r else bitsFrom d (i + 1) r
theorem bitsFrom_length (r : Int) (d : Nat) : ∀ i, (bitsFrom d i r).length ≤ d := by
  induction d with
  | zero => intro i; simp [bitsFrom]
  | succ d ih =>
    intro i
    have := ih (i + 1)
    simp only [bitsFrom]
    split
    · simp only [List.length_cons]; omega
    · omega
theorem mem_bitsFrom {r : Int} {d : Nat} : ∀ {i : Nat} {x : Int}, x ∈ bitsFrom d i r ↔ ∃ j : Nat, x = (j : Int) ∧ i ≤ j ∧ j < i + d ∧ dig r j = true := by
  induction d with
  | zero =>
    intro i x
    simp only [bitsFrom, List.not_mem_nil, false_iff]
    rintro ⟨j, _, a, b, _⟩; omega
  | succ d ih =>
    intro i x
    simp only [bitsFrom]
    split
    · rename_i c
      rw [List.mem_cons, ih]
      constructor
      · rintro (rfl | ⟨j, a, b, e, g⟩)
        · exact ⟨i, rfl, by omega, by omega, c⟩
        · exact ⟨j, a, by omega, by omega, g⟩
      · rintro ⟨j, a, b, e, g⟩
        by_cases h : j = i
        · exact .inl (by rw [a, h])
        · exact .inr ⟨j, a, by omega, by omega, g⟩
    · rename_i c
      rw [ih]
      constructor
      · rintro ⟨j, a, b, e, g⟩; exact ⟨j, a, by omega, by omega, g⟩
      · rintro ⟨j, a, b, e, g⟩
        refine ⟨j, a, ?_, by omega, g⟩
        rcases Nat.lt_or_ge i j with h | h
        · omega
        · exact absurd (show dig r i = true by rw [show i = j by omega]; exact g) c
theorem bitsFrom_congr {r s : Int} {d : Nat} : ∀ {i : Nat}, (∀ j, i ≤ j → j < i + d → dig r j = dig s j) → bitsFrom d i r = bitsFrom d i s := by
  induction d with
  | zero => intro i _; rfl
  | succ d ih =>
    intro i h
    simp only [bitsFrom]
    rw [h i (by omega) (by omega), ih (i := i + 1) fun j a b => h j (by omega) (by omega)]
/-- The lowest bit struck. -/
theorem low_bit {x i : Nat} (h1 : x.testBit i = true) (h0 : ∀ j, j < i → x.testBit j = false) (hx : x < 2 ^ 63) : Lib.ctz 64 x = i ∧ ∀ j, (x &&& (x - 1)).testBit j = (x.testBit j && decide (j ≠ i)) := by
  have x0 : x ≠ 0 := fun a => by rw [a] at h1; simp at h1
  obtain ⟨m, hm, hk⟩ := Lib.ctzFrom_spec 64 x (by omega) (by omega)
  have e : Lib.ctz 64 x = Lib.ctzFrom 64 x := by unfold Lib.ctz; rw [if_neg x0]
  generalize Lib.ctzFrom 64 x = k at hm hk e
  have hp := Nat.two_pow_pos k
  have ex : x = 2 ^ (k + 1) * m + 2 ^ k := by rw [hm, Nat.pow_succ, Nat.mul_add, Nat.mul_one, Nat.mul_assoc]
  have hlt : 2 ^ k < 2 ^ (k + 1) := Nat.pow_lt_pow_right (by decide) (by omega)
  have ex1 : x - 1 = 2 ^ (k + 1) * m + (2 ^ k - 1) := by rw [ex]; omega
  have b : ∀ j, x.testBit j = if j < k + 1 then decide (k = j) else m.testBit (j - (k + 1)) := fun j => by
    rw [ex, Nat.testBit_two_pow_mul_add _ hlt, Nat.testBit_two_pow]
  have b1 : ∀ j, (x - 1).testBit j = if j < k + 1 then decide (j < k) else m.testBit (j - (k + 1)) := fun j => by
    rw [ex1, Nat.testBit_two_pow_mul_add _ (by omega), Nat.testBit_two_pow_sub_one]
  have ik : k = i := by
    rcases Nat.lt_trichotomy k i with h | h | h
    · have := h0 k h
      rw [b k, if_pos (by omega)] at this
      simp at this
    · exact h
    · have := h1
      rw [b i, if_pos (by omega)] at this
      simp at this
      omega
  subst ik
  refine ⟨e, fun j => ?_⟩
  rw [Nat.testBit_and, b j, b1 j]
  by_cases c : j < k + 1
  · rw [if_pos c, if_pos c]
    by_cases d : k = j
    · subst d; simp
    · simp [d]
  · rw [if_neg c, if_neg c]
    have : j ≠ k := by omega
    simp [this]

theorem spec_l01Neighbours.ev_l (n : Int) (rows : List Int) (v : Int) (h0 : 0 ≤ v) (h1 : v < rows.length) (hn : n ≤ 62) (d : Nat) : ∀ (i : Nat) (acc : List Int), (i : Int) + d = n → acc.length ≤ i →
    Ev (fun q => spec_l01Neighbours.l0 q v acc (i : Int) n rows) (acc ++ bitsFrom d i (rd rows v)) := by
  induction d with
  | zero =>
    intro i acc e ha
    refine Ev.step (fun k => spec_l01Neighbours.l0.eq_2 ..) ?_
    simp only [if_neg (show ¬ ((i : Int) < n) by omega), bitsFrom, List.append_nil]
    exact Ev.now _
  | succ d ih =>
    intro i acc e ha
    refine Ev.step (fun k => spec_l01Neighbours.l0.eq_2 ..) ?_
    simp only [if_pos (show (i : Int) < n by omega), spec_l01Has.sp n rows v (i : Int) h0 h1 (by omega) (by omega), Option.bind_some, Int.toNat_natCast]
    rw [w64 (by omega) (by omega)]
    by_cases c : dig (rd rows v) i = true
    · simp only [if_pos c, if_pos (show acc.length < 17592186044416 by omega), bitsFrom]
      refine ev_cast (ih (i + 1) (acc ++ [(i : Int)]) (by omega) (by rw [List.length_append]; simp only [List.length_cons, List.length_nil]; omega)) ?_
      rw [List.append_assoc, List.singleton_append]
    · simp only [if_neg c, bitsFrom]
      exact ih (i + 1) acc (by omega) (by omega)
theorem spec_l01Neighbours.ev (n : Int) (rows : List Int) (v : Int) (h0 : 0 ≤ v) (h1 : v < rows.length) (hn0 : 0 ≤ n) (hn : n ≤ 62) : Ev (fun q => spec_l01Neighbours.f q n rows v) (bitsFrom n.toNat 0 (rd rows v)) := by
  unfold spec_l01Neighbours.f
  exact spec_l01Neighbours.ev_l n rows v h0 h1 hn n.toNat 0 [] (by omega) (by simp)

/-! ### ways in a graph -/
inductive Way (rows : List Int) (n : Nat) (u : Nat) : Nat → Prop
  | refl : Way rows n u u
  | step {v w : Nat} : Way rows n u v → v < n → w < n → Adj rows v w → Way rows n u w
theorem Way.lt {rows : List Int} {n u w : Nat} (h : Way rows n u w) (hu : u < n) : w < n := by
  cases h with
  | refl => exact hu
  | step _ _ b _ => exact b
theorem Way.trans {rows : List Int} {n u v w : Nat} (h : Way rows n u v) (k : Way rows n v w) : Way rows n u w := by
  induction k with
  | refl => exact h
  | step _ a b c ih => exact .step ih a b c
theorem Way.symm {rows : List Int} {n : Int} (g : IsG n rows) {u v : Nat} (h : Way rows n.toNat u v) : Way rows n.toNat v u := by
  induction h with
  | refl => exact .refl
  | step _ a b c ih => exact (Way.step .refl b a ((g.symm a b).1 c)).trans ih
theorem IsG_row {n : Int} {rows : List Int} (h : IsG n rows) {v : Int} (h0 : 0 ≤ v) (h1 : v < n) : ∃ x : Nat, rd rows v = (x : Int) ∧ x < 2 ^ n.toNat := by
  obtain ⟨u, rfl⟩ := Int.eq_ofNat_of_zero_le h0
  obtain ⟨a, b, _⟩ := h.2.2.2.1 u h1
  obtain ⟨x, hx⟩ := Int.eq_ofNat_of_zero_le a
  exact ⟨x, hx, by rw [hx] at b; exact_mod_cast b⟩
/-- A set that holds v, is closed, and holds none but what v reaches, is what v reaches. -/
theorem closed_way {rows : List Int} {n v : Nat} {P : Nat → Prop} (h0 : P v) (h1 : ∀ x y, x < n → y < n → P x → Adj rows x y → P y) : ∀ w, Way rows n v w → P w := by
  intro w h
  induction h with
  | refl => exact h0
  | step _ a b c ih => exact h1 _ _ a b ih c

/-- The leaders of the parts that hold a vertex before v; -1 elsewhere. -/
def Leads (rows : List Int) (n v : Nat) (L : List Int) : Prop := L.length = n ∧ ∀ w, w < n → (rd L (w : Int) = -1 ∧ ∀ u, u < v → ¬ Way rows n u w) ∨ ∃ u, u < v ∧ rd L (w : Int) = (u : Int) ∧ Way rows n u w ∧ ∀ x, x < u → ¬ Way rows n x w
/-- Within the search from v, over the leaders L0: the queue Q. -/
structure Srch (rows : List Int) (n v : Nat) (L0 L Q : List Int) : Prop where
  len : L.length = n
  elem : ∀ x ∈ Q, ∃ u : Nat, x = (u : Int) ∧ u < n ∧ Way rows n v u
  inq : ∀ w, w < n → (w : Int) ∈ Q → rd L (w : Int) = (v : Int)
  out : ∀ w, w < n → (w : Int) ∉ Q → rd L (w : Int) = rd L0 (w : Int)
  first : (v : Int) ∈ Q
  size : Q.length + L.countP (fun x => decide (x < 0)) ≤ n
def Clsd (rows : List Int) (n : Nat) (Q : List Int) (i : Nat) : Prop := ∀ k, k < i → ∀ u : Nat, rd Q (k : Int) = (u : Int) → ∀ y, y < n → Adj rows u y → (y : Int) ∈ Q
theorem rd_append {l m : List Int} {k : Nat} (h : k < l.length) : rd (l ++ m) (k : Int) = rd l (k : Int) := by
  rw [rd_nat, rd_nat, List.getD_eq_getElem?_getD, List.getD_eq_getElem?_getD, List.getElem?_append_left h]
section
variable {n : Int} {rows : List Int} (g : IsG n rows) {v : Nat} (hv : v < n.toNat) {L0 : List Int} (hL0 : Leads rows n.toNat v L0) (hv0 : ∀ u, u < v → ¬ Way rows n.toNat u v)
include g hv hL0 hv0
theorem fresh {w : Nat} (hw : w < n.toNat) (hW : Way rows n.toNat v w) : rd L0 (w : Int) = -1 := by
  rcases hL0.2 w hw with a | ⟨u, a, _, b, _⟩
  · exact a.1
  · exact absurd (b.trans (hW.symm g)) (hv0 u a)
theorem spec_l01Leaders.ev_3 {a : Nat} (ha : a < n.toNat) (hWa : Way rows n.toNat v a) {i : Nat} (R : List Int)
    (next : ∀ L Q, Srch rows n.toNat v L0 L Q → i + 1 ≤ Q.length → Clsd rows n.toNat Q (i + 1) → Ev (fun q => spec_l01Leaders.l2 q L (v : Int) Q ((i : Int) + 1) n rows) R) (d : Nat) :
    ∀ (j : Nat) (L Q : List Int), j + d = (bitsFrom n.toNat 0 (rd rows (a : Int))).length → Srch rows n.toNat v L0 L Q → i < Q.length → rd Q (i : Int) = (a : Int) → Clsd rows n.toNat Q i →
      (∀ k : Nat, k < j → rd (bitsFrom n.toNat 0 (rd rows (a : Int))) (k : Int) ∈ Q) →
      Ev (fun q => spec_l01Leaders.l3 q L (v : Int) Q (i : Int) (bitsFrom n.toNat 0 (rd rows (a : Int))) (j : Int) n rows) R := by
  have hn := g.le
  have hlen := bitsFrom_length (rd rows (a : Int)) n.toNat 0
  induction d with
  | zero =>
    intro j L Q e hS hi hQi hC hj
    refine Ev.step (fun k => spec_l01Leaders.l3.eq_2 ..) ?_
    have hq := hS.size
    simp only [if_neg (show ¬ ((j : Int) < ((bitsFrom n.toNat 0 (rd rows (a : Int))).length : Int)) by omega)]
    rw [w64 (by omega) (by omega)]
    refine next L Q hS (by omega) fun k hk u hu y hy hA => ?_
    rcases Nat.lt_succ_iff_lt_or_eq.1 hk with x | rfl
    · exact hC k x u hu y hy hA
    · have ua : u = a := by omega
      subst ua
      have : (y : Int) ∈ bitsFrom n.toNat 0 (rd rows (u : Int)) := mem_bitsFrom.2 ⟨y, rfl, by omega, by omega, hA⟩
      obtain ⟨k, hk, hr⟩ := mem_rd.1 this
      rw [← hr]
      exact hj k (by omega)
  | succ d ih =>
    intro j L Q e hS hi hQi hC hj
    refine Ev.step (fun k => spec_l01Leaders.l3.eq_2 ..) ?_
    have hq := hS.size
    obtain ⟨y, hy, _, hyn, hyA⟩ := mem_bitsFrom.1 (rd_mem (l := bitsFrom n.toNat 0 (rd rows (a : Int))) (i := (j : Int)) (by omega) (by omega))
    have hyn' : y < n.toNat := by omega
    have hWy : Way rows n.toNat v y := .step hWa ha hyn' hyA
    have hLl := hS.len
    rw [hy, w64 (by omega) (by omega)]
    simp only [if_pos (show (j : Int) < ((bitsFrom n.toNat 0 (rd rows (a : Int))).length : Int) by omega), if_pos (show (0 : Int) ≤ (j : Int) by omega), if_pos (show (0 : Int) ≤ (y : Int) by omega), if_pos (show (y : Int) < (L.length : Int) by omega)]
    by_cases c : (y : Int) ∈ Q
    · have := hS.inq y hyn' c
      simp only [if_neg (show ¬ (rd L (y : Int) < 0) by omega)]
      refine ih (j + 1) L Q (by omega) hS hi hQi hC fun k hk => ?_
      rcases Nat.lt_succ_iff_lt_or_eq.1 hk with x | rfl
      · exact hj k x
      · rw [hy]; exact c
    · have f := hS.out y hyn' c
      rw [fresh g hv hL0 hv0 hyn' hWy] at f
      simp only [if_pos (show rd L (y : Int) < 0 by omega), if_pos (show Q.length < 17592186044416 by omega), Int.toNat_natCast]
      have hyl : y < L.length := by omega
      refine ih (j + 1) (L.set y (v : Int)) (Q ++ [(y : Int)]) (by omega) ⟨by rw [List.length_set]; exact hLl, fun x hx => ?_, fun w hw hm => ?_, fun w hw hm => ?_, List.mem_append_left _ hS.first, ?_⟩ (by rw [List.length_append]; omega) (by rw [rd_append hi]; exact hQi) (fun k hk u hu z hz hA => ?_) fun k hk => ?_
      · rcases List.mem_append.1 hx with x1 | x1
        · exact hS.elem x x1
        · exact ⟨y, by simpa using x1, hyn', hWy⟩
      · by_cases wy : w = y
        · subst wy; exact rd_set_self _ _ hyl _
        · rw [rd_set_ne _ _ _ (fun a => wy a.symm)]
          rcases List.mem_append.1 hm with x1 | x1
          · exact hS.inq w hw x1
          · exact absurd (by simpa using x1 : (w : Int) = y) (by omega)
      · have wy : w ≠ y := fun a => hm (by rw [a]; simp)
        rw [rd_set_ne _ _ _ (fun a => wy a.symm)]
        exact hS.out w hw fun a => hm (List.mem_append_left _ a)
      · rw [List.countP_set hyl, List.length_append]
        have ly : L[y] = -1 := by rw [← rd_get L y hyl]; exact f
        have cp : 1 ≤ L.countP (fun x => decide (x < 0)) := List.countP_pos_iff.2 ⟨L[y], List.getElem_mem hyl, by rw [ly]; rfl⟩
        rw [ly]
        simp only [List.length_cons, List.length_nil]
        rw [if_pos (by decide), if_neg (by simp)]
        omega
      · rw [rd_append (by omega)] at hu
        exact List.mem_append_left _ (hC k hk u hu z hz hA)
      · rcases Nat.lt_succ_iff_lt_or_eq.1 hk with x | rfl
        · exact List.mem_append_left _ (hj k x)
        · rw [hy]; simp
theorem spec_l01Leaders.ev_2 (R : List Int) (next : ∀ L, Leads rows n.toNat (v + 1) L → Ev (fun q => spec_l01Leaders.l1 q L ((v : Int) + 1) n rows) R) (d : Nat) :
    ∀ (i : Nat) (L Q : List Int), n.toNat ≤ i + d → Srch rows n.toNat v L0 L Q → i ≤ Q.length → Clsd rows n.toNat Q i → Ev (fun q => spec_l01Leaders.l2 q L (v : Int) Q (i : Int) n rows) R := by
  have hn := g.le
  have done : ∀ (L Q : List Int), Srch rows n.toNat v L0 L Q → Clsd rows n.toNat Q Q.length → Ev (fun q => spec_l01Leaders.l2 q L (v : Int) Q (Q.length : Int) n rows) R := by
    intro L Q hS hC
    refine Ev.step (fun k => spec_l01Leaders.l2.eq_2 ..) ?_
    simp only [if_neg (show ¬ ((Q.length : Int) < (Q.length : Int)) by omega)]
    rw [w64 (by omega) (by omega)]
    have inQ : ∀ w, Way rows n.toNat v w → (w : Int) ∈ Q := closed_way (P := fun w => (w : Int) ∈ Q) hS.first fun x y hx hy a b => by
      obtain ⟨k, hk, hr⟩ := mem_rd.1 a
      exact hC k hk x hr y hy b
    refine next L ⟨hS.len, fun w hw => ?_⟩
    by_cases c : (w : Int) ∈ Q
    · obtain ⟨u, hu, _, hW⟩ := hS.elem _ c
      have : u = w := by omega
      subst this
      exact .inr ⟨v, by omega, hS.inq u hw c, hW, fun x hx a => hv0 x hx (a.trans (hW.symm g))⟩
    · rw [hS.out w hw c]
      rcases hL0.2 w hw with ⟨a, b⟩ | ⟨u, a, b⟩
      · refine .inl ⟨a, fun u hu => ?_⟩
        rcases Nat.lt_succ_iff_lt_or_eq.1 hu with x | rfl
        · exact b u x
        · exact fun x => c (inQ w x)
      · exact .inr ⟨u, by omega, b⟩
  induction d with
  | zero =>
    intro i L Q e hS hi hC
    have := hS.size
    have : i = Q.length := by omega
    subst this
    exact done L Q hS hC
  | succ d ih =>
    intro i L Q e hS hi hC
    by_cases c : i = Q.length
    · subst c; exact done L Q hS hC
    · have hsz := hS.size
      have hrl := g.len
      refine Ev.step (fun k => spec_l01Leaders.l2.eq_2 ..) ?_
      simp only [if_pos (show (i : Int) < (Q.length : Int) by omega), if_pos (show (0 : Int) ≤ (i : Int) by omega)]
      obtain ⟨a, ha, han, hWa⟩ := hS.elem _ (rd_mem (l := Q) (i := (i : Int)) (by omega) (by omega))
      rw [ha]
      refine Ev.bind (spec_l01Neighbours.ev n rows (a : Int) (by omega) (by omega) (by have := g.1; omega) g.2.1) ?_
      refine spec_l01Leaders.ev_3 g hv hL0 hv0 han hWa R (fun L' Q' hS' hi' hC' => ?_) (bitsFrom n.toNat 0 (rd rows (a : Int))).length 0 L Q (by omega) hS (by omega) ha hC (fun k hk => by omega)
      exact ih (i + 1) L' Q' (by omega) hS' hi' hC'
end
/-- The least number of P from i on, at most i + d. -/
noncomputable def leastF (P : Nat → Prop) : Nat → Nat → Nat
  | 0, i => i
  | d + 1, i => if P i then i else leastF P d (i + 1)
theorem leastF_at {P : Nat → Prop} (d : Nat) : ∀ i, (∃ x, i ≤ x ∧ x < i + d ∧ P x) → P (leastF P d i) ∧ i ≤ leastF P d i ∧ leastF P d i < i + d ∧ ∀ x, i ≤ x → x < leastF P d i → ¬ P x := by
  induction d with
  | zero => rintro i ⟨x, a, b, _⟩; omega
  | succ d ih =>
    rintro i ⟨x, a, b, c⟩
    simp only [leastF]
    by_cases h : P i
    · rw [if_pos h]; exact ⟨h, by omega, by omega, fun x a b => by omega⟩
    · rw [if_neg h]
      have : x ≠ i := fun e => h (e ▸ c)
      obtain ⟨h1, h2, h3, h4⟩ := ih (i + 1) ⟨x, by omega, by omega, c⟩
      refine ⟨h1, by omega, by omega, fun y a b => ?_⟩
      by_cases e : y = i
      · subst e; exact h
      · exact h4 y (by omega) b
noncomputable def leadL (rows : List Int) (n : Nat) : List Int := (List.range n).map fun w => ((leastF (fun u => Way rows n u w) n 0 : Nat) : Int)
theorem leadL_leads (rows : List Int) (n : Nat) : Leads rows n n (leadL rows n) := by
  refine ⟨by simp [leadL], fun w hw => .inr ?_⟩
  obtain ⟨h1, h2, h3, h4⟩ := leastF_at (P := fun u => Way rows n u w) n 0 ⟨w, by omega, by omega, .refl⟩
  refine ⟨_, by omega, ?_, h1, fun x hx => h4 x (by omega) hx⟩
  rw [rd_nat]
  simp [leadL, hw]
theorem leads_uniq {rows : List Int} {n : Nat} {A B : List Int} (hA : Leads rows n n A) (hB : Leads rows n n B) : A = B := by
  refine list_ext_rd (by rw [hA.1, hB.1]) fun w hw => ?_
  have hw' : w < n := by rw [← hA.1]; exact hw
  rcases hA.2 w hw' with ⟨_, a2⟩ | ⟨u, a1, a2, a3, a4⟩
  · exact absurd .refl (a2 w hw')
  · rcases hB.2 w hw' with ⟨_, b2⟩ | ⟨x, b1, b2, b3, b4⟩
    · exact absurd .refl (b2 w hw')
    · have : u = x := by
        rcases Nat.lt_trichotomy u x with h | h | h
        · exact absurd a3 (b4 u h)
        · exact h
        · exact absurd b3 (a4 x h)
      rw [a2, b2, this]
theorem spec_l01Leaders.ev_1 {n : Int} {rows : List Int} (g : IsG n rows) (d : Nat) : ∀ (v : Nat) (L : List Int), v + d = n.toNat → Leads rows n.toNat v L → Ev (fun q => spec_l01Leaders.l1 q L (v : Int) n rows) (leadL rows n.toNat) := by
  have hn := g.le
  have h1 := g.1
  induction d with
  | zero =>
    intro v L e hL
    have : v = n.toNat := by omega
    subst this
    refine Ev.step (fun k => spec_l01Leaders.l1.eq_2 ..) ?_
    simp only [if_neg (show ¬ ((n.toNat : Int) < n) by omega)]
    exact ev_some (leads_uniq hL (leadL_leads rows n.toNat))
  | succ d ih =>
    intro v L e hL
    have hLl := hL.1
    have hv : v < n.toNat := by omega
    refine Ev.step (fun k => spec_l01Leaders.l1.eq_2 ..) ?_
    simp only [if_pos (show (v : Int) < n by omega), if_pos (show (0 : Int) ≤ (v : Int) by omega), if_pos (show (v : Int) < (L.length : Int) by omega), Int.toNat_natCast]
    rw [w64 (by omega) (by omega)]
    rcases hL.2 v hv with ⟨a, b⟩ | ⟨u, a, b, c, _⟩
    · simp only [if_neg (show ¬ (rd L (v : Int) ≥ 0) by omega)]
      have hvl : v < L.length := by omega
      refine spec_l01Leaders.ev_2 g hv hL b _ (fun L' h' => ih (v + 1) L' (by omega) h') n.toNat 0 (L.set v (v : Int)) [(v : Int)] (by omega) ⟨by rw [List.length_set]; exact hLl, fun x hx => ⟨v, by simpa using hx, hv, .refl⟩, fun w hw hm => ?_, fun w hw hm => ?_, by simp, ?_⟩ (by simp) (fun k hk => by omega)
      · have : (w : Int) = v := by simpa using hm
        have : w = v := by omega
        subst this; exact rd_set_self _ _ hvl _
      · rw [rd_set_ne _ _ _ (fun a => hm (by rw [a]; simp))]
      · rw [List.countP_set hvl]
        have ly : L[v] = -1 := by rw [← rd_get L v hvl]; exact a
        have cp : 1 ≤ L.countP (fun x => decide (x < 0)) := List.countP_pos_iff.2 ⟨L[v], List.getElem_mem hvl, by rw [ly]; rfl⟩
        have cl := List.countP_le_length (p := fun x : Int => decide (x < 0)) (l := L)
        rw [ly, if_pos (by decide), if_neg (by simp)]
        simp only [List.length_cons, List.length_nil]
        omega
    · simp only [if_pos (show rd L (v : Int) ≥ 0 by omega)]
      refine ih (v + 1) L (by omega) ⟨hLl, fun w hw => ?_⟩
      rcases hL.2 w hw with ⟨x, y⟩ | ⟨x, y, z⟩
      · refine .inl ⟨x, fun t ht => ?_⟩
        rcases Nat.lt_succ_iff_lt_or_eq.1 ht with s | rfl
        · exact y t s
        · exact fun s => y u a (c.trans s)
      · exact .inr ⟨x, by omega, z⟩
theorem spec_l01Leaders.ev_0 {n : Int} {rows : List Int} (g : IsG n rows) (d : Nat) : ∀ (v : Nat), v + d = n.toNat → Ev (fun q => spec_l01Leaders.l0 q (List.replicate v (-1)) (v : Int) n rows) (leadL rows n.toNat) := by
  have hn := g.le
  have h1 := g.1
  induction d with
  | zero =>
    intro v e
    have : v = n.toNat := by omega
    subst this
    refine Ev.step (fun k => spec_l01Leaders.l0.eq_2 ..) ?_
    simp only [if_neg (show ¬ ((n.toNat : Int) < n) by omega)]
    refine spec_l01Leaders.ev_1 g n.toNat 0 _ (by omega) ⟨List.length_replicate .., fun w hw => .inl ⟨?_, fun u hu => by omega⟩⟩
    rw [rd_nat]; simp [hw]
  | succ d ih =>
    intro v e
    refine Ev.step (fun k => spec_l01Leaders.l0.eq_2 ..) ?_
    simp only [if_pos (show (v : Int) < n by omega), List.length_replicate, if_pos (show v < 17592186044416 by omega)]
    rw [w64 (by omega) (by omega), ← List.replicate_succ']
    exact ih (v + 1) (by omega)
theorem spec_l01Leaders.ev {n : Int} {rows : List Int} (g : IsG n rows) : Ev (fun q => spec_l01Leaders.f q n rows) (leadL rows n.toNat) := by
  unfold spec_l01Leaders.f
  exact spec_l01Leaders.ev_0 g n.toNat 0 (by omega)

theorem impl_list.ev_l (n : Nat) (hn : n ≤ 62) (d : Nat) : ∀ (i x : Nat) (acc : List Int), i + d = n → x < 2 ^ n → acc.length ≤ i → (∀ j, j < i → x.testBit j = false) →
    Ev (fun q => impl_list.l0 q (x : Int) acc) (acc ++ bitsFrom d i (x : Int)) := by
  have hp := pow62 hn
  induction d with
  | zero =>
    intro i x acc e hx ha h
    have x0 : x = 0 := by
      refine Nat.eq_of_testBit_eq fun j => ?_
      rw [Nat.zero_testBit]
      rcases Nat.lt_or_ge j n with c | c
      · exact h j (by omega)
      · exact Nat.testBit_lt_two_pow (Nat.lt_of_lt_of_le hx (Nat.pow_le_pow_right (by decide) c))
    refine Ev.step (fun k => impl_list.l0.eq_2 ..) ?_
    rw [x0]
    simp only [if_pos (show ((0 : Nat) : Int) = 0 from rfl), bitsFrom, List.append_nil]
    exact Ev.now _
  | succ d ih =>
    intro i x acc e hx ha h
    by_cases c : x.testBit i = true
    · obtain ⟨h1, h2⟩ := low_bit c h (by omega)
      have x0 : x ≠ 0 := fun a => by rw [a] at c; simp at c
      refine Ev.step (fun k => impl_list.l0.eq_2 ..) ?_
      rw [bits_TrailingZeros64.sp (by omega), h1, w64 (by omega) (by omega), show (x : Int) - 1 = ((x - 1 : Nat) : Int) by omega, bit_and _ _ (by omega) (by omega)]
      simp only [if_neg (show ¬ ((x : Int) = 0) by omega), Option.bind_some, if_pos (show acc.length < 17592186044416 by omega)]
      have := ih (i + 1) (x &&& (x - 1)) (acc ++ [(i : Int)]) (by omega) (Nat.lt_of_le_of_lt Nat.and_le_left hx) (by rw [List.length_append]; simp only [List.length_cons, List.length_nil]; omega) (fun j hj => by
        rw [h2 j]
        rcases Nat.lt_succ_iff_lt_or_eq.1 hj with a | rfl
        · rw [h j a]; rfl
        · simp)
      refine ev_cast this ?_
      have cd : dig (x : Int) i = true := by rw [dig_nat]; exact c
      simp only [bitsFrom, if_pos cd, List.append_assoc, List.singleton_append]
      rw [bitsFrom_congr fun j a b => ?_]
      rw [dig_nat, dig_nat, h2 j]
      simp [show j ≠ i by omega]
    · have cd : ¬ dig (x : Int) i = true := by rw [dig_nat]; exact c
      simp only [bitsFrom, if_neg cd]
      refine ih (i + 1) x acc (by omega) hx (by omega) fun j hj => ?_
      rcases Nat.lt_succ_iff_lt_or_eq.1 hj with a | rfl
      · exact h j a
      · simpa using c
theorem impl_list.ev {n : Nat} (hn : n ≤ 62) {x : Nat} (hx : x < 2 ^ n) : Ev (fun q => impl_list.f q (x : Int)) (bitsFrom n 0 (x : Int)) := by
  unfold impl_list.f
  exact impl_list.ev_l n hn n 0 x [] (by omega) hx (by simp) (fun j hj => by omega)

section
variable {n : Int} {rows : List Int} (g : IsG n rows)
include g
theorem impl_Graph_part.ev_1 {S F : Nat} (hF : F < 2 ^ n.toNat) (R : Int)
    (next : ∀ N : Nat, N < 2 ^ n.toNat → (∀ j, N.testBit j = true ↔ ∃ u, u < n.toNat ∧ F.testBit u = true ∧ Adj rows u j) →
      Ev (fun q => impl_Graph_part.l0 q (Go.bits .or .i64 (S : Int) (N : Int)) (Go.bits .andNot .i64 (N : Int) (S : Int)) n rows) R) (d : Nat) :
    ∀ (i A : Nat), i + d = (bitsFrom n.toNat 0 (F : Int)).length → A < 2 ^ n.toNat →
      (∀ j, A.testBit j = true ↔ ∃ k : Nat, k < i ∧ ∃ u : Nat, rd (bitsFrom n.toNat 0 (F : Int)) (k : Int) = (u : Int) ∧ Adj rows u j) →
      Ev (fun q => impl_Graph_part.l1 q (S : Int) (A : Int) (bitsFrom n.toNat 0 (F : Int)) ((bitsFrom n.toNat 0 (F : Int)).length : Int) (i : Int) n rows) R := by
  have hn := g.le
  have hp := pow62 hn
  have hlen := bitsFrom_length (F : Int) n.toNat 0
  have hrl := g.len
  have elem : ∀ k : Nat, k < (bitsFrom n.toNat 0 (F : Int)).length → ∃ u : Nat, rd (bitsFrom n.toNat 0 (F : Int)) (k : Int) = (u : Int) ∧ u < n.toNat ∧ F.testBit u = true := fun k hk => by
    obtain ⟨u, a, _, b, c⟩ := mem_bitsFrom.1 (rd_mem (l := bitsFrom n.toNat 0 (F : Int)) (i := (k : Int)) (by omega) (by omega))
    exact ⟨u, a, by omega, by rw [← dig_nat]; exact c⟩
  induction d with
  | zero =>
    intro i A e hA hAb
    refine Ev.step (fun k => impl_Graph_part.l1.eq_2 ..) ?_
    simp only [if_neg (show ¬ ((i : Int) < ((bitsFrom n.toNat 0 (F : Int)).length : Int)) by omega)]
    refine next A hA fun j => (hAb j).trans ⟨?_, ?_⟩
    · rintro ⟨k, hk, u, hu, ha⟩
      obtain ⟨u', a, b, c⟩ := elem k (by omega)
      have : u = u' := by omega
      subst this
      exact ⟨u, b, c, ha⟩
    · rintro ⟨u, hu, hb, ha⟩
      have : (u : Int) ∈ bitsFrom n.toNat 0 (F : Int) := mem_bitsFrom.2 ⟨u, rfl, by omega, by omega, by rw [dig_nat]; exact hb⟩
      obtain ⟨k, hk, hr⟩ := mem_rd.1 this
      exact ⟨k, by omega, u, hr, ha⟩
  | succ d ih =>
    intro i A e hA hAb
    refine Ev.step (fun k => impl_Graph_part.l1.eq_2 ..) ?_
    obtain ⟨u, hu, hun, _⟩ := elem i (by omega)
    obtain ⟨x, hx, hx1⟩ := IsG_row g (v := (u : Int)) (by omega) (by omega)
    rw [hu, hx, w64 (by omega) (by omega), bit_or _ _ (by omega) (by omega)]
    simp only [if_pos (show (i : Int) < ((bitsFrom n.toNat 0 (F : Int)).length : Int) by omega), if_pos (show (0 : Int) ≤ (i : Int) by omega), if_pos (show (0 : Int) ≤ (u : Int) by omega), if_pos (show (u : Int) < (rows.length : Int) by omega)]
    refine ih (i + 1) (A ||| x) (by omega) (Nat.or_lt_two_pow hA hx1) fun j => ?_
    rw [Nat.testBit_or, Bool.or_eq_true, hAb j]
    have hxb : x.testBit j = true ↔ Adj rows u j := by unfold Adj; rw [hx, dig_nat]
    rw [hxb]
    constructor
    · rintro (⟨k, a, b⟩ | a)
      · exact ⟨k, by omega, b⟩
      · exact ⟨i, by omega, u, hu, a⟩
    · rintro ⟨k, a, u', b, c⟩
      rcases Nat.lt_succ_iff_lt_or_eq.1 a with a | rfl
      · exact .inl ⟨k, a, u', b, c⟩
      · have : u' = u := by omega
        subst this
        exact .inr c
/-- What a vertex reaches, as bits. -/
noncomputable def partOf (rows : List Int) (n v : Nat) : Nat := bsum n fun w => decide (Way rows n v w)
theorem impl_Graph_part.ev_0 {v : Nat} (hv : v < n.toNat) (d : Nat) : ∀ (S F : Nat), S < 2 ^ n.toNat → F < 2 ^ n.toNat → (∀ j, F.testBit j = true → S.testBit j = true) → S.testBit v = true → (∀ j, S.testBit j = true → Way rows n.toNat v j) →
    (∀ x y, x < n.toNat → y < n.toNat → S.testBit x = true → F.testBit x = false → Adj rows x y → S.testBit y = true) → (F = 0 ∨ 2 ^ n.toNat - S < d) →
    Ev (fun q => impl_Graph_part.l0 q (S : Int) (F : Int) n rows) ((partOf rows n.toNat v : Nat) : Int) := by
  have hn := g.le
  have hp := pow62 hn
  have done : ∀ (S : Nat), S < 2 ^ n.toNat → S.testBit v = true → (∀ j, S.testBit j = true → Way rows n.toNat v j) →
      (∀ x y, x < n.toNat → y < n.toNat → S.testBit x = true → (0 : Nat).testBit x = false → Adj rows x y → S.testBit y = true) →
      Ev (fun q => impl_Graph_part.l0 q (S : Int) ((0 : Nat) : Int) n rows) ((partOf rows n.toNat v : Nat) : Int) := by
    intro S hS h1 h2 h3
    refine Ev.step (fun k => impl_Graph_part.l0.eq_2 ..) ?_
    simp only [if_pos (show ((0 : Nat) : Int) = 0 from rfl)]
    refine ev_some ?_
    congr 1
    refine Nat.eq_of_testBit_eq fun j => ?_
    unfold partOf
    rw [bsum_bit]
    by_cases c : S.testBit j = true
    · have w := h2 j c
      rw [c, decide_eq_true (w.lt hv), decide_eq_true w]; rfl
    · have c' : S.testBit j = false := by simpa using c
      rw [c']
      by_cases jn : j < n.toNat
      · have nw : ¬ Way rows n.toNat v j := fun w => c (closed_way (P := fun j => S.testBit j = true) h1 (fun x y hx hy a b => h3 x y hx hy a (Nat.zero_testBit _) b) j w)
        rw [decide_eq_false nw, Bool.and_false]
      · rw [decide_eq_false jn, Bool.false_and]
  induction d with
  | zero =>
    intro S F hS hF h0 h1 h2 h3 h4
    have : F = 0 := by rcases h4 with h | h <;> omega
    subst this
    exact done S hS h1 h2 h3
  | succ d ih =>
    intro S F hS hF h0 h1 h2 h3 h4
    by_cases f0 : F = 0
    · subst f0; exact done S hS h1 h2 h3
    · refine Ev.step (fun k => impl_Graph_part.l0.eq_2 ..) ?_
      simp only [if_neg (show ¬ ((F : Int) = 0) by omega)]
      refine Ev.bind (impl_list.ev hn hF) ?_
      refine impl_Graph_part.ev_1 g (S := S) hF _ (fun N hN hNb => ?_) (bitsFrom n.toNat 0 (F : Int)).length 0 0 (by omega) (Nat.two_pow_pos _) (fun j => by
        rw [Nat.zero_testBit]
        exact ⟨fun a => (by cases a), fun ⟨k, a, _⟩ => by omega⟩)
      obtain ⟨G, hG, hGb⟩ := bit_andNot N S (by omega) (by omega)
      have hG1 : G < 2 ^ n.toNat := by
        refine Nat.lt_pow_two_of_testBit _ fun i hi => ?_
        rw [hGb i, Nat.testBit_lt_two_pow (Nat.lt_of_lt_of_le hN (Nat.pow_le_pow_right (by decide) hi))]; rfl
      rw [hG, bit_or _ _ (by omega) (by omega)]
      have wN : ∀ j, N.testBit j = true → Way rows n.toNat v j := fun j hj => by
        obtain ⟨u, a, b, c⟩ := (hNb j).1 hj
        have jn : j < n.toNat := by
          rcases Nat.lt_or_ge j n.toNat with x | x
          · exact x
          · rw [Nat.testBit_lt_two_pow (Nat.lt_of_lt_of_le hN (Nat.pow_le_pow_right (by decide) x))] at hj; cases hj
        exact .step (h2 u (h0 u b)) a jn c
      have hSN : S ||| N < 2 ^ n.toNat := Nat.or_lt_two_pow hS hN
      have hle : S ≤ S ||| N := Nat.left_le_or
      refine ih (S ||| N) G hSN hG1 (fun j hj => ?_) (by rw [Nat.testBit_or, h1]; rfl) (fun j hj => ?_) (fun x y hx hy a b c => ?_) ?_
      · rw [hGb j] at hj
        rw [Nat.testBit_or]
        simp only [Bool.and_eq_true] at hj
        rw [hj.1]; simp
      · rw [Nat.testBit_or, Bool.or_eq_true] at hj
        exact hj.elim (h2 j) (wN j)
      · rw [Nat.testBit_or, Bool.or_eq_true] at a ⊢
        rw [hGb x] at b
        have sx : S.testBit x = true := by
          rcases a with a | a
          · exact a
          · rw [a] at b; simpa using b
        by_cases fx : F.testBit x = true
        · exact .inr ((hNb y).2 ⟨x, hx, fx, c⟩)
        · exact .inl (h3 x y hx hy sx (by simpa using fx) c)
      · by_cases g0 : G = 0
        · exact .inl g0
        · refine .inr ?_
          have ne : S ||| N ≠ S := fun a => by
            refine g0 (Nat.eq_of_testBit_eq fun i => ?_)
            rw [hGb i, Nat.zero_testBit]
            by_cases x : N.testBit i = true
            · have : (S ||| N).testBit i = true := by rw [Nat.testBit_or, x]; simp
              rw [a] at this
              rw [x, this]; rfl
            · have : N.testBit i = false := by simpa using x
              rw [this]; rfl
          have := h4.resolve_left f0
          omega
theorem impl_Graph_part.ev (v : Nat) (hv : v < n.toNat) : Ev (fun q => impl_Graph_part.f q n rows (v : Int)) ((partOf rows n.toNat v : Nat) : Int) := by
  have hn := g.le
  have hp := pow62 hn
  unfold impl_Graph_part.f
  simp only [if_pos (show (0 : Int) ≤ (v : Int) by omega)]
  rw [shl_one (by omega) (by omega), Int.toNat_natCast]
  have hb : 2 ^ v < 2 ^ n.toNat := Nat.pow_lt_pow_right (by decide) hv
  refine impl_Graph_part.ev_0 g hv (2 ^ n.toNat + 1) (2 ^ v) (2 ^ v) hb hb (fun _ a => a) (by rw [Nat.testBit_two_pow]; simp) (fun j hj => ?_) (fun x y _ _ a b _ => ?_) (.inr (Nat.lt_succ_of_le (Nat.sub_le _ _)))
  · rw [Nat.testBit_two_pow, decide_eq_true_eq] at hj
    subst hj; exact .refl
  · rw [a] at b; cases b
end

theorem impl_all.sp {n : Int} (h0 : 0 ≤ n) (h1 : n ≤ 62) : impl_all.f n = some (((2 ^ n.toNat - 1 : Nat)) : Int) := by
  unfold impl_all.f
  have hp : 1 ≤ 2 ^ n.toNat := Nat.one_le_two_pow
  have hq := pow62 (n := n.toNat) (by omega)
  rw [if_pos h0, shl_one h0 h1]
  generalize 2 ^ n.toNat = P at *
  rw [w64 (by omega) (by omega)]
  congr 1
  omega

/-- How many numbers from i on are their own leaders. -/
def ownFrom (L : List Int) : Nat → Nat → Nat
  | 0, _ => 0
  | d + 1, i => (if rd L (i : Int) = (i : Int) then 1 else 0) + ownFrom L d (i + 1)
theorem ownFrom_le (L : List Int) (d : Nat) : ∀ i, ownFrom L d i ≤ d := by
  induction d with
  | zero => intro i; simp [ownFrom]
  | succ d ih => intro i; have := ih (i + 1); simp only [ownFrom]; split <;> omega
theorem ownFrom_zero {L : List Int} {d : Nat} : ∀ {i : Nat}, ownFrom L d i = 0 ↔ ∀ j : Nat, i ≤ j → j < i + d → rd L (j : Int) ≠ (j : Int) := by
  induction d with
  | zero => intro i; simp only [ownFrom]; exact ⟨fun _ j a b => by omega, fun _ => trivial⟩
  | succ d ih =>
    intro i
    simp only [ownFrom]
    by_cases c : rd L (i : Int) = (i : Int)
    · rw [if_pos c]
      exact ⟨fun a => by omega, fun a => absurd c (a i (by omega) (by omega))⟩
    · rw [if_neg c, Nat.zero_add, ih]
      constructor
      · intro a j x y
        by_cases e : j = i
        · rw [e]; exact c
        · exact a j (by omega) (by omega)
      · exact fun a j x y => a j (by omega) (by omega)

/-- The parts whose leaders are at least i. -/
noncomputable def partsFrom (rows : List Int) (n : Nat) (L : List Int) : Nat → Nat → List (List Int)
  | 0, _ => []
  | d + 1, i => if rd L (i : Int) = (i : Int) then bitsFrom n 0 ((partOf rows n i : Nat) : Int) :: partsFrom rows n L d (i + 1) else partsFrom rows n L d (i + 1)
theorem partsFrom_length (rows : List Int) (n : Nat) (L : List Int) (d : Nat) : ∀ i, (partsFrom rows n L d i).length = ownFrom L d i := by
  induction d with
  | zero => intro i; rfl
  | succ d ih =>
    intro i
    simp only [partsFrom, ownFrom]
    split
    · rw [List.length_cons, ih]; omega
    · rw [ih]; omega
theorem bitsFrom_skip {r : Int} (d : Nat) : ∀ {i j : Nat}, i ≤ j → j < i + d → dig r j = true → (∀ k, i ≤ k → k < j → dig r k = false) → ∃ t, bitsFrom d i r = (j : Int) :: t := by
  induction d with
  | zero => intro i j a b; omega
  | succ d ih =>
    intro i j a b c e
    by_cases h : i = j
    · subst h; exact ⟨_, by rw [bitsFrom, if_pos c]⟩
    · obtain ⟨t, ht⟩ := ih (i := i + 1) (j := j) (by omega) (by omega) c (fun k x y => e k (by omega) y)
      refine ⟨t, ?_⟩
      have := e i (by omega) (by omega)
      rw [bitsFrom, if_neg (by rw [this]; simp), ht]
theorem impl_Graph_parts.ev_l {n : Int} {rows : List Int} (g : IsG n rows) {L : List Int} (hL : Leads rows n.toNat n.toNat L) (d : Nat) : ∀ (i R : Nat) (acc : List (List Int)), i + d = n.toNat → R < 2 ^ n.toNat → acc.length ≤ i →
    (∀ w, R.testBit w = true ↔ w < n.toNat ∧ ∀ u, u < i → ¬ Way rows n.toNat u w) →
    Ev (fun q => impl_Graph_parts.l0 q acc (R : Int) n rows) (acc ++ partsFrom rows n.toNat L d i) := by
  have hn := g.le
  have hp := pow62 hn
  induction d with
  | zero =>
    intro i R acc e hR ha hb
    refine Ev.step (fun k => impl_Graph_parts.l0.eq_2 ..) ?_
    have : R = 0 := Nat.eq_of_testBit_eq fun w => by
      rw [Nat.zero_testBit]
      by_cases c : R.testBit w = true
      · obtain ⟨a, b⟩ := (hb w).1 c
        exact absurd .refl (b w (by omega))
      · simpa using c
    subst this
    simp only [if_pos (show ((0 : Nat) : Int) = 0 from rfl), partsFrom, List.append_nil]
    exact Ev.now _
  | succ d ih =>
    intro i R acc e hR ha hb
    have hi : i < n.toNat := by omega
    by_cases c : rd L (i : Int) = (i : Int)
    · -- i leads a part
      have hlead : ∀ u, u < i → ¬ Way rows n.toNat u i := by
        rcases hL.2 i hi with ⟨_, a⟩ | ⟨u, _, a, _, b⟩
        · exact absurd .refl (a i hi)
        · have : u = i := by omega
          subst this; exact b
      have hRi : R.testBit i = true := (hb i).2 ⟨hi, hlead⟩
      have R0 : R ≠ 0 := fun a => by rw [a, Nat.zero_testBit] at hRi; cases hRi
      obtain ⟨t, ht⟩ := bitsFrom_skip (r := (R : Int)) n.toNat (i := 0) (j := i) (by omega) (by omega) (by rw [dig_nat]; exact hRi) (fun k _ hk => by
        rw [dig_nat]
        by_cases x : R.testBit k = true
        · exact absurd .refl (((hb k).1 x).2 k hk)
        · simpa using x)
      refine Ev.step (fun k => impl_Graph_parts.l0.eq_2 ..) ?_
      simp only [if_neg (show ¬ ((R : Int) = 0) by omega)]
      refine Ev.bind (impl_list.ev hn hR) ?_
      rw [ht]
      have hr0 : rd ((i : Int) :: t) 0 = (i : Int) := rfl
      simp only [if_pos (show (0 : Int) < ((((i : Int) :: t).length : Nat) : Int) by simp only [List.length_cons]; omega), hr0]
      refine Ev.bind (impl_Graph_part.ev g i hi) ?_
      have hpo : partOf rows n.toNat i < 2 ^ n.toNat := bsum_lt _ _
      refine Ev.bind (impl_list.ev hn hpo) ?_
      obtain ⟨R', hR', hRb⟩ := bit_andNot R (partOf rows n.toNat i) (by omega) (by omega)
      simp only [if_pos (show acc.length < 5864062014805 by omega), hR']
      have hpb : ∀ w, (partOf rows n.toNat i).testBit w = decide (w < n.toNat ∧ Way rows n.toNat i w) := fun w => by
        unfold partOf; rw [bsum_bit, ← Bool.decide_and]
      have hR1 : R' < 2 ^ n.toNat := Nat.lt_pow_two_of_testBit _ fun w hw => by
        rw [hRb w, Nat.testBit_lt_two_pow (Nat.lt_of_lt_of_le hR (Nat.pow_le_pow_right (by decide) hw))]; rfl
      refine ev_cast (ih (i + 1) R' _ (by omega) hR1 (by rw [List.length_append]; simp only [List.length_cons, List.length_nil]; omega) fun w => ?_) ?_
      · rw [hRb w, hpb w]
        simp only [Bool.and_eq_true, Bool.not_eq_true', decide_eq_false_iff_not]
        rw [hb w]
        constructor
        · rintro ⟨⟨a, b⟩, x⟩
          refine ⟨a, fun u hu => ?_⟩
          rcases Nat.lt_succ_iff_lt_or_eq.1 hu with y | rfl
          · exact b u y
          · exact fun z => x ⟨a, z⟩
        · rintro ⟨a, b⟩
          exact ⟨⟨a, fun u hu => b u (by omega)⟩, fun x => b i (by omega) x.2⟩
      · rw [partsFrom, if_pos c, List.append_assoc, List.singleton_append]
    · rw [partsFrom, if_neg c]
      refine ih (i + 1) R acc (by omega) hR (by omega) fun w => (hb w).trans ⟨fun ⟨a, b⟩ => ⟨a, fun u hu => ?_⟩, fun ⟨a, b⟩ => ⟨a, fun u hu => b u (by omega)⟩⟩
      rcases Nat.lt_succ_iff_lt_or_eq.1 hu with y | rfl
      · exact b u y
      · intro hw
        rcases hL.2 u hi with ⟨_, x⟩ | ⟨t, t1, t2, t3, t4⟩
        · exact absurd .refl (x u hi)
        · by_cases tu : t = u
          · subst tu; exact c t2
          · have : t < u := by
              rcases Nat.lt_trichotomy t u with h | h | h
              · exact h
              · exact absurd h tu
              · exact absurd .refl (t4 u h)
            exact b t this (t3.trans hw)
noncomputable def partsL (rows : List Int) (n : Nat) : List (List Int) := partsFrom rows n (leadL rows n) n 0
theorem impl_Graph_parts.ev {n : Int} {rows : List Int} (g : IsG n rows) : Ev (fun q => impl_Graph_parts.f q n rows) (partsL rows n.toNat) := by
  have hn := g.le
  have hp := pow62 hn
  have hq := Nat.one_le_two_pow (n := n.toNat)
  unfold impl_Graph_parts.f
  rw [impl_all.sp (n := n) (by have := g.1; omega) g.2.1]
  simp only [Option.bind_some]
  have := impl_Graph_parts.ev_l g (leadL_leads rows n.toNat) n.toNat 0 (2 ^ n.toNat - 1) [] (by omega) (by omega) (by simp) (fun w => by
    rw [Nat.testBit_two_pow_sub_one, decide_eq_true_eq]
    exact ⟨fun a => ⟨a, fun u hu => by omega⟩, fun a => a.1⟩)
  rw [List.nil_append] at this
  exact this

theorem lead_self {rows : List Int} {n v : Nat} (hv : v < n) : rd (leadL rows n) (v : Int) = (v : Int) ↔ ∀ u, u < v → ¬ Way rows n u v := by
  rcases (leadL_leads rows n).2 v hv with ⟨_, a⟩ | ⟨u, a, b, c, e⟩
  · exact absurd .refl (a v hv)
  · constructor
    · intro h
      have : u = v := by omega
      subst this; exact e
    · intro h
      have : ¬ u < v := fun z => h u z c
      have : ¬ v < u := fun z => e v z .refl
      have : u = v := by omega
      subst this; exact b

theorem mem_parts {rows : List Int} {n : Nat} {L : List Int} {e : List Int} (d : Nat) : ∀ i, e ∈ partsFrom rows n L d i ↔ ∃ p : Nat, i ≤ p ∧ p < i + d ∧ rd L (p : Int) = (p : Int) ∧ e = bitsFrom n 0 ((partOf rows n p : Nat) : Int) := by
  induction d with
  | zero => intro i; rw [partsFrom]; simp; intro p h1 h2; omega
  | succ d ih =>
    intro i
    rw [partsFrom]
    constructor
    · intro h
      by_cases c : rd L (i : Int) = (i : Int)
      · rw [if_pos c] at h
        rcases List.mem_cons.1 h with rfl | h
        · exact ⟨i, by omega, by omega, c, rfl⟩
        · obtain ⟨p, a, b, x, y⟩ := (ih (i + 1)).1 h
          exact ⟨p, by omega, by omega, x, y⟩
      · rw [if_neg c] at h
        obtain ⟨p, a, b, x, y⟩ := (ih (i + 1)).1 h
        exact ⟨p, by omega, by omega, x, y⟩
    · rintro ⟨p, a, b, x, y⟩
      by_cases z : p = i
      · subst z
        rw [if_pos x, y]; exact List.mem_cons_self
      · have := (ih (i + 1)).2 ⟨p, by omega, by omega, x, y⟩
        split
        · exact List.mem_cons_of_mem _ this
        · exact this

theorem bitsFrom_from {r : Int} (v : Nat) : ∀ (d i : Nat), v ≤ d → (∀ k, i ≤ k → k < i + v → dig r k = false) → bitsFrom d i r = bitsFrom (d - v) (i + v) r := by
  induction v with
  | zero => intro d i _ _; rfl
  | succ v ih =>
    intro d i h k
    obtain ⟨e, rfl⟩ : ∃ e, d = e + 1 := ⟨d - 1, by omega⟩
    rw [bitsFrom, if_neg (by rw [k i (by omega) (by omega)]; simp), ih e (i + 1) (by omega) (fun j a b => k j (by omega) (by omega)), show e + 1 - (v + 1) = e - v by omega, show i + (v + 1) = i + 1 + v by omega]
theorem lead_is {n : Int} {rows : List Int} (g : IsG n rows) {v w : Nat} (hv : v < n.toNat) (hw : w < n.toNat) (h : rd (leadL rows n.toNat) (v : Int) = (v : Int)) : rd (leadL rows n.toNat) (w : Int) = (v : Int) ↔ Way rows n.toNat v w := by
  have hl := (lead_self hv).1 h
  rcases (leadL_leads rows n.toNat).2 w hw with ⟨_, a⟩ | ⟨u, a, b, c, e⟩
  · exact absurd .refl (a w hw)
  · constructor
    · intro k
      have : u = v := by omega
      subst this; exact c
    · intro k
      rcases Nat.lt_trichotomy u v with x | x | x
      · exact absurd (c.trans (k.symm g)) (hl u x)
      · subst x; exact b
      · exact absurd k (e v x)
theorem spec_PartsOf.ev_1 {n : Int} {rows : List Int} (g : IsG n rows) {v : Nat} (hv : v < n.toNat) (h : rd (leadL rows n.toNat) (v : Int) = (v : Int)) {acc : List (List Int)} {R : List (List Int) × Int} (d : Nat) : ∀ (j : Nat) (p : List Int), j + d = n.toNat → p.length ≤ j →
    Ev (fun q => spec_PartsOf.l0 q (leadL rows n.toNat) (acc ++ [p ++ bitsFrom d j ((partOf rows n.toNat v : Nat) : Int)]) (((v + 1 : Nat) : Nat) : Int) n rows) R → acc.length ≤ v →
    Ev (fun q => spec_PartsOf.l1 q (leadL rows n.toNat) acc (v : Int) p (j : Int) n rows) R := by
  have hn := g.le
  have hLl := (leadL_leads rows n.toNat).1
  induction d with
  | zero =>
    intro j p e hp next ha
    refine Ev.step (fun k => spec_PartsOf.l1.eq_2 ..) ?_
    simp only [if_neg (show ¬ ((j : Int) < n) by omega), if_pos (show acc.length < 5864062014805 by omega)]
    rw [show wrap64 ((v : Int) + 1) = ((v + 1 : Nat) : Int) by rw [w64 (by omega) (by omega)]; omega]
    rw [bitsFrom, List.append_nil] at next
    exact next
  | succ d ih =>
    intro j p e hp next ha
    have hw : wrap64 ((j : Int) + 1) = ((j + 1 : Nat) : Int) := by rw [w64 (by omega) (by omega)]; omega
    refine Ev.step (fun k => spec_PartsOf.l1.eq_2 ..) ?_
    simp only [if_pos (show (j : Int) < n by omega), if_pos (show (0 : Int) ≤ (j : Int) by omega), if_pos (show (j : Int) < ((leadL rows n.toNat).length : Int) by omega), hw]
    have hd : dig ((partOf rows n.toNat v : Nat) : Int) j = decide (Way rows n.toNat v j) := by rw [dig_nat, partOf, bsum_bit, decide_eq_true (show j < n.toNat by omega), Bool.true_and]
    rw [bitsFrom] at next
    by_cases c : rd (leadL rows n.toNat) (j : Int) = (v : Int)
    · have w := (lead_is g hv (show j < n.toNat by omega) h).1 c
      rw [if_pos (by rw [hd, decide_eq_true w])] at next
      simp only [if_pos c, if_pos (show p.length < 17592186044416 by omega)]
      exact ih (j + 1) _ (by omega) (by rw [List.length_append]; simp only [List.length_cons, List.length_nil]; omega) (by rw [List.append_assoc, List.singleton_append]; exact next) ha
    · have w : ¬ Way rows n.toNat v j := fun z => c ((lead_is g hv (show j < n.toNat by omega) h).2 z)
      rw [if_neg (by rw [hd, decide_eq_false w]; simp)] at next
      simp only [if_neg c]
      exact ih (j + 1) p (by omega) (by omega) next ha
theorem spec_PartsOf.ev_0 {n : Int} {rows : List Int} (g : IsG n rows) (d : Nat) : ∀ (v : Nat) (acc : List (List Int)), v + d = n.toNat → acc.length ≤ v →
    Ev (fun q => spec_PartsOf.l0 q (leadL rows n.toNat) acc (v : Int) n rows) (acc ++ partsFrom rows n.toNat (leadL rows n.toNat) d v, 0) := by
  have hn := g.le
  have hLl := (leadL_leads rows n.toNat).1
  induction d with
  | zero =>
    intro v acc e ha
    refine Ev.step (fun k => spec_PartsOf.l0.eq_2 ..) ?_
    simp only [if_neg (show ¬ ((v : Int) < n) by omega), partsFrom, List.append_nil]
    exact Ev.now _
  | succ d ih =>
    intro v acc e ha
    have hv : v < n.toNat := by omega
    have hw : wrap64 ((v : Int) + 1) = ((v + 1 : Nat) : Int) := by rw [w64 (by omega) (by omega)]; omega
    refine Ev.step (fun k => spec_PartsOf.l0.eq_2 ..) ?_
    simp only [if_pos (show (v : Int) < n by omega), if_pos (show (0 : Int) ≤ (v : Int) by omega), if_pos (show (v : Int) < ((leadL rows n.toNat).length : Int) by omega)]
    rw [partsFrom]
    by_cases c : rd (leadL rows n.toNat) (v : Int) = (v : Int)
    · have hl := (lead_self hv).1 c
      simp only [if_pos c]
      have e2 := bitsFrom_from (r := ((partOf rows n.toNat v : Nat) : Int)) v n.toNat 0 (by omega) fun k _ hk => by
        rw [dig_nat, partOf, bsum_bit, decide_eq_false (show ¬ Way rows n.toNat v k from fun z => hl k (by omega) (z.symm g)), Bool.and_false]
      rw [Nat.zero_add] at e2
      refine spec_PartsOf.ev_1 g hv c (n.toNat - v) v [] (by omega) (by simp) ?_ ha
      rw [List.nil_append, ← e2]
      refine ev_cast (ih (v + 1) _ (by omega) (by rw [List.length_append]; simp only [List.length_cons, List.length_nil]; omega)) ?_
      rw [List.append_assoc, List.singleton_append]
    · simp only [if_neg c, hw]
      exact ih (v + 1) acc (by omega) (by omega)
noncomputable def partsR (n : Int) (rows : List Int) : List (List Int) × Int := if IsG n rows then (partsL rows n.toNat, 0) else ([], 1)
theorem spec_PartsOf.ev (n : Int) (rows : List Int) : Ev (fun q => spec_PartsOf.f q n rows) (partsR n rows) := by
  unfold spec_PartsOf.f partsR
  refine Ev.bind (spec_l01Is.ev n rows) ?_
  by_cases h : IsG n rows
  · simp only [h, decide_true, if_true]
    refine Ev.bind (spec_l01Leaders.ev h) ?_
    exact spec_PartsOf.ev_0 h n.toNat 0 [] (by omega) (by simp)
  · simp only [h, decide_false, Bool.false_eq_true, if_false]
    exact Ev.now _
theorem partsR_small (n : Int) (rows : List Int) : (partsR n rows).1.length ≤ 4000 ∧ ∀ e ∈ (partsR n rows).1, e.length ≤ 62 := by
  unfold partsR
  split
  · rename_i h
    have hn := h.le
    have := ownFrom_le (leadL rows n.toNat) n.toNat 0
    refine ⟨by simp only [partsL, partsFrom_length]; omega, fun e he => ?_⟩
    obtain ⟨p, _, _, _, rfl⟩ := (mem_parts n.toNat 0).1 he
    have := bitsFrom_length ((partOf rows n.toNat p : Nat) : Int) n.toNat 0
    omega
  · exact ⟨by simp, fun e he => by cases he⟩

/-! impl.IsGraph -/
theorem impl_IsGraph.ev_1 (n : Int) (rows : List Int) (hn : 1 ≤ n) (hn1 : n ≤ 62) (hl : (rows.length : Int) = n) (v : Nat) (hv : (v : Int) < n)
    (F : Prop) (hF : Ev (fun q => impl_IsGraph.l0 q n rows (rows.length : Int) ((v + 1 : Nat) : Int) n rows) (decide F)) (d : Nat) : ∀ w : Nat, w + d = rows.length →
    Ev (fun q => impl_IsGraph.l1 q n (v : Int) (rd rows v) rows (rows.length : Int) (v : Int) n (w : Int) n rows) (decide ((∀ k : Nat, w ≤ k → k < rows.length → dig (rd rows v) k = dig (rd rows k) v) ∧ F)) := by
  induction d with
  | zero =>
    intro w e
    refine Ev.step (fun k => impl_IsGraph.l1.eq_2 ..) ?_
    simp only [if_neg (show ¬ ((w : Int) < n) by omega)]
    rw [w64 (by omega) (by omega)]
    refine ev_cast hF ?_
    refine dec_congr ?_
    exact ⟨fun a => ⟨scan_end (by omega), a⟩, fun a => a.2⟩
  | succ d ih =>
    intro w e
    refine Ev.step (fun k => impl_IsGraph.l1.eq_2 ..) ?_
    simp only [if_pos (show (w : Int) < n by omega), if_pos (show (0 : Int) ≤ (w : Int) by omega), if_pos (show (w : Int) < (rows.length : Int) by omega), if_pos (show (0 : Int) ≤ (v : Int) by omega)]
    rw [bit_val (v := (w : Int)) (by omega) (by omega), bit_val (v := (v : Int)) (by omega) (by omega), w64 (n := (w : Int) + 1) (by omega) (by omega)]
    simp only [Int.toNat_natCast]
    by_cases c : dig (rd rows v) w = dig (rd rows w) v
    · simp only [c, if_true]
      refine ev_cast (ih (w + 1) (by omega)) ?_
      refine dec_congr ?_
      rw [scan_step (P := fun k : Nat => dig (rd rows v) k = dig (rd rows k) v) c]
    · rw [decide_eq_false (fun a => c (a.1 w (Nat.le_refl _) (by omega)))]
      have : ¬ ((if dig (rd rows v) w = true then (1 : Int) else 0) = if dig (rd rows w) v = true then 1 else 0) := by
        intro h
        apply c
        cases h1 : dig (rd rows v) w <;> cases h2 : dig (rd rows w) v <;> simp [h1, h2] at h ⊢
      simp only [if_neg this]
      exact Ev.now _
theorem impl_IsGraph.ev_0 (n : Int) (rows : List Int) (hn : 1 ≤ n) (hn1 : n ≤ 62) (hl : (rows.length : Int) = n) (d : Nat) : ∀ v : Nat, v + d = rows.length →
    Ev (fun q => impl_IsGraph.l0 q n rows (rows.length : Int) (v : Int) n rows)
      (decide (∀ k : Nat, v ≤ k → k < rows.length → (0 ≤ rd rows k ∧ rd rows k < ((2 ^ n.toNat : Nat) : Int) ∧ dig (rd rows k) k = false) ∧ ∀ w : Nat, 0 ≤ w → w < rows.length → dig (rd rows k) w = dig (rd rows w) k)) := by
  induction d with
  | zero =>
    intro v e
    refine Ev.step (fun k => impl_IsGraph.l0.eq_2 ..) ?_
    simp only [if_neg (show ¬ ((v : Int) < (rows.length : Int)) by omega)]
    rw [decide_eq_true (scan_end (by omega))]
    exact Ev.now _
  | succ d ih =>
    intro v e
    refine Ev.step (fun k => impl_IsGraph.l0.eq_2 ..) ?_
    simp only [if_pos (show (v : Int) < (rows.length : Int) by omega), if_pos (show (0 : Int) ≤ (v : Int) by omega), if_pos (show 0 ≤ n by omega)]
    rw [shl_one (by omega) hn1, bit_dig (by omega) (by omega), Int.toNat_natCast]
    have key : ∀ g : Bool, (g = true ↔ ¬ (0 ≤ rd rows v ∧ rd rows v < ((2 ^ n.toNat : Nat) : Int) ∧ dig (rd rows v) v = false)) → Ev (fun q => impl_IsGraph.j2 q n (v : Int) (rd rows v) rows (rows.length : Int) (v : Int) g n rows)
        (decide (∀ k : Nat, v ≤ k → k < rows.length → (0 ≤ rd rows k ∧ rd rows k < ((2 ^ n.toNat : Nat) : Int) ∧ dig (rd rows k) k = false) ∧ ∀ w : Nat, 0 ≤ w → w < rows.length → dig (rd rows k) w = dig (rd rows w) k)) := by
      intro g hg
      refine Ev.step (fun k => impl_IsGraph.j2.eq_2 ..) ?_
      by_cases c : g = true
      · simp only [if_pos c]
        rw [decide_eq_false (fun a => hg.1 c (a v (Nat.le_refl _) (by omega)).1)]
        exact Ev.now _
      · simp only [if_neg c]
        have c2 : 0 ≤ rd rows v ∧ rd rows v < ((2 ^ n.toNat : Nat) : Int) ∧ dig (rd rows v) v = false := Classical.not_not.1 fun a => c (hg.2 a)
        refine ev_cast (impl_IsGraph.ev_1 n rows hn hn1 hl v (by omega) _ (ih (v + 1) (by omega)) rows.length 0 (by omega)) ?_
        refine dec_congr ?_
        constructor
        · rintro ⟨a1, a2⟩
          exact (scan_step (P := fun k : Nat => (0 ≤ rd rows k ∧ rd rows k < ((2 ^ n.toNat : Nat) : Int) ∧ dig (rd rows k) k = false) ∧ ∀ w : Nat, 0 ≤ w → w < rows.length → dig (rd rows k) w = dig (rd rows w) k) (i := v) ⟨c2, a1⟩).2 a2
        · intro a
          exact ⟨(a v (Nat.le_refl _) (by omega)).2, fun k hk hk1 => a k (by omega) hk1⟩
    by_cases c1 : rd rows v < 0
    · simp only [if_pos c1]
      exact key true ⟨fun _ a => by omega, fun _ => rfl⟩
    · simp only [if_neg c1]
      by_cases c2 : rd rows v ≥ ((2 ^ n.toNat : Nat) : Int)
      · simp only [if_pos c2]
        exact key true ⟨fun _ a => by omega, fun _ => rfl⟩
      · simp only [if_neg c2]
        exact key _ ⟨fun g a => by rw [a.2.2] at g; exact Bool.false_ne_true g, fun g => by
          by_cases h : dig (rd rows v) v = true
          · exact h
          · exact (g ⟨by omega, by omega, by simpa using h⟩).elim⟩
theorem isG_iff (n : Int) (rows : List Int) (hn : 1 ≤ n) (hn1 : n ≤ 62) (hl : (rows.length : Int) = n) :
    (∀ k : Nat, 0 ≤ k → k < rows.length → (0 ≤ rd rows k ∧ rd rows k < ((2 ^ n.toNat : Nat) : Int) ∧ dig (rd rows k) k = false) ∧ ∀ w : Nat, 0 ≤ w → w < rows.length → dig (rd rows k) w = dig (rd rows w) k) ↔ IsG n rows :=
  ⟨fun a => ⟨hn, hn1, hl, fun v hv => (a v (by omega) (by omega)).1, fun v w hv hw => (a v (by omega) (by omega)).2 w (by omega) (by omega)⟩,
    fun a k _ hk => ⟨a.2.2.2.1 k (by omega), fun w _ hw => a.2.2.2.2 k w (by omega) (by omega)⟩⟩
theorem impl_IsGraph.ev (n : Int) (rows : List Int) : Ev (fun q => impl_IsGraph.f q n rows) (decide (IsG n rows)) := by
  unfold impl_IsGraph.f
  by_cases h1 : n < 1
  · simp only [if_pos h1]
    refine Ev.step (fun k => impl_IsGraph.j0.eq_2 ..) ?_
    simp only [if_true]; rw [decide_eq_false (fun a => by have := a.1; omega)]; exact Ev.now _
  by_cases h2 : n > 62
  · simp only [if_neg h1, if_pos h2]
    refine Ev.step (fun k => impl_IsGraph.j0.eq_2 ..) ?_
    simp only [if_true]; rw [decide_eq_false (fun a => by have := a.2.1; omega)]; exact Ev.now _
  simp only [if_neg h1, if_neg h2]
  refine Ev.step (fun k => impl_IsGraph.j0.eq_2 ..) ?_
  by_cases h3 : (rows.length : Int) = n
  · simp only [h3, bne_self_eq_false, Bool.false_eq_true, if_false]
    have := impl_IsGraph.ev_0 n rows (by omega) (by omega) h3 rows.length 0 (by omega)
    rw [h3] at this
    refine ev_cast this ?_
    refine dec_congr ?_
    exact isG_iff n rows (by omega) (by omega) h3
  · simp only [bne_iff_ne, ne_eq, h3, not_false_eq_true, if_true]
    rw [decide_eq_false (fun a => h3 a.2.2.1)]
    exact Ev.now _

theorem impl_PartsOf.ev (n : Int) (rows : List Int) : Ev (fun q => impl_PartsOf.f q n rows) (partsR n rows) := by
  unfold impl_PartsOf.f partsR
  refine Ev.bind (impl_IsGraph.ev n rows) ?_
  by_cases h : IsG n rows
  · simp only [h, decide_true, if_true]
    exact Ev.bind (impl_Graph_parts.ev h) (Ev.now _)
  · simp only [h, decide_false, Bool.false_eq_true, if_false]
    exact Ev.now _

end Go.Proofs.YthnjnhdalpcfpaaDoor.XFnExactPartsOf
