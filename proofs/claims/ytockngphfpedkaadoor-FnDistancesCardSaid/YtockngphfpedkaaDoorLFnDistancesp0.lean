/- What the functions that FnDistances reaches compute. -/
import Derived.Test.YtockngphfpedkaaDoorXFnDistancesx0
import Derived.Test.YtockngphfpedkaaDoorXFnDistancesx1
import Derived.Test.YtockngphfpedkaaDoorXFnDistancesx2
import Derived.Test.YtockngphfpedkaaDoorXFnDistancesx3
import Derived.Test.YtockngphfpedkaaDoorXFnDistancesx4
import Derived.Test.YtockngphfpedkaaDoorXFnDistancesx5
import Derived.Test.YtockngphfpedkaaDoorXFnDistancesx6
import Derived.Test.YtockngphfpedkaaDoorXFnDistancesx7
import Derived.Test.YtockngphfpedkaaDoorXFnDistancesx8
import Derived.Test.YtockngphfpedkaaDoorXFnDistancesx9
import Derived.Test.YtockngphfpedkaaDoorXFnDistancesx10
import Derived.Test.YtockngphfpedkaaDoorXFnDistancesx11
import Derived.Test.YtockngphfpedkaaDoorXFnDistancesx12
import Derived.Test.YtockngphfpedkaaDoorXFnDistancesx13
import Derived.Test.YtockngphfpedkaaDoorXFnDistancesx14
import Derived.Test.YtockngphfpedkaaDoorXFnDistancesx15
import Derived.Test.YtockngphfpedkaaDoorXFnDistancesx16
import Derived.Test.YtockngphfpedkaaDoorXFnDistancesx17
import Derived.Test.YtockngphfpedkaaDoorXFnDistancesx18
import Derived.Test.YtockngphfpedkaaDoorXFnDistancesx19
import Derived.Test.YtockngphfpedkaaDoorGr
namespace Go.Proofs.YtockngphfpedkaaDoor.XFnDistances
open Go.RowKit Go.Proofs.YtockngphfpedkaaDoorW.PrintWords Go.Proofs.YtockngphfpedkaaDoorW.PrintLast Go.Proofs.YtockngphfpedkaaDoor.B
open Classical
set_option linter.unusedVariables false
set_option linter.unusedSimpArgs false
set_option linter.unusedSectionVars false

theorem spec_l01Empty.sp (n : Int) (h0 : 0 ≤ n) (h1 : n ≤ 35184372088832) : spec_l01Empty.f n = some (n, List.replicate n.toNat 0) := by
  unfold spec_l01Empty.f
  rw [if_pos h0, if_pos (by omega)]

theorem spec_l01Put.sp (n : Int) (rows : List Int) (a b : Int) (ha : 0 ≤ a) (ha1 : a < rows.length) (hb : 0 ≤ b) (hb1 : b < rows.length) (hl : rows.length ≤ 62) :
    spec_l01Put.f n rows a b = some (putE rows a b) := by
  unfold spec_l01Put.f
  rw [u64 hb (by omega), u64 ha (by omega), if_pos ha, if_pos ha1, if_pos hb, shl_one hb (by omega), shl_one ha (by omega)]
  simp only [Option.bind_some]
  rw [if_pos hb, if_pos hb1, if_pos ha]
  rfl

theorem spec_l01In.sp (a b c : Int) : spec_l01In.f a b c = some (decide (b ≤ a ∧ a ≤ c)) := by
  unfold spec_l01In.f
  by_cases h : b ≤ a <;> simp [h]

theorem spec_l01Has.sp (n : Int) (rows : List Int) (a b : Int) (ha : 0 ≤ a) (ha1 : a < rows.length) (hb : 0 ≤ b) (hb1 : b ≤ 62) : spec_l01Has.f n rows a b = some (dig (rd rows a) b.toNat) := by
  unfold spec_l01Has.f
  rw [u64 hb (by omega), if_pos ha, if_pos ha1, if_pos hb, bit_dig hb (by omega)]

/-! spec.IsGraph -/
theorem spec_l01Is.ev_2 (n : Int) (rows : List Int) (hn1 : n ≤ 62) (hl : (rows.length : Int) = n) (v : Nat) (hv : (v : Int) < n)
    (F : Prop) (hF : Ev (fun q => spec_l01Is.l1 q ((v + 1 : Nat) : Int) n rows) (decide F)) (d : Nat) : ∀ w : Nat, w + d = v →
    Ev (fun q => spec_l01Is.l2 q (v : Int) (w : Int) n rows) (decide ((∀ k : Nat, w ≤ k → k < v → dig (rd rows v) k = dig (rd rows k) v) ∧ F)) := by
  induction d with
  | zero =>
    intro w e
    refine Ev.step (fun k => spec_l01Is.l2.eq_2 ..) ?_
    simp only [if_neg (show ¬ ((w : Int) < (v : Int)) by omega)]
    rw [w64 (by omega) (by omega)]
    refine ev_cast hF ?_
    refine dec_congr ?_
    exact ⟨fun a => ⟨scan_end (by omega), a⟩, fun a => a.2⟩
  | succ d ih =>
    intro w e
    refine Ev.step (fun k => spec_l01Is.l2.eq_2 ..) ?_
    rw [spec_l01Has.sp n rows v w (by omega) (by omega) (by omega) (by omega), spec_l01Has.sp n rows w v (by omega) (by omega) (by omega) (by omega), w64 (n := (w : Int) + 1) (by omega) (by omega)]
    simp only [if_pos (show (w : Int) < (v : Int) by omega), Option.bind_some, Int.toNat_natCast]
    by_cases c : dig (rd rows v) w = dig (rd rows w) v
    · simp only [c, bne_self_eq_false, Bool.false_eq_true, if_false]
      refine ev_cast (ih (w + 1) (by omega)) ?_
      refine dec_congr ?_
      rw [scan_step (P := fun k : Nat => dig (rd rows v) k = dig (rd rows k) v) c]
    · simp only [bne_iff_ne, ne_eq, c, not_false_eq_true, if_true]
      rw [decide_eq_false (fun a => c (a.1 w (Nat.le_refl _) (by omega)))]
      exact Ev.now _
theorem spec_l01Is.ev_1 (n : Int) (rows : List Int) (hn1 : n ≤ 62) (hl : (rows.length : Int) = n) (d : Nat) : ∀ v : Nat, v + d = rows.length →
    Ev (fun q => spec_l01Is.l1 q (v : Int) n rows) (decide (∀ k : Nat, v ≤ k → k < rows.length → ∀ w : Nat, 0 ≤ w → w < k → dig (rd rows k) w = dig (rd rows w) k)) := by
  induction d with
  | zero =>
    intro v e
    refine Ev.step (fun k => spec_l01Is.l1.eq_2 ..) ?_
    simp only [if_neg (show ¬ ((v : Int) < n) by omega)]
    rw [decide_eq_true (scan_end (by omega))]
    exact Ev.now _
  | succ d ih =>
    intro v e
    refine Ev.step (fun k => spec_l01Is.l1.eq_2 ..) ?_
    simp only [if_pos (show (v : Int) < n by omega)]
    refine ev_cast (spec_l01Is.ev_2 n rows hn1 hl v (by omega) _ (ih (v + 1) (by omega)) v 0 (by omega)) ?_
    refine dec_congr ?_
    constructor
    · rintro ⟨a1, a2⟩
      exact (scan_step (P := fun k : Nat => ∀ w : Nat, 0 ≤ w → w < k → dig (rd rows k) w = dig (rd rows w) k) (i := v) a1).2 a2
    · intro a
      exact ⟨a v (Nat.le_refl _) (by omega), fun k hk hk1 => a k (by omega) hk1⟩
theorem spec_l01Is.ev_0 (n : Int) (rows : List Int) (hn : 1 ≤ n) (hn1 : n ≤ 62) (hl : (rows.length : Int) = n) (d : Nat) : ∀ v : Nat, v + d = rows.length →
    Ev (fun q => spec_l01Is.l0 q (v : Int) n rows) (decide ((∀ k : Nat, v ≤ k → k < rows.length → 0 ≤ rd rows k ∧ rd rows k < ((2 ^ n.toNat : Nat) : Int) ∧ dig (rd rows k) k = false) ∧
      ∀ k : Nat, 0 ≤ k → k < rows.length → ∀ w : Nat, 0 ≤ w → w < k → dig (rd rows k) w = dig (rd rows w) k)) := by
  have hp : 1 ≤ 2 ^ n.toNat := Nat.one_le_two_pow
  have hq := pow62 (n := n.toNat) (by omega)
  induction d with
  | zero =>
    intro v e
    refine Ev.step (fun k => spec_l01Is.l0.eq_2 ..) ?_
    simp only [if_neg (show ¬ ((v : Int) < n) by omega)]
    refine ev_cast (spec_l01Is.ev_1 n rows hn1 hl rows.length 0 (by omega)) ?_
    refine dec_congr ?_
    exact ⟨fun a => ⟨scan_end (by omega), a⟩, fun a => a.2⟩
  | succ d ih =>
    intro v e
    refine Ev.step (fun k => spec_l01Is.l0.eq_2 ..) ?_
    rw [u64 (by omega) (by omega), shl_one (by omega) hn1, w64 (by omega) (by omega), w64 (n := (v : Int) + 1) (by omega) (by omega), spec_l01Has.sp n rows v v (by omega) (by omega) (by omega) (by omega), Int.toNat_natCast]
    simp only [if_pos (show (v : Int) < n by omega), if_pos (show (0 : Int) ≤ (v : Int) by omega), if_pos (show (v : Int) < (rows.length : Int) by omega), if_pos (show 0 ≤ n by omega), spec_l01In.sp, Option.bind_some, decide_eq_true_eq]
    by_cases c1 : 0 ≤ rd rows v ∧ rd rows v ≤ ((2 ^ n.toNat : Nat) : Int) - 1
    · simp only [if_pos c1]
      by_cases c2 : dig (rd rows v) v = true
      · simp only [if_pos c2]
        rw [decide_eq_false (fun a => by have := (a.1 v (Nat.le_refl _) (by omega)).2.2; rw [c2] at this; cases this)]
        exact Ev.now _
      · simp only [if_neg c2]
        refine ev_cast (ih (v + 1) (by omega)) ?_
        refine dec_congr ?_
        rw [scan_step (P := fun k : Nat => 0 ≤ rd rows k ∧ rd rows k < ((2 ^ n.toNat : Nat) : Int) ∧ dig (rd rows k) k = false) (i := v) ⟨c1.1, by omega, by simpa using c2⟩]
    · simp only [if_neg c1]
      rw [decide_eq_false (fun a => by have := a.1 v (Nat.le_refl _) (by omega); omega)]
      exact Ev.now _
theorem isG_iff' (n : Int) (rows : List Int) (hn : 1 ≤ n) (hn1 : n ≤ 62) (hl : (rows.length : Int) = n) :
    ((∀ k : Nat, 0 ≤ k → k < rows.length → 0 ≤ rd rows k ∧ rd rows k < ((2 ^ n.toNat : Nat) : Int) ∧ dig (rd rows k) k = false) ∧
      ∀ k : Nat, 0 ≤ k → k < rows.length → ∀ w : Nat, 0 ≤ w → w < k → dig (rd rows k) w = dig (rd rows w) k) ↔ IsG n rows := by
  constructor
  · rintro ⟨a, b⟩
    refine ⟨hn, hn1, hl, fun v hv => a v (by omega) (by omega), fun v w hv hw => ?_⟩
    rcases Nat.lt_trichotomy v w with h | h | h
    · exact (b w (by omega) (by omega) v (by omega) h).symm
    · rw [h]
    · exact b v (by omega) (by omega) w (by omega) h
  · intro a
    exact ⟨fun k _ hk => a.2.2.2.1 k (by omega), fun k _ hk w _ hw => a.2.2.2.2 k w (by omega) (by omega)⟩
theorem spec_l01Is.ev (n : Int) (rows : List Int) : Ev (fun q => spec_l01Is.f q n rows) (decide (IsG n rows)) := by
  unfold spec_l01Is.f
  simp only [spec_l01In.sp, Option.bind_some, decide_eq_true_eq]
  by_cases h1 : 1 ≤ n ∧ n ≤ 62
  · simp only [if_pos h1]
    refine Ev.step (fun k => spec_l01Is.j0.eq_2 ..) ?_
    by_cases h3 : (rows.length : Int) = n
    · simp only [h3, bne_self_eq_false, Bool.false_eq_true, if_false]
      refine ev_cast (spec_l01Is.ev_0 n rows h1.1 h1.2 h3 rows.length 0 (by omega)) ?_
      refine dec_congr ?_
      exact isG_iff' n rows h1.1 h1.2 h3
    · simp only [bne_iff_ne, ne_eq, h3, not_false_eq_true, if_true]
      rw [decide_eq_false (fun a => h3 a.2.2.1)]
      exact Ev.now _
  · simp only [if_neg h1]
    refine Ev.step (fun k => spec_l01Is.j0.eq_2 ..) ?_
    simp only [if_true]
    rw [decide_eq_false (fun a => h1 ⟨a.1, a.2.1⟩)]
    exact Ev.now _

/-! impl.IsGraph -/
theorem impl_IsGraph.ev_1 (n : Int) (rows : List Int) (hn : 1 ≤ n) (hn1 : n ≤ 62) (hl : (rows.length : Int) = n) (v : Nat) (hv : (v : Int) < n)
    (F : Prop) (hF : Ev (fun q => impl_IsGraph.l0 q n rows (rows.length : Int) ((v + 1 : Nat) : Int) n rows) (decide F)) (d : Nat) : ∀ w : Nat, w + d = rows.length →
    Ev (fun q => impl_IsGraph.l1 q n (v : Int) (rd rows v) rows (rows.length : Int) (v : Int) n (w : Int) n rows) (decide ((∀ k : Nat, w ≤ k → k < rows.length → dig (rd rows v) k = dig (rd rows k) v) ∧ F)) := by
  induction d with
  | zero =>
    intro w e
    refine Ev.step (fun k => impl_IsGraph.l1.eq_2 ..) ?_
    simp only [if_neg (show ¬ ((w : Int) < n) by omega)]
    rw [w64 (by omega) (by omega)]
    refine ev_cast hF ?_
    refine dec_congr ?_
    exact ⟨fun a => ⟨scan_end (by omega), a⟩, fun a => a.2⟩
  | succ d ih =>
    intro w e
    refine Ev.step (fun k => impl_IsGraph.l1.eq_2 ..) ?_
    simp only [if_pos (show (w : Int) < n by omega), if_pos (show (0 : Int) ≤ (w : Int) by omega), if_pos (show (w : Int) < (rows.length : Int) by omega), if_pos (show (0 : Int) ≤ (v : Int) by omega)]
    rw [bit_val (v := (w : Int)) (by omega) (by omega), bit_val (v := (v : Int)) (by omega) (by omega), w64 (n := (w : Int) + 1) (by omega) (by omega)]
    simp only [Int.toNat_natCast]
    by_cases c : dig (rd rows v) w = dig (rd rows w) v
    · simp only [c, if_true]
      refine ev_cast (ih (w + 1) (by omega)) ?_
      refine dec_congr ?_
      rw [scan_step (P := fun k : Nat => dig (rd rows v) k = dig (rd rows k) v) c]
    · rw [decide_eq_false (fun a => c (a.1 w (Nat.le_refl _) (by omega)))]
      have : ¬ ((if dig (rd rows v) w = true then (1 : Int) else 0) = if dig (rd rows w) v = true then 1 else 0) := by
        intro h
        apply c
        cases h1 : dig (rd rows v) w <;> cases h2 : dig (rd rows w) v <;> simp [h1, h2] at h ⊢
      simp only [if_neg this]
      exact Ev.now _
theorem impl_IsGraph.ev_0 (n : Int) (rows : List Int) (hn : 1 ≤ n) (hn1 : n ≤ 62) (hl : (rows.length : Int) = n) (d : Nat) : ∀ v : Nat, v + d = rows.length →
    Ev (fun q => impl_IsGraph.l0 q n rows (rows.length : Int) (v : Int) n rows)
      (decide (∀ k : Nat, v ≤ k → k < rows.length → (0 ≤ rd rows k ∧ rd rows k < ((2 ^ n.toNat : Nat) : Int) ∧ dig (rd rows k) k = false) ∧ ∀ w : Nat, 0 ≤ w → w < rows.length → dig (rd rows k) w = dig (rd rows w) k)) := by
  induction d with
  | zero =>
    intro v e
    refine Ev.step (fun k => impl_IsGraph.l0.eq_2 ..) ?_
    simp only [if_neg (show ¬ ((v : Int) < (rows.length : Int)) by omega)]
    rw [decide_eq_true (scan_end (by omega))]
    exact Ev.now _
  | succ d ih =>
    intro v e
    refine Ev.step (fun k => impl_IsGraph.l0.eq_2 ..) ?_
    simp only [if_pos (show (v : Int) < (rows.length : Int) by omega), if_pos (show (0 : Int) ≤ (v : Int) by omega), if_pos (show 0 ≤ n by omega)]
    rw [shl_one (by omega) hn1, bit_dig (by omega) (by omega), Int.toNat_natCast]
    have key : ∀ g : Bool, (g = true ↔ ¬ (0 ≤ rd rows v ∧ rd rows v < ((2 ^ n.toNat : Nat) : Int) ∧ dig (rd rows v) v = false)) → Ev (fun q => impl_IsGraph.j2 q n (v : Int) (rd rows v) rows (rows.length : Int) (v : Int) g n rows)
        (decide (∀ k : Nat, v ≤ k → k < rows.length → (0 ≤ rd rows k ∧ rd rows k < ((2 ^ n.toNat : Nat) : Int) ∧ dig (rd rows k) k = false) ∧ ∀ w : Nat, 0 ≤ w → w < rows.length → dig (rd rows k) w = dig (rd rows w) k)) := by
      intro g hg
      refine Ev.step (fun k => impl_IsGraph.j2.eq_2 ..) ?_
      by_cases c : g = true
      · simp only [if_pos c]
        rw [decide_eq_false (fun a => hg.1 c (a v (Nat.le_refl _) (by omega)).1)]
        exact Ev.now _
      · simp only [if_neg c]
        have c2 : 0 ≤ rd rows v ∧ rd rows v < ((2 ^ n.toNat : Nat) : Int) ∧ dig (rd rows v) v = false := Classical.not_not.1 fun a => c (hg.2 a)
        refine ev_cast (impl_IsGraph.ev_1 n rows hn hn1 hl v (by omega) _ (ih (v + 1) (by omega)) rows.length 0 (by omega)) ?_
        refine dec_congr ?_
        constructor
        · rintro ⟨a1, a2⟩
          exact (scan_step (P := fun k : Nat => (0 ≤ rd rows k ∧ rd rows k < ((2 ^ n.toNat : Nat) : Int) ∧ dig (rd rows k) k = false) ∧ ∀ w : Nat, 0 ≤ w → w < rows.length → dig (rd rows k) w = dig (rd rows w) k) (i := v) ⟨c2, a1⟩).2 a2
        · intro a
          exact ⟨(a v (Nat.le_refl _) (by omega)).2, fun k hk hk1 => a k (by omega) hk1⟩
    by_cases c1 : rd rows v < 0
    · simp only [if_pos c1]
      exact key true ⟨fun _ a => by omega, fun _ => rfl⟩
    · simp only [if_neg c1]
      by_cases c2 : rd rows v ≥ ((2 ^ n.toNat : Nat) : Int)
      · simp only [if_pos c2]
        exact key true ⟨fun _ a => by omega, fun _ => rfl⟩
      · simp only [if_neg c2]
        exact key _ ⟨fun g a => by rw [a.2.2] at g; exact Bool.false_ne_true g, fun g => by
          by_cases h : dig (rd rows v) v = true
          · exact h
          · exact (g ⟨by omega, by omega, by simpa using h⟩).elim⟩
theorem isG_iff (n : Int) (rows : List Int) (hn : 1 ≤ n) (hn1 : n ≤ 62) (hl : (rows.length : Int) = n) :
    (∀ k : Nat, 0 ≤ k → k < rows.length → (0 ≤ rd rows k ∧ rd rows k < ((2 ^ n.toNat : Nat) : Int) ∧ dig (rd rows k) k = false) ∧ ∀ w : Nat, 0 ≤ w → w < rows.length → dig (rd rows k) w = dig (rd rows w) k) ↔ IsG n rows :=
  ⟨fun a => ⟨hn, hn1, hl, fun v hv => (a v (by omega) (by omega)).1, fun v w hv hw => (a v (by omega) (by omega)).2 w (by omega) (by omega)⟩,
    fun a k _ hk => ⟨a.2.2.2.1 k (by omega), fun w _ hw => a.2.2.2.2 k w (by omega) (by omega)⟩⟩
theorem impl_IsGraph.ev (n : Int) (rows : List Int) : Ev (fun q => impl_IsGraph.f q n rows) (decide (IsG n rows)) := by
  unfold impl_IsGraph.f
  by_cases h1 : n < 1
  · simp only [if_pos h1]
    refine Ev.step (fun k => impl_IsGraph.j0.eq_2 ..) ?_
    simp only [if_true]; rw [decide_eq_false (fun a => by have := a.1; omega)]; exact Ev.now _
  by_cases h2 : n > 62
  · simp only [if_neg h1, if_pos h2]
    refine Ev.step (fun k => impl_IsGraph.j0.eq_2 ..) ?_
    simp only [if_true]; rw [decide_eq_false (fun a => by have := a.2.1; omega)]; exact Ev.now _
  simp only [if_neg h1, if_neg h2]
  refine Ev.step (fun k => impl_IsGraph.j0.eq_2 ..) ?_
  by_cases h3 : (rows.length : Int) = n
  · simp only [h3, bne_self_eq_false, Bool.false_eq_true, if_false]
    have := impl_IsGraph.ev_0 n rows (by omega) (by omega) h3 rows.length 0 (by omega)
    rw [h3] at this
    refine ev_cast this ?_
    refine dec_congr ?_
    exact isG_iff n rows (by omega) (by omega) h3
  · simp only [bne_iff_ne, ne_eq, h3, not_false_eq_true, if_true]
    rw [decide_eq_false (fun a => h3 a.2.2.1)]
    exact Ev.now _

/-- The complement's rows. -/
def ComplE (rows : List Int) (v w : Nat) : Prop := v ≠ w ∧ ¬ Adj rows v w
noncomputable def compl (n : Int) (rows : List Int) : List Int := gr n.toNat (ComplE rows)
/-- Row v of the complement, by subtraction. -/
theorem compl_row {n : Int} {rows : List Int} (h : IsG n rows) {v : Nat} (hv : v < n.toNat) :
    ((2 ^ n.toNat : Nat) : Int) - 1 - rd rows v - ((2 ^ v : Nat) : Int) = ((bsum n.toNat fun w => decide (ComplE rows v w) : Nat) : Int) := by
  have key : ∀ m : Nat, (bsum m (fun w => decide (Adj rows v w))) + (if v < m then 2 ^ v else 0) + (bsum m fun w => decide (ComplE rows v w)) + 1 = 2 ^ m := by
    intro m
    induction m with
    | zero => simp [bsum]
    | succ m ih =>
      simp only [bsum, Nat.pow_succ]
      have hirr := h.irrefl hv
      by_cases c1 : v = m
      · subst c1
        rw [if_neg (Nat.lt_irrefl v)] at ih
        have f1 : decide (Adj rows v v) = false := by simpa using hirr
        have f2 : decide (ComplE rows v v) = false := by simp [ComplE]
        simp only [f1, f2, Bool.false_eq_true, if_false, if_pos (Nat.lt_succ_self v)]
        omega
      · have e : (if v < m + 1 then 2 ^ v else 0) = if v < m then 2 ^ v else 0 := by
          by_cases c2 : v < m
          · rw [if_pos c2, if_pos (by omega)]
          · rw [if_neg c2, if_neg (by omega)]
        rw [e]
        by_cases c3 : Adj rows v m
        · have f1 : decide (Adj rows v m) = true := by simpa using c3
          have f2 : decide (ComplE rows v m) = false := by simp [ComplE, c3]
          simp only [f1, f2, if_true, Bool.false_eq_true, if_false]; omega
        · have f1 : decide (Adj rows v m) = false := by simpa using c3
          have f2 : decide (ComplE rows v m) = true := by simp [ComplE, c1, c3]
          simp only [f1, f2, if_true, Bool.false_eq_true, if_false]; omega
  have k := key n.toNat
  rw [if_pos hv] at k
  have hr : rd rows (v : Int) = ((bsum n.toNat (fun w => decide (Adj rows v w)) : Nat) : Int) := by
    have := h.rows_eq
    rw [this, gr_rd hv, ← this]
  rw [hr]
  generalize bsum n.toNat (fun w => decide (Adj rows v w)) = a at k ⊢
  generalize (bsum n.toNat fun w => decide (ComplE rows v w)) = b at k ⊢
  generalize 2 ^ n.toNat = c at k ⊢
  generalize 2 ^ v = d at k ⊢
  omega
theorem list_set_take {l m : List Int} (h : l.length = m.length) (i : Nat) (hi : i < l.length) (e : ∀ j, j < i → l[j]? = m[j]?) (x : Int) (hx : m[i]? = some x) : ∀ j, j < i + 1 → (l.set i x)[j]? = m[j]? := by
  intro j hj
  by_cases c : i = j
  · subst c; rw [List.getElem?_set_self hi, hx]
  · rw [List.getElem?_set_ne c]; exact e j (by omega)
theorem gr_get {n : Nat} {E : Nat → Nat → Prop} {v : Nat} (h : v < n) : (gr n E)[v]? = some ((bsum n fun w => decide (E v w) : Nat) : Int) := by
  have := gr_rd (E := E) h
  rw [rd_nat, List.getD_eq_getElem?_getD] at this
  rw [← this]
  rw [List.getElem?_eq_getElem (by rw [gr_length]; exact h)]
  rfl
theorem spec_l01Complement.ev_l {n : Int} {rows : List Int} (h : IsG n rows) (d : Nat) : ∀ (i : Nat) (acc : List Int), acc.length = n.toNat → (∀ j, j < i → acc[j]? = (compl n rows)[j]?) → i + d = n.toNat →
    Ev (fun q => spec_l01Complement.l0 q (i : Int) n rows n acc) (n, compl n rows) := by
  have hn := h.1
  have hn1 := h.2.1
  have hl := h.2.2.1
  have hp : 1 ≤ 2 ^ n.toNat := Nat.one_le_two_pow
  have hq := pow62 (n := n.toNat) (by omega)
  have hcl : (compl n rows).length = n.toNat := gr_length _ _
  induction d with
  | zero =>
    intro i acc h1 h2 h3
    refine Ev.step (fun k => spec_l01Complement.l0.eq_2 ..) ?_
    simp only [if_neg (show ¬ ((i : Int) < n) by omega)]
    refine ev_some ?_
    congr 1
    refine List.ext_getElem? fun j => ?_
    by_cases hj : j < i
    · exact h2 j hj
    · rw [List.getElem?_eq_none (by omega), List.getElem?_eq_none (by omega)]
  | succ d ih =>
    intro i acc h1 h2 h3
    refine Ev.step (fun k => spec_l01Complement.l0.eq_2 ..) ?_
    have hr := h.2.2.2.1 i (by omega)
    have hi2 := pow62 (n := i) (by omega)
    have cr := compl_row h (v := i) (by omega)
    have hb := bsum_lt n.toNat fun w => decide (ComplE rows i w)
    rw [u64 (n := n) (by omega) (by omega), u64 (n := (i : Int)) (by omega) (by omega), shl_one (by omega) hn1, shl_one (n := (i : Int)) (by omega) (by omega), Int.toNat_natCast]
    generalize hP : 2 ^ n.toNat = P at *
    generalize hD : 2 ^ i = D at *
    rw [w64 (n := (P : Int) - 1) (by omega) (by omega), w64 (n := (P : Int) - 1 - _) (by omega) (by omega), w64 (n := (P : Int) - 1 - _ - _) (by omega) (by omega), w64 (by omega) (by omega), cr]
    simp only [if_pos (show (i : Int) < n by omega), if_pos (show 0 ≤ n by omega), if_pos (show (0 : Int) ≤ (i : Int) by omega), if_pos (show (i : Int) < (rows.length : Int) by omega), if_pos (show (i : Int) < (acc.length : Int) by omega)]
    exact ih (i + 1) _ (by simp [h1]) (list_set_take (by omega) i (by omega) h2 _ (gr_get (n := n.toNat) (v := i) (by omega))) (by omega)
theorem spec_l01Complement.ev {n : Int} {rows : List Int} (h : IsG n rows) : Ev (fun q => spec_l01Complement.f q n rows) (n, compl n rows) := by
  unfold spec_l01Complement.f
  have := h.1
  have := h.2.1
  rw [spec_l01Empty.sp _ (by omega) (by omega)]
  exact spec_l01Complement.ev_l h n.toNat 0 _ (by simp) (fun j hj => by omega) (by omega)

theorem impl_graphCode.ev_l (n : Int) (rows : List Int) (l : List Int) (hl : l.length ≤ 100) (d : Nat) : ∀ i : Nat, i + d = l.length →
    Ev (fun q => impl_graphCode.l0 q l (l.length : Int) (i : Int) n rows) (if ∀ j : Nat, i ≤ j → j < l.length → 0 ≤ rd l (j : Int) ∧ rd l (j : Int) < n then 0 else 2) := by
  induction d with
  | zero =>
    intro i e
    refine Ev.step (fun k => impl_graphCode.l0.eq_2 ..) ?_
    simp only [if_neg (show ¬ ((i : Int) < (l.length : Int)) by omega)]
    exact ev_some (if_pos (scan_end (by omega))).symm
  | succ d ih =>
    intro i e
    refine Ev.step (fun k => impl_graphCode.l0.eq_2 ..) ?_
    rw [w64 (by omega) (by omega)]
    simp only [if_pos (show (i : Int) < (l.length : Int) by omega), if_pos (show (0 : Int) ≤ (i : Int) by omega)]
    have fl : ¬ (0 ≤ rd l (i : Int) ∧ rd l (i : Int) < n) → Ev (fun _ => some (2 : Int)) (if ∀ j : Nat, i ≤ j → j < l.length → 0 ≤ rd l (j : Int) ∧ rd l (j : Int) < n then 0 else 2) := fun c =>
      ev_some (if_neg (scan_fail (P := fun j : Nat => 0 ≤ rd l (j : Int) ∧ rd l (j : Int) < n) (i := i) c (by omega))).symm
    by_cases c : rd l (i : Int) < 0
    · simp only [if_pos c]
      exact fl fun a => by omega
    · by_cases c2 : rd l (i : Int) ≥ n
      · simp only [if_neg c, if_pos c2]
        exact fl fun a => by omega
      · simp only [if_neg c, if_neg c2]
        refine ev_cast (ih (i + 1) (by omega)) ?_
        have := scan_step (P := fun j : Nat => 0 ≤ rd l (j : Int) ∧ rd l (j : Int) < n) (i := i) (n := l.length) ⟨by omega, by omega⟩
        by_cases x : ∀ j, i + 1 ≤ j → j < l.length → 0 ≤ rd l (j : Int) ∧ rd l (j : Int) < n
        · rw [if_pos x, if_pos (this.2 x)]
        · rw [if_neg x, if_neg fun a => x (this.1 a)]
theorem impl_graphCode.ev1 (n : Int) (rows : List Int) (v : Int) : Ev (fun q => impl_graphCode.f q n rows [v]) (if IsG n rows then (if 0 ≤ v ∧ v < n then 0 else 2) else 1) := by
  unfold impl_graphCode.f
  refine Ev.bind (impl_IsGraph.ev n rows) ?_
  by_cases h : IsG n rows
  · simp only [h, decide_true, if_true]
    refine ev_cast (impl_graphCode.ev_l n rows [v] (by simp) 1 0 rfl) ?_
    have : (∀ j : Nat, 0 ≤ j → j < [v].length → 0 ≤ rd [v] (j : Int) ∧ rd [v] (j : Int) < n) ↔ (0 ≤ v ∧ v < n) :=
      ⟨fun a => a 0 (by omega) (by simp), fun a j _ hj => by
        have : j = 0 := by simp only [List.length_cons, List.length_nil] at hj; omega
        subst this; exact a⟩
    by_cases x : 0 ≤ v ∧ v < n
    · rw [if_pos x, if_pos (this.2 x)]
    · rw [if_neg x, if_neg fun a => x (this.1 a)]
  · simp only [h, decide_false, Bool.false_eq_true, if_false]
    exact Ev.now _
theorem impl_graphCode.ev2 (n : Int) (rows : List Int) (v w : Int) : Ev (fun q => impl_graphCode.f q n rows [v, w]) (if IsG n rows then (if (0 ≤ v ∧ v < n) ∧ 0 ≤ w ∧ w < n then 0 else 2) else 1) := by
  unfold impl_graphCode.f
  refine Ev.bind (impl_IsGraph.ev n rows) ?_
  by_cases h : IsG n rows
  · simp only [h, decide_true, if_true]
    refine ev_cast (impl_graphCode.ev_l n rows [v, w] (by simp) 2 0 rfl) ?_
    have : (∀ j : Nat, 0 ≤ j → j < [v, w].length → 0 ≤ rd [v, w] (j : Int) ∧ rd [v, w] (j : Int) < n) ↔ ((0 ≤ v ∧ v < n) ∧ 0 ≤ w ∧ w < n) :=
      ⟨fun a => ⟨a 0 (by omega) (by simp), a 1 (by omega) (by simp)⟩, fun a j _ hj => by
        have : j = 0 ∨ j = 1 := by simp only [List.length_cons, List.length_nil] at hj; omega
        rcases this with rfl | rfl
        · exact a.1
        · exact a.2⟩
    by_cases x : (0 ≤ v ∧ v < n) ∧ 0 ≤ w ∧ w < n
    · rw [if_pos x, if_pos (this.2 x)]
    · rw [if_neg x, if_neg fun a => x (this.1 a)]
  · simp only [h, decide_false, Bool.false_eq_true, if_false]
    exact Ev.now _

/-! ### the set bits of a number, in order -/
theorem bits_TrailingZeros64.sp {x : Nat} (h : x < 2 ^ 63) : bits_TrailingZeros64.f (IntKind.u64.wrap (x : Int)) = some ((Lib.ctz 64 x : Nat) : Int) := by
  unfold bits_TrailingZeros64.f
  rw [u64 (by omega) (by omega), if_pos (by omega), if_pos (by omega), Int.toNat_natCast]
def bitsFrom : Nat → Nat → Int → List Int
  | 0, _, _ => []
  | d + 1, i, r => if dig r i = true then (i : Int) :: bitsFrom d (i + 1) r else bitsFrom d (i + 1) r
theorem bitsFrom_length (r : Int) (d : Nat) : ∀ i, (bitsFrom d i r).length ≤ d := by
  induction d with
  | zero => intro i; simp [bitsFrom]
  | succ d ih =>
    intro i
    have := ih (i + 1)
    simp only [bitsFrom]
    split
    · simp only [List.length_cons]; omega
    · omega
theorem mem_bitsFrom {r : Int} {d : Nat} : ∀ {i : Nat} {x : Int}, x ∈ bitsFrom d i r ↔ ∃ j : Nat, x = (j : Int) ∧ i ≤ j ∧ j < i + d ∧ dig r j = true := by
  induction d with
  | zero =>
    intro i x
    simp only [bitsFrom, List.not_mem_nil, false_iff]
    rintro ⟨j, _, a, b, _⟩; omega
  | succ d ih =>
    intro i x
    simp only [bitsFrom]
    split
    · rename_i c
      rw [List.mem_cons, ih]
      constructor
      · rintro (rfl | ⟨j, a, b, e, g⟩)
        · exact ⟨i, rfl, by omega, by omega, c⟩
        · exact ⟨j, a, by omega, by omega, g⟩
      · rintro ⟨j, a, b, e, g⟩
        by_cases h : j = i
        · exact .inl (by rw [a, h])
        · exact .inr ⟨j, a, by omega, by omega, g⟩
    · rename_i c
      rw [ih]
      constructor
      · rintro ⟨j, a, b, e, g⟩; exact ⟨j, a, by omega, by omega, g⟩
      · rintro ⟨j, a, b, e, g⟩
        refine ⟨j, a, ?_, by omega, g⟩
        rcases Nat.lt_or_ge i j with h | h
        · omega
        · exact absurd (show dig r i = true by rw [show i = j by omega]; exact g) c
theorem bitsFrom_congr {r s : Int} {d : Nat} : ∀ {i : Nat}, (∀ j, i ≤ j → j < i + d → dig r j = dig s j) → bitsFrom d i r = bitsFrom d i s := by
  induction d with
  | zero => intro i _; rfl
  | succ d ih =>
    intro i h
    simp only [bitsFrom]
    rw [h i (by omega) (by omega), ih (i := i + 1) fun j a b => h j (by omega) (by omega)]
/-- The lowest bit struck. -/
theorem low_bit {x i : Nat} (h1 : x.testBit i = true) (h0 : ∀ j, j < i → x.testBit j = false) (hx : x < 2 ^ 63) : Lib.ctz 64 x = i ∧ ∀ j, (x &&& (x - 1)).testBit j = (x.testBit j && decide (j ≠ i)) := by
  have x0 : x ≠ 0 := fun a => by rw [a] at h1; simp at h1
  obtain ⟨m, hm, hk⟩ := Lib.ctzFrom_spec 64 x (by omega) (by omega)
  have e : Lib.ctz 64 x = Lib.ctzFrom 64 x := by unfold Lib.ctz; rw [if_neg x0]
  generalize Lib.ctzFrom 64 x = k at hm hk e
  have hp := Nat.two_pow_pos k
  have ex : x = 2 ^ (k + 1) * m + 2 ^ k := by rw [hm, Nat.pow_succ, Nat.mul_add, Nat.mul_one, Nat.mul_assoc]
  have hlt : 2 ^ k < 2 ^ (k + 1) := Nat.pow_lt_pow_right (by decide) (by omega)
  have ex1 : x - 1 = 2 ^ (k + 1) * m + (2 ^ k - 1) := by rw [ex]; omega
  have b : ∀ j, x.testBit j = if j < k + 1 then decide (k = j) else m.testBit (j - (k + 1)) := fun j => by
    rw [ex, Nat.testBit_two_pow_mul_add _ hlt, Nat.testBit_two_pow]
  have b1 : ∀ j, (x - 1).testBit j = if j < k + 1 then decide (j < k) else m.testBit (j - (k + 1)) := fun j => by
    rw [ex1, Nat.testBit_two_pow_mul_add _ (by omega), Nat.testBit_two_pow_sub_one]
  have ik : k = i := by
    rcases Nat.lt_trichotomy k i with h | h | h
    · have := h0 k h
      rw [b k, if_pos (by omega)] at this
      simp at this
    · exact h
    · have := h1
      rw [b i, if_pos (by omega)] at this
      simp at this
      omega
  subst ik
  refine ⟨e, fun j => ?_⟩
  rw [Nat.testBit_and, b j, b1 j]
  by_cases c : j < k + 1
  · rw [if_pos c, if_pos c]
    by_cases d : k = j
    · subst d; simp
    · simp [d]
  · rw [if_neg c, if_neg c]
    have : j ≠ k := by omega
    simp [this]

theorem impl_list.ev_l (n : Nat) (hn : n ≤ 62) (d : Nat) : ∀ (i x : Nat) (acc : List Int), i + d = n → x < 2 ^ n → acc.length ≤ i → (∀ j, j < i → x.testBit j = false) →
    Ev (fun q => impl_list.l0 q (x : Int) acc) (acc ++ bitsFrom d i (x : Int)) := by
  have hp := pow62 hn
  induction d with
  | zero =>
    intro i x acc e hx ha h
    have x0 : x = 0 := by
      refine Nat.eq_of_testBit_eq fun j => ?_
      rw [Nat.zero_testBit]
      rcases Nat.lt_or_ge j n with c | c
      · exact h j (by omega)
      · exact Nat.testBit_lt_two_pow (Nat.lt_of_lt_of_le hx (Nat.pow_le_pow_right (by decide) c))
    refine Ev.step (fun k => impl_list.l0.eq_2 ..) ?_
    rw [x0]
    simp only [if_pos (show ((0 : Nat) : Int) = 0 from rfl), bitsFrom, List.append_nil]
    exact Ev.now _
  | succ d ih =>
    intro i x acc e hx ha h
    by_cases c : x.testBit i = true
    · obtain ⟨h1, h2⟩ := low_bit c h (by omega)
      have x0 : x ≠ 0 := fun a => by rw [a] at c; simp at c
      refine Ev.step (fun k => impl_list.l0.eq_2 ..) ?_
      rw [bits_TrailingZeros64.sp (by omega), h1, w64 (by omega) (by omega), show (x : Int) - 1 = ((x - 1 : Nat) : Int) by omega, bit_and _ _ (by omega) (by omega)]
      simp only [if_neg (show ¬ ((x : Int) = 0) by omega), Option.bind_some, if_pos (show acc.length < 17592186044416 by omega)]
      have := ih (i + 1) (x &&& (x - 1)) (acc ++ [(i : Int)]) (by omega) (Nat.lt_of_le_of_lt Nat.and_le_left hx) (by rw [List.length_append]; simp only [List.length_cons, List.length_nil]; omega) (fun j hj => by
        rw [h2 j]
        rcases Nat.lt_succ_iff_lt_or_eq.1 hj with a | rfl
        · rw [h j a]; rfl
        · simp)
      refine ev_cast this ?_
      have cd : dig (x : Int) i = true := by rw [dig_nat]; exact c
      simp only [bitsFrom, if_pos cd, List.append_assoc, List.singleton_append]
      rw [bitsFrom_congr fun j a b => ?_]
      rw [dig_nat, dig_nat, h2 j]
      simp [show j ≠ i by omega]
    · have cd : ¬ dig (x : Int) i = true := by rw [dig_nat]; exact c
      simp only [bitsFrom, if_neg cd]
      refine ih (i + 1) x acc (by omega) hx (by omega) fun j hj => ?_
      rcases Nat.lt_succ_iff_lt_or_eq.1 hj with a | rfl
      · exact h j a
      · simpa using c
theorem impl_list.ev {n : Nat} (hn : n ≤ 62) {x : Nat} (hx : x < 2 ^ n) : Ev (fun q => impl_list.f q (x : Int)) (bitsFrom n 0 (x : Int)) := by
  unfold impl_list.f
  exact impl_list.ev_l n hn n 0 x [] (by omega) hx (by simp) (fun j hj => by omega)

/-! ### ways in a graph -/
inductive Way (rows : List Int) (n : Nat) (u : Nat) : Nat → Prop
  | refl : Way rows n u u
  | step {v w : Nat} : Way rows n u v → v < n → w < n → Adj rows v w → Way rows n u w
theorem Way.lt {rows : List Int} {n u w : Nat} (h : Way rows n u w) (hu : u < n) : w < n := by
  cases h with
  | refl => exact hu
  | step _ _ b _ => exact b
theorem Way.trans {rows : List Int} {n u v w : Nat} (h : Way rows n u v) (k : Way rows n v w) : Way rows n u w := by
  induction k with
  | refl => exact h
  | step _ a b c ih => exact .step ih a b c
theorem Way.symm {rows : List Int} {n : Int} (g : IsG n rows) {u v : Nat} (h : Way rows n.toNat u v) : Way rows n.toNat v u := by
  induction h with
  | refl => exact .refl
  | step _ a b c ih => exact (Way.step .refl b a ((g.symm a b).1 c)).trans ih
theorem IsG_row {n : Int} {rows : List Int} (h : IsG n rows) {v : Int} (h0 : 0 ≤ v) (h1 : v < n) : ∃ x : Nat, rd rows v = (x : Int) ∧ x < 2 ^ n.toNat := by
  obtain ⟨u, rfl⟩ := Int.eq_ofNat_of_zero_le h0
  obtain ⟨a, b, _⟩ := h.2.2.2.1 u h1
  obtain ⟨x, hx⟩ := Int.eq_ofNat_of_zero_le a
  exact ⟨x, hx, by rw [hx] at b; exact_mod_cast b⟩
/-- A set that holds v, is closed, and holds none but what v reaches, is what v reaches. -/
theorem closed_way {rows : List Int} {n v : Nat} {P : Nat → Prop} (h0 : P v) (h1 : ∀ x y, x < n → y < n → P x → Adj rows x y → P y) : ∀ w, Way rows n v w → P w := by
  intro w h
  induction h with
  | refl => exact h0
  | step _ a b c ih => exact h1 _ _ a b ih c

/-! ### walks by their lengths -/
def Wk (E : Nat → Nat → Prop) (n v : Nat) : Nat → Nat → Prop
  | 0, w => w = v
  | d + 1, w => w < n ∧ ∃ u, u < n ∧ Wk E n v d u ∧ E u w
theorem Wk.lt {E : Nat → Nat → Prop} {n v d w : Nat} (hv : v < n) (h : Wk E n v d w) : w < n := by
  cases d with
  | zero => rw [Wk] at h; rw [h]; exact hv
  | succ d => exact h.1
/-- w lies d steps from v, not fewer. -/
def AtD (E : Nat → Nat → Prop) (n v d w : Nat) : Prop := Wk E n v d w ∧ ∀ e, e < d → ¬ Wk E n v e w
theorem least_of {P : Nat → Prop} (d : Nat) (h : P d) : ∃ e, e ≤ d ∧ P e ∧ ∀ x, x < e → ¬ P x := by
  induction d using Nat.strongRecOn with
  | _ d ih =>
    by_cases c : ∃ e, e < d ∧ P e
    · obtain ⟨e, a, b⟩ := c
      obtain ⟨x, p, q, r⟩ := ih e a b
      exact ⟨x, by omega, q, r⟩
    · exact ⟨d, Nat.le_refl _, h, fun x hx p => c ⟨x, hx, p⟩⟩
theorem AtD.pred {E : Nat → Nat → Prop} {n v d w : Nat} (h : AtD E n v (d + 1) w) : w < n ∧ ∃ u, u < n ∧ AtD E n v d u ∧ E u w := by
  obtain ⟨⟨a, u, b, c, e⟩, f⟩ := h
  exact ⟨a, u, b, ⟨c, fun x hx p => f (x + 1) (by omega) ⟨a, u, b, p, e⟩⟩, e⟩
theorem AtD.down {E : Nat → Nat → Prop} {n v d : Nat} (k : Nat) : ∀ {w : Nat}, AtD E n v (d + k) w → ∃ u, AtD E n v d u := by
  induction k with
  | zero => intro w h; exact ⟨w, h⟩
  | succ k ih => intro w h; obtain ⟨_, u, _, b, _⟩ := AtD.pred (d := d + k) h; exact ih b
/-- x is the distance of w from v, -1 if there is no way. -/
def DistIs (E : Nat → Nat → Prop) (n v w : Nat) (x : Int) : Prop := (x = -1 ∧ ∀ d, ¬ Wk E n v d w) ∨ ∃ d : Nat, x = (d : Int) ∧ AtD E n v d w
theorem DistIs.uniq {E : Nat → Nat → Prop} {n v w : Nat} {x y : Int} (h : DistIs E n v w x) (k : DistIs E n v w y) : x = y := by
  rcases h with ⟨a, b⟩ | ⟨d, a, b⟩
  · rcases k with ⟨c, _⟩ | ⟨e, _, f⟩
    · rw [a, c]
    · exact absurd f.1 (b e)
  · rcases k with ⟨_, c⟩ | ⟨e, c, f⟩
    · exact absurd b.1 (c d)
    · rcases Nat.lt_trichotomy d e with g | g | g
      · exact absurd b.1 (f.2 d g)
      · rw [a, c, g]
      · exact absurd f.1 (b.2 e g)
theorem dist_exists (E : Nat → Nat → Prop) (n v w : Nat) : ∃ x, DistIs E n v w x := by
  by_cases c : ∃ d, Wk E n v d w
  · obtain ⟨d, h⟩ := c
    obtain ⟨e, _, a, b⟩ := least_of (P := fun d => Wk E n v d w) d h
    exact ⟨e, .inr ⟨e, rfl, a, b⟩⟩
  · exact ⟨-1, .inl ⟨rfl, fun d h => c ⟨d, h⟩⟩⟩
noncomputable def distL (E : Nat → Nat → Prop) (n v : Nat) : List Int := (List.range n).map fun w => Classical.choose (dist_exists E n v w)
theorem distL_length (E : Nat → Nat → Prop) (n v : Nat) : (distL E n v).length = n := by simp [distL]
theorem distL_at (E : Nat → Nat → Prop) {n w : Nat} (v : Nat) (hw : w < n) : DistIs E n v w (rd (distL E n v) (w : Int)) := by
  have : rd (distL E n v) (w : Int) = Classical.choose (dist_exists E n v w) := by rw [rd_nat]; simp [distL, hw]
  rw [this]
  exact Classical.choose_spec (dist_exists E n v w)
theorem distL_eq {E : Nat → Nat → Prop} {n v : Nat} {L : List Int} (hl : L.length = n) (h : ∀ w, w < n → DistIs E n v w (rd L (w : Int))) : L = distL E n v :=
  list_ext_rd (by rw [hl, distL_length]) fun w hw => (h w (by omega)).uniq (distL_at E v (by omega))

theorem slices_Repeat.sp {n : Int} (h0 : 1 ≤ n) (h1 : n ≤ 62) : slices_Repeat_int64_int64.f [-1] n = some (List.replicate n.toNat (-1)) := by
  unfold slices_Repeat_int64_int64.f
  rw [if_pos (show ([-1] : List Int).length = 1 from rfl), if_pos h0, if_pos h1]
  rfl
theorem bit_lt' {m c r : Nat} (hc : c < 2 ^ m) (h : c.testBit r = true) : r < m := by
  rcases Nat.lt_or_ge r m with a | a
  · exact a
  · rw [Nat.testBit_lt_two_pow (Nat.lt_of_lt_of_le hc (Nat.pow_le_pow_right (by decide) a))] at h; cases h
section
variable {n : Int} {rows : List Int} (g : IsG n rows)
include g
theorem impl_Graph_distances.ev_1 {S F dd : Nat} (hF : F < 2 ^ n.toNat) {X0 : List Int} (hX0 : X0.length = n.toNat) (R : List Int)
    (next : ∀ (X : List Int) (N : Nat), X.length = n.toNat → (∀ w, w < n.toNat → rd X (w : Int) = if F.testBit w = true then (dd : Int) else rd X0 (w : Int)) → N < 2 ^ n.toNat → (∀ j, N.testBit j = true ↔ ∃ u, u < n.toNat ∧ F.testBit u = true ∧ Adj rows u j) →
      Ev (fun q => impl_Graph_distances.l0 q X (Go.bits .or .i64 (S : Int) (N : Int)) (Go.bits .andNot .i64 (N : Int) (S : Int)) (wrap64 ((dd : Int) + 1)) n rows) R) (d : Nat) :
    ∀ (i A : Nat) (X : List Int), i + d = (bitsFrom n.toNat 0 (F : Int)).length → A < 2 ^ n.toNat → X.length = n.toNat →
      (∀ w, w < n.toNat → rd X (w : Int) = if ∃ k : Nat, k < i ∧ rd (bitsFrom n.toNat 0 (F : Int)) (k : Int) = (w : Int) then (dd : Int) else rd X0 (w : Int)) →
      (∀ j, A.testBit j = true ↔ ∃ k : Nat, k < i ∧ ∃ u : Nat, rd (bitsFrom n.toNat 0 (F : Int)) (k : Int) = (u : Int) ∧ Adj rows u j) →
      Ev (fun q => impl_Graph_distances.l1 q X (S : Int) (dd : Int) (A : Int) (bitsFrom n.toNat 0 (F : Int)) ((bitsFrom n.toNat 0 (F : Int)).length : Int) (i : Int) n rows) R := by
  have hn := g.le
  have hp := pow62 hn
  have hlen := bitsFrom_length (F : Int) n.toNat 0
  have hrl := g.len
  have elem : ∀ k : Nat, k < (bitsFrom n.toNat 0 (F : Int)).length → ∃ u : Nat, rd (bitsFrom n.toNat 0 (F : Int)) (k : Int) = (u : Int) ∧ u < n.toNat ∧ F.testBit u = true := fun k hk => by
    obtain ⟨u, a, _, b, c⟩ := mem_bitsFrom.1 (rd_mem (l := bitsFrom n.toNat 0 (F : Int)) (i := (k : Int)) (by omega) (by omega))
    exact ⟨u, a, by omega, by rw [← dig_nat]; exact c⟩
  have back : ∀ u, u < n.toNat → F.testBit u = true → ∃ k : Nat, k < (bitsFrom n.toNat 0 (F : Int)).length ∧ rd (bitsFrom n.toNat 0 (F : Int)) (k : Int) = (u : Int) := fun u hu hb => by
    obtain ⟨k, hk, hr⟩ := mem_rd.1 (show (u : Int) ∈ bitsFrom n.toNat 0 (F : Int) from mem_bitsFrom.2 ⟨u, rfl, by omega, by omega, by rw [dig_nat]; exact hb⟩)
    exact ⟨k, hk, hr⟩
  induction d with
  | zero =>
    intro i A X e hA hX hXv hAb
    refine Ev.step (fun k => impl_Graph_distances.l1.eq_2 ..) ?_
    simp only [if_neg (show ¬ ((i : Int) < ((bitsFrom n.toNat 0 (F : Int)).length : Int)) by omega)]
    refine next X A hX (fun w hw => ?_) hA fun j => (hAb j).trans ⟨?_, ?_⟩
    · rw [hXv w hw]
      by_cases c : F.testBit w = true
      · obtain ⟨k, hk, hr⟩ := back w hw c
        rw [if_pos c, if_pos ⟨k, by omega, hr⟩]
      · rw [if_neg c, if_neg]
        rintro ⟨k, hk, hr⟩
        obtain ⟨u, a, _, b⟩ := elem k (by omega)
        have : u = w := by omega
        subst this
        exact c b
    · rintro ⟨k, hk, u, hu, ha⟩
      obtain ⟨u', a, b, c⟩ := elem k (by omega)
      have : u = u' := by omega
      subst this
      exact ⟨u, b, c, ha⟩
    · rintro ⟨u, hu, hb, ha⟩
      obtain ⟨k, hk, hr⟩ := back u hu hb
      exact ⟨k, by omega, u, hr, ha⟩
  | succ d ih =>
    intro i A X e hA hX hXv hAb
    refine Ev.step (fun k => impl_Graph_distances.l1.eq_2 ..) ?_
    obtain ⟨u, hu, hun, _⟩ := elem i (by omega)
    obtain ⟨x, hx, hx1⟩ := IsG_row g (v := (u : Int)) (by omega) (by omega)
    rw [hu, hx, w64 (n := (i : Int) + 1) (by omega) (by omega), bit_or _ _ (by omega) (by omega)]
    simp only [if_pos (show (i : Int) < ((bitsFrom n.toNat 0 (F : Int)).length : Int) by omega), if_pos (show (0 : Int) ≤ (i : Int) by omega), if_pos (show (0 : Int) ≤ (u : Int) by omega), if_pos (show (u : Int) < (rows.length : Int) by omega), if_pos (show (u : Int) < (X.length : Int) by omega), Int.toNat_natCast]
    refine ih (i + 1) (A ||| x) (X.set u (dd : Int)) (by omega) (Nat.or_lt_two_pow hA hx1) (by rw [List.length_set]; exact hX) (fun w hw => ?_) fun j => ?_
    · by_cases c : w = u
      · subst c
        rw [rd_set_self _ _ (by omega), if_pos ⟨i, by omega, hu⟩]
      · rw [rd_set_ne _ _ _ (fun a => c a.symm), hXv w hw]
        by_cases z : ∃ k : Nat, k < i ∧ rd (bitsFrom n.toNat 0 (F : Int)) (k : Int) = (w : Int)
        · obtain ⟨k, a, b⟩ := z
          rw [if_pos ⟨k, a, b⟩, if_pos ⟨k, by omega, b⟩]
        · rw [if_neg z, if_neg]
          rintro ⟨k, a, b⟩
          rcases Nat.lt_succ_iff_lt_or_eq.1 a with a | rfl
          · exact z ⟨k, a, b⟩
          · exact c (by omega)
    · rw [Nat.testBit_or, Bool.or_eq_true, hAb j]
      have hxb : x.testBit j = true ↔ Adj rows u j := by unfold Adj; rw [hx, dig_nat]
      rw [hxb]
      constructor
      · rintro (⟨k, a, b⟩ | a)
        · exact ⟨k, by omega, b⟩
        · exact ⟨i, by omega, u, hu, a⟩
      · rintro ⟨k, a, u', b, c⟩
        rcases Nat.lt_succ_iff_lt_or_eq.1 a with a | rfl
        · exact .inl ⟨k, a, u', b, c⟩
        · have : u' = u := by omega
          subst this
          exact .inr c
theorem impl_Graph_distances.ev_0 {v : Nat} (hv : v < n.toNat) (k : Nat) : ∀ (d S F : Nat) (X : List Int), S < 2 ^ n.toNat → F < 2 ^ n.toNat → X.length = n.toNat → (∀ w, F.testBit w = true ↔ AtD (Adj rows) n.toNat v d w) → (∀ w, S.testBit w = true ↔ ∃ e, e ≤ d ∧ Wk (Adj rows) n.toNat v e w) →
    (∀ w, w < n.toNat → (∃ e, e < d ∧ AtD (Adj rows) n.toNat v e w ∧ rd X (w : Int) = (e : Int)) ∨ ((∀ e, e < d → ¬ Wk (Adj rows) n.toNat v e w) ∧ rd X (w : Int) = -1)) → (F = 0 ∨ (d < S ∧ 2 ^ n.toNat - S < k)) →
    Ev (fun q => impl_Graph_distances.l0 q X (S : Int) (F : Int) (d : Int) n rows) (distL (Adj rows) n.toNat v) := by
  have hn := g.le
  have hp := pow62 hn
  have done : ∀ (d S : Nat) (X : List Int), X.length = n.toNat → (∀ w, (0 : Nat).testBit w = true ↔ AtD (Adj rows) n.toNat v d w) →
      (∀ w, w < n.toNat → (∃ e, e < d ∧ AtD (Adj rows) n.toNat v e w ∧ rd X (w : Int) = (e : Int)) ∨ ((∀ e, e < d → ¬ Wk (Adj rows) n.toNat v e w) ∧ rd X (w : Int) = -1)) →
      Ev (fun q => impl_Graph_distances.l0 q X (S : Int) ((0 : Nat) : Int) (d : Int) n rows) (distL (Adj rows) n.toNat v) := by
    intro d S X hX h0 h3
    refine Ev.step (fun k => impl_Graph_distances.l0.eq_2 ..) ?_
    simp only [if_pos (show ((0 : Nat) : Int) = 0 from rfl)]
    refine ev_some (distL_eq hX fun w hw => ?_)
    rcases h3 w hw with ⟨e, _, a, b⟩ | ⟨a, b⟩
    · exact .inr ⟨e, b, a⟩
    · refine .inl ⟨b, fun e he => ?_⟩
      obtain ⟨x, _, p, q⟩ := least_of (P := fun e => Wk (Adj rows) n.toNat v e w) e he
      have hx : d ≤ x := by
        rcases Nat.lt_or_ge x d with y | y
        · exact absurd p (a x y)
        · exact y
      obtain ⟨u, hu⟩ := AtD.down (d := d) (x - d) (w := w) (by rw [show d + (x - d) = x by omega]; exact ⟨p, q⟩)
      have := (h0 u).2 hu
      rw [Nat.zero_testBit] at this
      cases this
  induction k with
  | zero =>
    intro d S F X hS hF hX h0 h1 h3 h4
    have : F = 0 := by rcases h4 with h | h <;> omega
    subst this
    exact done d S X hX h0 h3
  | succ k ih =>
    intro d S F X hS hF hX h0 h1 h3 h4
    by_cases f0 : F = 0
    · subst f0; exact done d S X hX h0 h3
    · have h5 := h4.resolve_left f0
      refine Ev.step (fun k => impl_Graph_distances.l0.eq_2 ..) ?_
      simp only [if_neg (show ¬ ((F : Int) = 0) by omega)]
      refine Ev.bind (impl_list.ev hn hF) ?_
      refine impl_Graph_distances.ev_1 g (S := S) (dd := d) hF hX _ (fun X' N hX' hXv hN hNb => ?_) (bitsFrom n.toNat 0 (F : Int)).length 0 0 X (by omega) (Nat.two_pow_pos _) hX (fun w hw => by
        rw [if_neg]; rintro ⟨k, a, _⟩; omega) (fun j => by
        rw [Nat.zero_testBit]
        exact ⟨fun a => (by cases a), fun ⟨k, a, _⟩ => by omega⟩)
      obtain ⟨G, hG, hGb⟩ := bit_andNot N S (by omega) (by omega)
      have hG1 : G < 2 ^ n.toNat := Nat.lt_pow_two_of_testBit _ fun i hi => by
        rw [hGb i, Nat.testBit_lt_two_pow (Nat.lt_of_lt_of_le hN (Nat.pow_le_pow_right (by decide) hi))]; rfl
      rw [hG, bit_or _ _ (by omega) (by omega), w64 (by omega) (by omega)]
      have hle : S ≤ S ||| N := Nat.left_le_or
      have jn : ∀ j, N.testBit j = true → j < n.toNat := fun j hj => bit_lt' hN hj
      have nw : ∀ j, N.testBit j = true → Wk (Adj rows) n.toNat v (d + 1) j := fun j hj => by
        obtain ⟨u, a, b, c⟩ := (hNb j).1 hj
        exact ⟨jn j hj, u, a, ((h0 u).1 b).1, c⟩
      have hnext : ∀ w, Wk (Adj rows) n.toNat v (d + 1) w → S.testBit w = true ∨ N.testBit w = true := fun w hw => by
        obtain ⟨a, u, b, c, e⟩ := hw
        by_cases z : F.testBit u = true
        · exact .inr ((hNb w).2 ⟨u, b, z, e⟩)
        · refine .inl ((h1 w).2 ?_)
          have : ∃ x, x < d ∧ Wk (Adj rows) n.toNat v x u := by
            refine Classical.byContradiction fun no => z ((h0 u).2 ⟨c, fun x hx p => no ⟨x, hx, p⟩⟩)
          obtain ⟨x, p, q⟩ := this
          exact ⟨x + 1, by omega, a, u, b, q, e⟩
      refine ih (d + 1) (S ||| N) G X' (Nat.or_lt_two_pow hS hN) hG1 hX' (fun w => ?_) (fun w => ?_) (fun w hw => ?_) ?_
      · rw [hGb w]
        simp only [Bool.and_eq_true, Bool.not_eq_true']
        constructor
        · rintro ⟨a, b⟩
          refine ⟨nw w a, fun e he p => ?_⟩
          rw [(h1 w).2 ⟨e, by omega, p⟩] at b
          cases b
        · rintro ⟨a, b⟩
          have ns : ¬ S.testBit w = true := fun z => by
            obtain ⟨e, x, y⟩ := (h1 w).1 z
            exact b e (by omega) y
          exact ⟨(hnext w a).resolve_left ns, by simpa using ns⟩
      · rw [Nat.testBit_or, Bool.or_eq_true]
        constructor
        · rintro (a | a)
          · obtain ⟨e, x, y⟩ := (h1 w).1 a
            exact ⟨e, by omega, y⟩
          · exact ⟨d + 1, Nat.le_refl _, nw w a⟩
        · rintro ⟨e, x, y⟩
          by_cases z : e ≤ d
          · exact .inl ((h1 w).2 ⟨e, z, y⟩)
          · rw [show e = d + 1 by omega] at y
            exact hnext w y
      · rw [hXv w hw]
        by_cases z : F.testBit w = true
        · rw [if_pos z]
          exact .inl ⟨d, by omega, (h0 w).1 z, rfl⟩
        · rw [if_neg z]
          rcases h3 w hw with ⟨e, a, b⟩ | ⟨a, b⟩
          · exact .inl ⟨e, by omega, b⟩
          · refine .inr ⟨fun e he p => ?_, b⟩
            rcases Nat.lt_succ_iff_lt_or_eq.1 he with y | rfl
            · exact a e y p
            · exact z ((h0 w).2 ⟨p, a⟩)
      · by_cases g0 : G = 0
        · exact .inl g0
        · refine .inr ?_
          have ne : S ||| N ≠ S := fun a => by
            refine g0 (Nat.eq_of_testBit_eq fun i => ?_)
            rw [hGb i, Nat.zero_testBit]
            by_cases x : N.testBit i = true
            · have : (S ||| N).testBit i = true := by rw [Nat.testBit_or, x]; simp
              rw [a] at this
              rw [x, this]; rfl
            · have : N.testBit i = false := by simpa using x
              rw [this]; rfl
          omega
theorem impl_Graph_distances.ev (v : Nat) (hv : v < n.toNat) : Ev (fun q => impl_Graph_distances.f q n rows (v : Int)) (distL (Adj rows) n.toNat v) := by
  have hn := g.le
  have hp := pow62 hn
  have hb : 2 ^ v < 2 ^ n.toNat := Nat.pow_lt_pow_right (by decide) hv
  have h2 := Nat.one_le_two_pow (n := v)
  unfold impl_Graph_distances.f
  rw [slices_Repeat.sp g.1 g.2.1]
  simp only [Option.bind_some, if_pos (show (0 : Int) ≤ (v : Int) by omega)]
  rw [shl_one (by omega) (by omega), Int.toNat_natCast]
  refine impl_Graph_distances.ev_0 g hv (2 ^ n.toNat + 1) 0 (2 ^ v) (2 ^ v) _ hb hb (by simp) (fun w => ?_) (fun w => ?_) (fun w hw => .inr ⟨fun e he => by omega, ?_⟩) (.inr ⟨h2, Nat.lt_succ_of_le (Nat.sub_le _ _)⟩)
  · rw [Nat.testBit_two_pow, decide_eq_true_eq]
    exact ⟨fun a => ⟨a.symm, fun e he => by omega⟩, fun a => a.1.symm⟩
  · rw [Nat.testBit_two_pow, decide_eq_true_eq]
    exact ⟨fun a => ⟨0, Nat.le_refl _, a.symm⟩, fun ⟨e, a, b⟩ => by
      have : e = 0 := by omega
      subst this
      exact b.symm⟩
  · rw [rd_nat]; simp [hw]
end

theorem spec_l02Code.ev_l (n : Int) (rows : List Int) (hn : 1 ≤ n) (hn1 : n ≤ 62) (l : List Int) (hl : l.length ≤ 100) (d : Nat) : ∀ i : Nat, i + d = l.length →
    Ev (fun q => spec_l02Code.l0 q l (i : Int) n rows) (if ∀ j : Nat, i ≤ j → j < l.length → 0 ≤ rd l (j : Int) ∧ rd l (j : Int) < n then 0 else 2) := by
  induction d with
  | zero =>
    intro i e
    refine Ev.step (fun k => spec_l02Code.l0.eq_2 ..) ?_
    simp only [if_neg (show ¬ ((i : Int) < (l.length : Int)) by omega)]
    exact ev_some (if_pos (scan_end (by omega))).symm
  | succ d ih =>
    intro i e
    refine Ev.step (fun k => spec_l02Code.l0.eq_2 ..) ?_
    rw [w64 (n := n - 1) (by omega) (by omega), w64 (by omega) (by omega)]
    simp only [if_pos (show (i : Int) < (l.length : Int) by omega), if_pos (show (0 : Int) ≤ (i : Int) by omega), spec_l01In.sp, Option.bind_some, decide_eq_true_eq]
    by_cases c : 0 ≤ rd l (i : Int) ∧ rd l (i : Int) ≤ n - 1
    · simp only [if_pos c]
      refine ev_cast (ih (i + 1) (by omega)) ?_
      have := scan_step (P := fun j : Nat => 0 ≤ rd l (j : Int) ∧ rd l (j : Int) < n) (i := i) (n := l.length) ⟨c.1, by omega⟩
      by_cases x : ∀ j, i + 1 ≤ j → j < l.length → 0 ≤ rd l (j : Int) ∧ rd l (j : Int) < n
      · rw [if_pos x, if_pos (this.2 x)]
      · rw [if_neg x, if_neg fun a => x (this.1 a)]
    · simp only [if_neg c]
      exact ev_some (if_neg (scan_fail (P := fun j : Nat => 0 ≤ rd l (j : Int) ∧ rd l (j : Int) < n) (i := i) (fun a => c ⟨a.1, by omega⟩) (by omega))).symm
theorem spec_l02Code.ev1 (n : Int) (rows : List Int) (v : Int) : Ev (fun q => spec_l02Code.f q n rows [v]) (if IsG n rows then (if 0 ≤ v ∧ v < n then 0 else 2) else 1) := by
  unfold spec_l02Code.f
  refine Ev.bind (spec_l01Is.ev n rows) ?_
  by_cases h : IsG n rows
  · simp only [h, decide_true, if_true]
    refine ev_cast (spec_l02Code.ev_l n rows h.1 h.2.1 [v] (by simp) 1 0 rfl) ?_
    have : (∀ j : Nat, 0 ≤ j → j < [v].length → 0 ≤ rd [v] (j : Int) ∧ rd [v] (j : Int) < n) ↔ (0 ≤ v ∧ v < n) :=
      ⟨fun a => a 0 (by omega) (by simp), fun a j _ hj => by
        have : j = 0 := by simp only [List.length_cons, List.length_nil] at hj; omega
        subst this; exact a⟩
    by_cases x : 0 ≤ v ∧ v < n
    · rw [if_pos x, if_pos (this.2 x)]
    · rw [if_neg x, if_neg fun a => x (this.1 a)]
  · simp only [h, decide_false, Bool.false_eq_true, if_false]
    exact Ev.now _
theorem spec_l02Code.ev2 (n : Int) (rows : List Int) (v w : Int) : Ev (fun q => spec_l02Code.f q n rows [v, w]) (if IsG n rows then (if (0 ≤ v ∧ v < n) ∧ 0 ≤ w ∧ w < n then 0 else 2) else 1) := by
  unfold spec_l02Code.f
  refine Ev.bind (spec_l01Is.ev n rows) ?_
  by_cases h : IsG n rows
  · simp only [h, decide_true, if_true]
    refine ev_cast (spec_l02Code.ev_l n rows h.1 h.2.1 [v, w] (by simp) 2 0 rfl) ?_
    have : (∀ j : Nat, 0 ≤ j → j < [v, w].length → 0 ≤ rd [v, w] (j : Int) ∧ rd [v, w] (j : Int) < n) ↔ ((0 ≤ v ∧ v < n) ∧ 0 ≤ w ∧ w < n) :=
      ⟨fun a => ⟨a 0 (by omega) (by simp), a 1 (by omega) (by simp)⟩, fun a j _ hj => by
        have : j = 0 ∨ j = 1 := by simp only [List.length_cons, List.length_nil] at hj; omega
        rcases this with rfl | rfl
        · exact a.1
        · exact a.2⟩
    by_cases x : (0 ≤ v ∧ v < n) ∧ 0 ≤ w ∧ w < n
    · rw [if_pos x, if_pos (this.2 x)]
    · rw [if_neg x, if_neg fun a => x (this.1 a)]
  · simp only [h, decide_false, Bool.false_eq_true, if_false]
    exact Ev.now _

/-- The edges of rows, less the one between a and b. -/
def AdjX (rows : List Int) (a b : Int) (u w : Nat) : Prop := Adj rows u w ∧ ¬ (((u : Int) = a ∧ (w : Int) = b) ∨ ((u : Int) = b ∧ (w : Int) = a))
theorem AdjX_none {rows : List Int} : AdjX rows (-1) (-1) = Adj rows := by
  funext u w
  refine propext ⟨fun h => h.1, fun h => ⟨h, fun z => ?_⟩⟩
  rcases z with z | z <;> omega

/-- The breadth-first search from v: entries L, queue Q; the queue's first i elements are done. -/
structure Bf (E : Nat → Nat → Prop) (n v : Nat) (L Q : List Int) (i : Nat) : Prop where
  len : L.length = n
  elem : ∀ j : Nat, j < Q.length → ∃ u : Nat, rd Q (j : Int) = (u : Int) ∧ u < n ∧ ∃ d : Nat, rd L (u : Int) = (d : Int) ∧ Wk E n v d u
  out : ∀ w : Nat, w < n → (w : Int) ∈ Q ∨ rd L (w : Int) = -1
  mono : ∀ j k : Nat, j ≤ k → k < Q.length → rd L (rd Q (j : Int)) ≤ rd L (rd Q (k : Int))
  cap : ∀ j : Nat, j < Q.length → i < Q.length → rd L (rd Q (j : Int)) ≤ rd L (rd Q (i : Int)) + 1
  done : ∀ j : Nat, j < i → j < Q.length → ∀ u : Nat, rd Q (j : Int) = (u : Int) → ∀ w, w < n → E u w → (w : Int) ∈ Q ∧ rd L (w : Int) ≤ rd L (u : Int) + 1
  first : (v : Int) ∈ Q ∧ rd L (v : Int) = 0
  size : Q.length + L.countP (fun x => decide (x < 0)) ≤ n
  bd : ∀ w : Nat, w < n → rd L (w : Int) ≤ Q.length
theorem rd_app {l m : List Int} {k : Nat} (h : k < l.length) : rd (l ++ m) (k : Int) = rd l (k : Int) := by
  rw [rd_nat, rd_nat, List.getD_eq_getElem?_getD, List.getD_eq_getElem?_getD, List.getElem?_append_left h]
theorem rd_last (l : List Int) (x : Int) : rd (l ++ [x]) (l.length : Int) = x := by
  rw [rd_nat]; simp
/-- One vertex more in the queue. -/
theorem Bf.push {E : Nat → Nat → Prop} {n v : Nat} {L Q : List Int} {i : Nat} (h : Bf E n v L Q i) (hi : i < Q.length) {u w : Nat} (hu : rd Q (i : Int) = (u : Int)) (hw : w < n) (hE : E u w) (hL : rd L (w : Int) < 0) :
    Bf E n v (L.set w (rd L (u : Int) + 1)) (Q ++ [(w : Int)]) i := by
  have hlen := h.len
  have hwl : w < L.length := by omega
  have notin : (w : Int) ∉ Q := fun a => by
    obtain ⟨k, hk, hr⟩ := mem_rd.1 a
    obtain ⟨x, a, _, d, b, _⟩ := h.elem k hk
    have : x = w := by omega
    subst this
    omega
  have hLw : rd L (w : Int) = -1 := (h.out w hw).resolve_left notin
  obtain ⟨u', a1, hun, du, hdu, hWu⟩ := h.elem i hi
  have : u' = u := by omega
  subst this
  have old : ∀ j : Nat, j < Q.length → rd (L.set w (rd L (u' : Int) + 1)) (rd Q (j : Int)) = rd L (rd Q (j : Int)) := fun j hj => by
    obtain ⟨x, a, _, _⟩ := h.elem j hj
    rw [a]
    refine rd_set_ne _ _ _ (fun e => notin ?_) _
    rw [show (w : Int) = rd Q (j : Int) by rw [a, e]]
    exact rd_mem (by omega) (by omega)
  have self := rd_set_self L w hwl (rd L (u' : Int) + 1)
  have ui : rd L (rd Q (i : Int)) = rd L (u' : Int) := by rw [a1]
  have val : ∀ j : Nat, j < (Q ++ [(w : Int)]).length → rd (L.set w (rd L (u' : Int) + 1)) (rd (Q ++ [(w : Int)]) (j : Int)) = if j < Q.length then rd L (rd Q (j : Int)) else rd L (u' : Int) + 1 := fun j hj => by
    by_cases c : j < Q.length
    · rw [if_pos c, rd_app c, old j c]
    · have : j = Q.length := by rw [List.length_append] at hj; simp only [List.length_cons, List.length_nil] at hj; omega
      subst this
      rw [if_neg c, rd_last, self]
  refine ⟨by rw [List.length_set]; exact hlen, fun j hj => ?_, fun x hx => ?_, fun j k hjk hk => ?_, fun j hj _ => ?_, fun j hj hj2 x hx y hy hxy => ?_, ⟨List.mem_append_left _ h.first.1, ?_⟩, ?_, fun x hx => ?_⟩
  · by_cases c : j < Q.length
    · obtain ⟨x, a, b, d, e, f⟩ := h.elem j c
      refine ⟨x, by rw [rd_app c]; exact a, b, d, ?_, f⟩
      have := old j c
      rw [a] at this
      rw [this, e]
    · have : j = Q.length := by rw [List.length_append] at hj; simp only [List.length_cons, List.length_nil] at hj; omega
      subst this
      exact ⟨w, rd_last _ _, hw, du + 1, by rw [self, hdu]; omega, hw, u', hun, hWu, hE⟩
  · by_cases c : x = w
    · subst c; exact .inl (by simp)
    · rcases h.out x hx with a | a
      · exact .inl (List.mem_append_left _ a)
      · exact .inr (by rw [rd_set_ne _ _ _ (fun e => c e.symm)]; exact a)
  · rw [val j (by omega), val k hk]
    by_cases c : k < Q.length
    · rw [if_pos c, if_pos (by omega)]; exact h.mono j k hjk c
    · rw [if_neg c]
      by_cases c2 : j < Q.length
      · rw [if_pos c2]; have := h.cap j c2 hi; omega
      · rw [if_neg c2]; exact Int.le_refl _
  · have e : rd (Q ++ [(w : Int)]) (i : Int) = rd Q (i : Int) := rd_app hi
    rw [val j hj, e, old i hi]
    by_cases c : j < Q.length
    · rw [if_pos c]; exact h.cap j c hi
    · rw [if_neg c]; omega
  · have hjQ : j < Q.length := by omega
    rw [rd_app hjQ] at hx
    obtain ⟨a, b⟩ := h.done j hj hjQ x hx y hy hxy
    have xo := old j hjQ
    rw [hx] at xo
    have yw : y ≠ w := fun e => notin (e ▸ a)
    exact ⟨List.mem_append_left _ a, by rw [xo, rd_set_ne _ _ _ (fun e => yw e.symm)]; exact b⟩
  · have vw : v ≠ w := fun e => notin (e ▸ h.first.1)
    rw [rd_set_ne _ _ _ (fun e => vw e.symm)]; exact h.first.2
  · have hs := h.size
    rw [List.countP_set hwl, List.length_append]
    have ly : L[w] = -1 := by rw [← rd_get L w hwl]; exact hLw
    have cp : 1 ≤ L.countP (fun x => decide (x < 0)) := List.countP_pos_iff.2 ⟨L[w], List.getElem_mem hwl, by rw [ly]; rfl⟩
    rw [ly, if_pos (by decide), if_neg (by simp; omega)]
    simp only [List.length_cons, List.length_nil]
    omega
  · rw [List.length_append]
    simp only [List.length_cons, List.length_nil]
    by_cases c : x = w
    · subst c
      rw [self]
      have := h.bd u' hun
      omega
    · rw [rd_set_ne _ _ _ (fun e => c e.symm)]
      have := h.bd x hx
      omega
/-- At the end the entries are the distances. -/
theorem Bf.fin {E : Nat → Nat → Prop} {n v : Nat} (hv : v < n) {L Q : List Int} (h : Bf E n v L Q Q.length) : L = distL E n v := by
  have reach : ∀ d w, Wk E n v d w → (w : Int) ∈ Q ∧ rd L (w : Int) ≤ d := by
    intro d
    induction d with
    | zero => intro w hw; rw [Wk] at hw; subst hw; exact ⟨h.first.1, by rw [h.first.2]; omega⟩
    | succ d ih =>
      rintro w ⟨hw, u, hu, hWu, hE⟩
      obtain ⟨a, b⟩ := ih u hWu
      obtain ⟨k, hk, hr⟩ := mem_rd.1 a
      obtain ⟨c, e⟩ := h.done k hk hk u hr w hw hE
      exact ⟨c, by omega⟩
  refine distL_eq h.len fun w hw => ?_
  rcases h.out w hw with a | a
  · obtain ⟨k, hk, hr⟩ := mem_rd.1 a
    obtain ⟨u, b, _, d, c, e⟩ := h.elem k hk
    have : u = w := by omega
    subst this
    refine .inr ⟨d, c, e, fun x hx p => ?_⟩
    have := (reach x u p).2
    omega
  · refine .inl ⟨a, fun d p => ?_⟩
    obtain ⟨b, _⟩ := reach d w p
    obtain ⟨k, hk, hr⟩ := mem_rd.1 b
    obtain ⟨u, e, _, x, c, _⟩ := h.elem k hk
    have : u = w := by omega
    subst this
    omega
section
variable {n : Int} {rows : List Int} (g : IsG n rows) (a b : Int) {v : Nat} (hv : v < n.toNat)
include g hv
theorem spec_l02From.ev_2 {i u : Nat} (hun : u < n.toNat) (R : List Int)
    (next : ∀ L Q, Bf (AdjX rows a b) n.toNat v L Q i → i < Q.length → rd Q (i : Int) = (u : Int) → (∀ w, w < n.toNat → AdjX rows a b u w → (w : Int) ∈ Q ∧ rd L (w : Int) ≤ rd L (u : Int) + 1) → Ev (fun q => spec_l02From.l1 q a b L Q ((i : Int) + 1) n rows) R) (d : Nat) :
    ∀ (j : Nat) (L Q : List Int), j + d = n.toNat → Bf (AdjX rows a b) n.toNat v L Q i → i < Q.length → rd Q (i : Int) = (u : Int) → (∀ w, w < j → AdjX rows a b u w → (w : Int) ∈ Q ∧ rd L (w : Int) ≤ rd L (u : Int) + 1) →
      Ev (fun q => spec_l02From.l2 q a b L Q (i : Int) (u : Int) (j : Int) n rows) R := by
  have hn := g.le
  have h1 := g.1
  have hrl := g.len
  induction d with
  | zero =>
    intro j L Q e h hi hu hj
    refine Ev.step (fun k => spec_l02From.l2.eq_2 ..) ?_
    have hs := h.size
    simp only [if_neg (show ¬ ((j : Int) < n) by omega)]
    rw [w64 (by omega) (by omega)]
    exact next L Q h hi hu fun w hw => hj w (by omega)
  | succ d ih =>
    intro j L Q e h hi hu hj
    refine Ev.step (fun k => spec_l02From.l2.eq_2 ..) ?_
    have hlen := h.len
    have hs := h.size
    have hbd := h.bd u hun
    have hjn : j < n.toNat := by omega
    obtain ⟨u', a1, _, du, hdu, _⟩ := h.elem i hi
    have : u' = u := by omega
    subst this
    have hbit := bit_dig (r := rd rows (u' : Int)) (v := (j : Int)) (by omega) (by omega)
    rw [Int.toNat_natCast] at hbit
    have hval := bit_val (r := rd rows (u' : Int)) (v := (j : Int)) (by omega) (by omega)
    rw [Int.toNat_natCast] at hval
    rw [u64 (by omega) (by omega), w64 (n := (j : Int) + 1) (by omega) (by omega), w64 (n := rd L (u' : Int) + 1) (by omega) (by omega), hval]
    simp only [if_pos (show (j : Int) < n by omega), if_pos (show (0 : Int) ≤ (u' : Int) by omega), if_pos (show (u' : Int) < (rows.length : Int) by omega), if_pos (show (0 : Int) ≤ (j : Int) by omega), if_pos (show (j : Int) < (L.length : Int) by omega), if_pos (show (u' : Int) < (L.length : Int) by omega), if_pos (show Q.length < 17592186044416 by omega), Int.toNat_natCast]
    have skip : ¬ (AdjX rows a b u' j ∧ rd L (j : Int) < 0) → Ev (fun q => spec_l02From.l2 q a b L Q (i : Int) (u' : Int) ((j : Int) + 1) n rows) R := fun no =>
      ih (j + 1) L Q (by omega) h hi hu fun w hw hE => by
        rcases Nat.lt_succ_iff_lt_or_eq.1 hw with x | rfl
        · exact hj w x hE
        · have hin : (w : Int) ∈ Q := (h.out w hjn).resolve_right fun z => no ⟨hE, by omega⟩
          obtain ⟨k, hk, hr⟩ := mem_rd.1 hin
          have := h.cap k hk hi
          rw [hr, hu] at this
          exact ⟨hin, this⟩
    have push : AdjX rows a b u' j → rd L (j : Int) < 0 → Ev (fun q => spec_l02From.l2 q a b (L.set j (rd L (u' : Int) + 1)) (Q ++ [(j : Int)]) (i : Int) (u' : Int) ((j : Int) + 1) n rows) R := fun hE hneg => by
      have hp := h.push hi hu hjn hE hneg
      have ju : u' ≠ j := fun z => by rw [z] at hdu; omega
      have us : rd (L.set j (rd L (u' : Int) + 1)) (u' : Int) = rd L (u' : Int) := rd_set_ne _ _ _ (fun z => ju z.symm) _
      refine ih (j + 1) _ _ (by omega) hp (by rw [List.length_append]; omega) (by rw [rd_app hi]; exact hu) fun w hw hEw => ?_
      rw [us]
      rcases Nat.lt_succ_iff_lt_or_eq.1 hw with x | rfl
      · obtain ⟨p, q⟩ := hj w x hEw
        exact ⟨List.mem_append_left _ p, by rw [rd_set_ne _ _ _ (by omega)]; exact q⟩
      · exact ⟨by simp, by rw [rd_set_self _ _ (by omega)]; exact Int.le_refl _⟩
    by_cases c0 : dig (rd rows (u' : Int)) j = true
    · simp only [if_pos c0, if_neg (show ¬ ((1 : Int) = 0) by decide)]
      by_cases c1 : rd L (j : Int) ≥ 0
      · simp only [if_pos c1]
        exact skip fun z => by omega
      · simp only [if_neg c1]
        by_cases c2 : (u' : Int) = a
        · simp only [if_pos c2]
          by_cases c3 : (j : Int) = b
          · simp only [if_pos c3]
            exact skip fun z => z.1.2 (.inl ⟨c2, c3⟩)
          · simp only [if_neg c3]
            by_cases c4 : (u' : Int) = b
            · simp only [if_pos c4]
              by_cases c5 : (j : Int) = a
              · simp only [if_pos c5]
                exact skip fun z => z.1.2 (.inr ⟨c4, c5⟩)
              · simp only [if_neg c5]
                exact push ⟨c0, fun z => z.elim (fun z => c3 z.2) fun z => c5 z.2⟩ (by omega)
            · simp only [if_neg c4]
              exact push ⟨c0, fun z => z.elim (fun z => c3 z.2) fun z => c4 z.1⟩ (by omega)
        · simp only [if_neg c2]
          by_cases c4 : (u' : Int) = b
          · simp only [if_pos c4]
            by_cases c5 : (j : Int) = a
            · simp only [if_pos c5]
              exact skip fun z => z.1.2 (.inr ⟨c4, c5⟩)
            · simp only [if_neg c5]
              exact push ⟨c0, fun z => z.elim (fun z => c2 z.1) fun z => c5 z.2⟩ (by omega)
          · simp only [if_neg c4]
            exact push ⟨c0, fun z => z.elim (fun z => c2 z.1) fun z => c4 z.1⟩ (by omega)
    · simp only [if_neg c0, if_pos (show (0 : Int) = 0 from rfl)]
      exact skip fun z => c0 z.1.1
theorem spec_l02From.ev_1 (d : Nat) : ∀ (i : Nat) (L Q : List Int), n.toNat ≤ i + d → Bf (AdjX rows a b) n.toNat v L Q i → i ≤ Q.length → Ev (fun q => spec_l02From.l1 q a b L Q (i : Int) n rows) (distL (AdjX rows a b) n.toNat v) := by
  have hn := g.le
  have fin : ∀ (L Q : List Int), Bf (AdjX rows a b) n.toNat v L Q Q.length → Ev (fun q => spec_l02From.l1 q a b L Q (Q.length : Int) n rows) (distL (AdjX rows a b) n.toNat v) := by
    intro L Q h
    refine Ev.step (fun k => spec_l02From.l1.eq_2 ..) ?_
    simp only [if_neg (show ¬ ((Q.length : Int) < (Q.length : Int)) by omega)]
    exact ev_some (h.fin hv)
  induction d with
  | zero =>
    intro i L Q e h hi
    have := h.size
    have : i = Q.length := by omega
    subst this
    exact fin L Q h
  | succ d ih =>
    intro i L Q e h hi
    by_cases c : i = Q.length
    · subst c; exact fin L Q h
    · have hs := h.size
      refine Ev.step (fun k => spec_l02From.l1.eq_2 ..) ?_
      obtain ⟨u, hu, hun, _⟩ := h.elem i (by omega)
      simp only [if_pos (show (i : Int) < (Q.length : Int) by omega), if_pos (show (0 : Int) ≤ (i : Int) by omega), hu]
      refine spec_l02From.ev_2 g a b hv hun _ (fun L' Q' h' hi' hu' hd => ?_) n.toNat 0 L Q (by omega) h (by omega) hu (fun w hw => by omega)
      refine ih (i + 1) L' Q' (by omega) ⟨h'.len, h'.elem, h'.out, h'.mono, fun j hj hi2 => ?_, fun j hj hj2 x hx w hw hE => ?_, h'.first, h'.size, h'.bd⟩ (by omega)
      · have p := h'.cap j hj hi'
        have q := h'.mono i (i + 1) (by omega) hi2
        omega
      · rcases Nat.lt_succ_iff_lt_or_eq.1 hj with y | rfl
        · exact h'.done j y hj2 x hx w hw hE
        · have : x = u := by omega
          subst this
          exact hd w hw hE
theorem spec_l02From.ev_0 (d : Nat) : ∀ (i : Nat), i + d = n.toNat → Ev (fun q => spec_l02From.l0 q (v : Int) a b (List.replicate i (-1)) (i : Int) n rows) (distL (AdjX rows a b) n.toNat v) := by
  have hn := g.le
  have h1 := g.1
  induction d with
  | zero =>
    intro i e
    have : i = n.toNat := by omega
    subst this
    refine Ev.step (fun k => spec_l02From.l0.eq_2 ..) ?_
    simp only [if_neg (show ¬ ((n.toNat : Int) < n) by omega), if_pos (show (0 : Int) ≤ (v : Int) by omega), List.length_replicate, if_pos (show (v : Int) < (n.toNat : Int) by omega), Int.toNat_natCast]
    have hvl : v < (List.replicate n.toNat (-1 : Int)).length := by simpa using hv
    have self := rd_set_self (List.replicate n.toNat (-1 : Int)) v hvl 0
    refine spec_l02From.ev_1 g a b hv n.toNat 0 _ [(v : Int)] (by omega) ⟨by simp, fun j hj => ?_, fun w hw => ?_, fun j k hjk hk => ?_, fun j hj _ => ?_, fun j hj => by omega, ⟨by simp, self⟩, ?_, fun w hw => ?_⟩ (by simp)
    · have : j = 0 := by simp only [List.length_cons, List.length_nil] at hj; omega
      subst this
      exact ⟨v, rfl, hv, 0, self, rfl⟩
    · by_cases c : w = v
      · subst c; exact .inl (by simp)
      · refine .inr ?_
        rw [rd_set_ne _ _ _ (fun z => c z.symm), rd_nat]; simp [hw]
    · have hj0 : j = 0 := by simp only [List.length_cons, List.length_nil] at hk; omega
      have hk0 : k = 0 := by simp only [List.length_cons, List.length_nil] at hk; omega
      subst hj0; subst hk0; exact Int.le_refl _
    · have hj0 : j = 0 := by simp only [List.length_cons, List.length_nil] at hj; omega
      subst hj0; omega
    · have cl := List.countP_le_length (p := fun x : Int => decide (x < 0)) (l := List.replicate n.toNat (-1 : Int))
      rw [List.countP_set hvl]
      have ly : (List.replicate n.toNat (-1 : Int))[v] = -1 := by simp
      rw [ly, if_pos (by decide), if_neg (by decide)]
      simp only [List.length_cons, List.length_nil, List.length_replicate] at cl ⊢
      omega
    · by_cases c : w = v
      · subst c; rw [self]; omega
      · rw [rd_set_ne _ _ _ (fun z => c z.symm), rd_nat]; simp [hw]
  | succ d ih =>
    intro i e
    refine Ev.step (fun k => spec_l02From.l0.eq_2 ..) ?_
    simp only [if_pos (show (i : Int) < n by omega), List.length_replicate, if_pos (show i < 17592186044416 by omega)]
    rw [w64 (by omega) (by omega), ← List.replicate_succ']
    exact ih (i + 1) (by omega)
theorem spec_l02From.ev : Ev (fun q => spec_l02From.f q n rows (v : Int) a b) (distL (AdjX rows a b) n.toNat v) := by
  unfold spec_l02From.f
  exact spec_l02From.ev_0 g a b hv n.toNat 0 (by omega)
end

noncomputable def distsR (n : Int) (rows : List Int) (v : Int) : List Int × Int := if IsG n rows then (if 0 ≤ v ∧ v < n then (distL (Adj rows) n.toNat v.toNat, 0) else ([], 2)) else ([], 1)
theorem distsR_length (n : Int) (rows : List Int) (v : Int) : (distsR n rows v).1.length ≤ 62 := by
  unfold distsR
  split
  · rename_i h
    split
    · have := h.le
      simp only [distL_length]; omega
    · simp
  · simp
theorem spec_DistancesFrom.ev (n : Int) (rows : List Int) (v : Int) : Ev (fun q => spec_DistancesFrom.f q n rows v) (distsR n rows v) := by
  unfold spec_DistancesFrom.f distsR
  refine Ev.bind (spec_l02Code.ev1 n rows v) ?_
  by_cases h : IsG n rows
  · by_cases c : 0 ≤ v ∧ v < n
    · simp only [if_pos h, if_pos c, if_true]
      obtain ⟨x, rfl⟩ := Int.eq_ofNat_of_zero_le c.1
      refine Ev.bind (spec_l02From.ev h (-1) (-1) (v := x) (by omega)) ?_
      rw [AdjX_none, Int.toNat_natCast]
      exact Ev.now _
    · simp only [if_pos h, if_neg c]
      exact Ev.now _
  · simp only [if_neg h]
    exact Ev.now _

theorem impl_DistancesFrom.ev (n : Int) (rows : List Int) (v : Int) : Ev (fun q => impl_DistancesFrom.f q n rows v) (distsR n rows v) := by
  unfold impl_DistancesFrom.f distsR
  refine Ev.bind (impl_graphCode.ev1 n rows v) ?_
  by_cases h : IsG n rows
  · by_cases c : 0 ≤ v ∧ v < n
    · simp only [if_pos h, if_pos c, if_true]
      obtain ⟨x, rfl⟩ := Int.eq_ofNat_of_zero_le c.1
      refine Ev.bind (impl_Graph_distances.ev h x (by omega)) ?_
      rw [Int.toNat_natCast]
      exact Ev.now _
    · simp only [if_pos h, if_neg c]
      exact Ev.now _
  · simp only [if_neg h]
    exact Ev.now _

theorem laws_likeInts.ev_l (l : List Int) (hl : l.length ≤ 1000000) (d : Nat) : ∀ i : Nat, i + d = l.length → Ev (fun q => laws_likeInts.l0 q l l (i : Int)) true := by
  induction d with
  | zero =>
    intro i h
    refine Ev.step (fun k => laws_likeInts.l0.eq_2 ..) ?_
    simp only [if_neg (show ¬ ((i : Int) < (l.length : Int)) by omega)]
    exact Ev.now _
  | succ d ih =>
    intro i h
    refine Ev.step (fun k => laws_likeInts.l0.eq_2 ..) ?_
    simp only [if_pos (show (i : Int) < (l.length : Int) by omega), if_pos (show (0 : Int) ≤ (i : Int) by omega), if_true]
    rw [w64 (by omega) (by omega)]
    exact ih (i + 1) (by omega)
theorem laws_likeInts.ev (l : List Int) (hl : l.length ≤ 1000000) : Ev (fun q => laws_likeInts.f q l l) true := by
  unfold laws_likeInts.f
  simp only [if_true]
  exact laws_likeInts.ev_l l hl l.length 0 (by omega)

theorem spec_l01Neighbours.ev_l (n : Int) (rows : List Int) (v : Int) (h0 : 0 ≤ v) (h1 : v < rows.length) (hn : n ≤ 62) (d : Nat) : ∀ (i : Nat) (acc : List Int), (i : Int) + d = n → acc.length ≤ i →
    Ev (fun q => spec_l01Neighbours.l0 q v acc (i : Int) n rows) (acc ++ bitsFrom d i (rd rows v)) := by
  induction d with
  | zero =>
    intro i acc e ha
    refine Ev.step (fun k => spec_l01Neighbours.l0.eq_2 ..) ?_
    simp only [if_neg (show ¬ ((i : Int) < n) by omega), bitsFrom, List.append_nil]
    exact Ev.now _
  | succ d ih =>
    intro i acc e ha
    refine Ev.step (fun k => spec_l01Neighbours.l0.eq_2 ..) ?_
    simp only [if_pos (show (i : Int) < n by omega), spec_l01Has.sp n rows v (i : Int) h0 h1 (by omega) (by omega), Option.bind_some, Int.toNat_natCast]
    rw [w64 (by omega) (by omega)]
    by_cases c : dig (rd rows v) i = true
    · simp only [if_pos c, if_pos (show acc.length < 17592186044416 by omega), bitsFrom]
      refine ev_cast (ih (i + 1) (acc ++ [(i : Int)]) (by omega) (by rw [List.length_append]; simp only [List.length_cons, List.length_nil]; omega)) ?_
      rw [List.append_assoc, List.singleton_append]
    · simp only [if_neg c, bitsFrom]
      exact ih (i + 1) acc (by omega) (by omega)
theorem spec_l01Neighbours.ev (n : Int) (rows : List Int) (v : Int) (h0 : 0 ≤ v) (h1 : v < rows.length) (hn0 : 0 ≤ n) (hn : n ≤ 62) : Ev (fun q => spec_l01Neighbours.f q n rows v) (bitsFrom n.toNat 0 (rd rows v)) := by
  unfold spec_l01Neighbours.f
  exact spec_l01Neighbours.ev_l n rows v h0 h1 hn n.toNat 0 [] (by omega) (by simp)


end Go.Proofs.YtockngphfpedkaaDoor.XFnDistances
