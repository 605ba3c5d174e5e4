/- What the functions that FnExactRingGraph reaches compute. -/
import Derived.Test.YtpnofgcgdebncaaPFnExactRingGraphx0
import Derived.Test.YtpnofgcgdebncaaPFnExactRingGraphx1
import Derived.Test.YtpnofgcgdebncaaPFnExactRingGraphx2
import Derived.Test.YtpnofgcgdebncaaPFnExactRingGraphx3
import Derived.Test.YtpnofgcgdebncaaPFnExactRingGraphx4
import Derived.Test.YtpnofgcgdebncaaGr
namespace Go.Proofs.Ytpnofgcgdebncaa.PFnExactRingGraph
open Go.RowKit Go.Proofs.YtpnofgcgdebncaaW.PrintWords Go.Proofs.YtpnofgcgdebncaaW.PrintLast Go.Proofs.Ytpnofgcgdebncaa.B
open Classical
set_option linter.unusedVariables false
set_option linter.unusedSimpArgs false

theorem laws_eqInt64S.ev_l (l : List Int) (hl : l.length ≤ 281474976710656) (d : Nat) : ∀ (i : Nat), i + d = l.length → Ev (fun k => laws_eqInt64S.l0 k l l (i : Int)) true := by
  induction d with
  | zero =>
    intro i h3
    refine Ev.step (fun k => laws_eqInt64S.l0.eq_2 ..) ?_
    simp only [if_neg (show ¬ ((i : Int) < (l.length : Int)) by omega)]
    exact Ev.now _
  | succ d ih =>
    intro i h3
    refine Ev.step (fun k => laws_eqInt64S.l0.eq_2 ..) ?_
    simp only [if_pos (show (i : Int) < (l.length : Int) by omega), if_pos (show (0 : Int) ≤ (i : Int) by omega), if_true]
    rw [w64 (by omega) (by omega)]
    exact ih (i + 1) (by omega)
theorem laws_eqInt64S.ev (l : List Int) (hl : l.length ≤ 281474976710656) : Ev (fun k => laws_eqInt64S.f k l l) true := by
  unfold laws_eqInt64S.f
  simp only [if_true]
  exact laws_eqInt64S.ev_l l hl l.length 0 (by omega)

theorem laws_eqGraph.ev (n : Int) (l : List Int) (hl : l.length ≤ 281474976710656) : Ev (fun k => laws_eqGraph.f k n l n l) true := by
  unfold laws_eqGraph.f
  simp only [if_true]
  exact Ev.bind (laws_eqInt64S.ev l hl) (Ev.now _)

theorem spec_l01In.sp (a b c : Int) : spec_l01In.f a b c = some (decide (b ≤ a ∧ a ≤ c)) := by
  unfold spec_l01In.f
  by_cases h : b ≤ a <;> simp [h]

theorem spec_l01Empty.sp (n : Int) (h0 : 0 ≤ n) (h1 : n ≤ 35184372088832) : spec_l01Empty.f n = some (n, List.replicate n.toNat 0) := by
  unfold spec_l01Empty.f
  rw [if_pos h0, if_pos (by omega)]

theorem spec_l04With.sp (n : Int) (rows : List Int) (a b : Int) (ha : 0 ≤ a) (ha1 : a < rows.length) (hb : 0 ≤ b) (hb1 : b < rows.length) (hl : rows.length ≤ 62) :
    spec_l04With.f n rows a b = some (n, putE rows a b) := by
  unfold spec_l04With.f
  rw [u64 hb (by omega), u64 ha (by omega), if_pos ha, if_pos ha1, if_pos hb, shl_one hb (by omega), shl_one ha (by omega)]
  simp only [Option.bind_some]
  rw [if_pos hb, if_pos hb1, if_pos ha]
  rfl

def ringRun (n k : Int) : Nat → Int → List Int → List Int
  | 0, _, rows => rows
  | d + 1, i, rows => ringRun n k d (i + 1) (putE (putE (putE rows i ((i + 1) % n)) i (n + i)) (n + i) (n + (i + k) % n))
def ringR (n k : Int) : Int × List Int × Int :=
  if 3 ≤ n ∧ n ≤ 31 ∧ 1 ≤ k ∧ k < n ∧ 2 * k ≠ n then (2 * n, ringRun n k n.toNat 0 (List.replicate (2 * n).toNat 0), 0) else (0, [], 2)
theorem spec_RingGraph.ev_l (n k : Int) (hn : 3 ≤ n) (hn1 : n ≤ 31) (hk : 1 ≤ k) (hk1 : k < n) (d : Nat) : ∀ (i : Int) (rows : List Int), (rows.length : Int) = 2 * n → 0 ≤ i → i + d = n →
    Ev (fun q => spec_RingGraph.l0 q n k i (2 * n) rows) (2 * n, ringRun n k d i rows, 0) := by
  induction d with
  | zero =>
    intro i rows h1 h2 h3
    refine Ev.step (fun k => spec_RingGraph.l0.eq_2 ..) ?_
    simp only [if_neg (show ¬ (i < n) by omega)]
    exact Ev.now _
  | succ d ih =>
    intro i rows h1 h2 h3
    refine Ev.step (fun k => spec_RingGraph.l0.eq_2 ..) ?_
    have e1 := Int.emod_nonneg (i + 1) (show n ≠ 0 by omega)
    have e2 := Int.emod_lt_of_pos (i + 1) (show 0 < n by omega)
    have e3 := Int.emod_nonneg (i + k) (show n ≠ 0 by omega)
    have e4 := Int.emod_lt_of_pos (i + k) (show 0 < n by omega)
    rw [w64 (n := i + 1) (by omega) (by omega), w64 (n := i + k) (by omega) (by omega), tmod_pos (a := i + 1) (by omega), tmod_pos (a := i + k) (by omega), w64 (n := n + i) (by omega) (by omega), w64 (by omega) (by omega)]
    simp only [if_pos (show i < n by omega), if_neg (show ¬ (n = 0) by omega)]
    rw [spec_l04With.sp _ _ _ _ (by omega) (by omega) (by omega) (by omega) (by omega)]
    simp only [Option.bind_some]
    rw [spec_l04With.sp _ _ _ _ (by omega) (by rw [putE_length]; omega) (by omega) (by rw [putE_length]; omega) (by rw [putE_length]; omega)]
    simp only [Option.bind_some]
    rw [spec_l04With.sp _ _ _ _ (by omega) (by simp only [putE_length]; omega) (by omega) (by simp only [putE_length]; omega) (by simp only [putE_length]; omega)]
    simp only [Option.bind_some]
    exact ih (i + 1) _ (by simp only [putE_length]; omega) (by omega) (by omega)
theorem ringR_no {n k : Int} (h : ¬ (3 ≤ n ∧ n ≤ 31 ∧ 1 ≤ k ∧ k < n ∧ 2 * k ≠ n)) : ringR n k = (0, [], 2) := by unfold ringR; rw [if_neg h]
theorem ringR_yes {n k : Int} (h : 3 ≤ n ∧ n ≤ 31 ∧ 1 ≤ k ∧ k < n ∧ 2 * k ≠ n) : ringR n k = (2 * n, ringRun n k n.toNat 0 (List.replicate (2 * n).toNat 0), 0) := by unfold ringR; rw [if_pos h]
theorem spec_RingGraph.ev (n k : Int) (hn : (Lit.int .i64 n).wf = true) (hk : (Lit.int .i64 k).wf = true) : Ev (fun q => spec_RingGraph.f q n k) (ringR n k) := by
  rw [wf64] at hn hk
  unfold spec_RingGraph.f
  simp only [spec_l01In.sp, Option.bind_some, decide_eq_true_eq]
  by_cases h1 : 3 ≤ n ∧ n ≤ 31
  · rw [w64 (n := n - 1) (by omega) (by omega)]
    by_cases h2 : 1 ≤ k ∧ k ≤ n - 1
    · rw [w64 (n := 2 * k) (by omega) (by omega)]
      simp only [if_pos h1, if_pos h2]
      refine Ev.step (fun k => spec_RingGraph.j0.eq_2 ..) ?_
      by_cases h3 : 2 * k = n
      · simp only [beq_iff_eq, if_pos h3]
        rw [ringR_no (by omega)]
        exact Ev.now _
      · simp only [beq_iff_eq, if_neg h3]
        rw [ringR_yes (by omega), w64 (by omega) (by omega), spec_l01Empty.sp _ (by omega) (by omega)]
        simp only [Option.bind_some]
        exact spec_RingGraph.ev_l n k (by omega) (by omega) (by omega) (by omega) n.toNat 0 _ (by rw [List.length_replicate]; omega) (by omega) (by omega)
    · simp only [if_pos h1, if_neg h2]
      refine Ev.step (fun k => spec_RingGraph.j0.eq_2 ..) ?_
      simp only [if_true]
      rw [ringR_no (by omega)]
      exact Ev.now _
  · simp only [if_neg h1]
    refine Ev.step (fun k => spec_RingGraph.j0.eq_2 ..) ?_
    simp only [if_true]
    rw [ringR_no (by omega)]
    exact Ev.now _

theorem impl_empty.sp (n : Int) (h0 : 0 ≤ n) (h1 : n ≤ 35184372088832) : impl_empty.f n = some (n, List.replicate n.toNat 0) := by
  unfold impl_empty.f
  rw [if_pos h0, if_pos (by omega)]

theorem impl_Graph_put.sp (n : Int) (rows : List Int) (a b : Int) (hab : a ≠ b) (ha : 0 ≤ a) (ha1 : a < rows.length) (hb : 0 ≤ b) (hb1 : b < rows.length) (hl : rows.length ≤ 62) :
    impl_Graph_put.f n rows a b = some (putE rows a b) := by
  unfold impl_Graph_put.f
  rw [if_neg hab, if_pos ha, if_pos ha1, if_pos hb, shl_one hb (by omega), shl_one ha (by omega)]
  simp only [Option.bind_some]
  rw [if_pos hb1]
  rfl
theorem impl_Graph_put.same (n : Int) (rows : List Int) (a : Int) : impl_Graph_put.f n rows a a = some rows := by
  unfold impl_Graph_put.f
  rw [if_pos rfl]

theorem impl_ringGraph.ev_l (n k : Int) (hn : 3 ≤ n) (hn1 : n ≤ 31) (hk : 1 ≤ k) (hk1 : k < n) (d : Nat) : ∀ (i : Int) (rows : List Int), (rows.length : Int) = 2 * n → 0 ≤ i → i + d = n →
    Ev (fun q => impl_ringGraph.l0 q n k n i (2 * n) rows) (2 * n, ringRun n k d i rows) := by
  induction d with
  | zero =>
    intro i rows h1 h2 h3
    refine Ev.step (fun k => impl_ringGraph.l0.eq_2 ..) ?_
    simp only [if_neg (show ¬ (i < n) by omega)]
    exact Ev.now _
  | succ d ih =>
    intro i rows h1 h2 h3
    refine Ev.step (fun k => impl_ringGraph.l0.eq_2 ..) ?_
    have e1 := Int.emod_nonneg (i + 1) (show n ≠ 0 by omega)
    have e2 := Int.emod_lt_of_pos (i + 1) (show 0 < n by omega)
    have e3 := Int.emod_nonneg (i + k) (show n ≠ 0 by omega)
    have e4 := Int.emod_lt_of_pos (i + k) (show 0 < n by omega)
    have f1 : i ≠ (i + 1) % n := by
      intro e
      by_cases c : i + 1 < n
      · rw [Int.emod_eq_of_lt (by omega) c] at e; omega
      · have : i + 1 = n := by omega
        rw [this, Int.emod_self] at e; omega
    have f2 : i ≠ (i + k) % n := by
      intro e
      by_cases c : i + k < n
      · rw [Int.emod_eq_of_lt (by omega) c] at e; omega
      · have h : (i + k) % n = i + k - n := by
          rw [← Int.sub_emod_right]; exact Int.emod_eq_of_lt (by omega) (by omega)
        omega
    rw [w64 (n := i + 1) (by omega) (by omega), w64 (n := i + k) (by omega) (by omega), tmod_pos (a := i + 1) (by omega), tmod_pos (a := i + k) (by omega), w64 (n := n + i) (by omega) (by omega), w64 (by omega) (by omega)]
    simp only [if_pos (show i < n by omega), if_neg (show ¬ (n = 0) by omega)]
    rw [impl_Graph_put.sp _ _ _ _ f1 (by omega) (by omega) (by omega) (by omega) (by omega)]
    simp only [Option.bind_some]
    rw [impl_Graph_put.sp _ _ _ _ (by omega) (by omega) (by rw [putE_length]; omega) (by omega) (by rw [putE_length]; omega) (by rw [putE_length]; omega)]
    simp only [Option.bind_some]
    rw [impl_Graph_put.sp _ _ _ _ (by omega) (by omega) (by simp only [putE_length]; omega) (by omega) (by simp only [putE_length]; omega) (by simp only [putE_length]; omega)]
    simp only [Option.bind_some]
    exact ih (i + 1) _ (by simp only [putE_length]; omega) (by omega) (by omega)
theorem impl_RingGraph.ev (n k : Int) (hn : (Lit.int .i64 n).wf = true) (hk : (Lit.int .i64 k).wf = true) : Ev (fun q => impl_RingGraph.f q n k) (ringR n k) := by
  rw [wf64] at hn hk
  unfold impl_RingGraph.f
  by_cases h1 : n < 3
  · simp only [if_pos h1]; rw [ringR_no (by omega)]; exact Ev.now _
  by_cases h2 : n > 31
  · simp only [if_neg h1, if_pos h2]; rw [ringR_no (by omega)]; exact Ev.now _
  by_cases h3 : k < 1
  · simp only [if_neg h1, if_neg h2, if_pos h3]; rw [ringR_no (by omega)]; exact Ev.now _
  by_cases h4 : k ≥ n
  · simp only [if_neg h1, if_neg h2, if_neg h3, if_pos h4]; rw [ringR_no (by omega)]; exact Ev.now _
  rw [w64 (n := 2 * k) (by omega) (by omega)]
  by_cases h5 : 2 * k = n
  · simp only [if_neg h1, if_neg h2, if_neg h3, if_neg h4, if_pos h5]; rw [ringR_no (by omega)]; exact Ev.now _
  simp only [if_neg h1, if_neg h2, if_neg h3, if_neg h4, if_neg h5]
  rw [ringR_yes (by omega)]
  unfold impl_ringGraph.f
  rw [w64 (by omega) (by omega), impl_empty.sp _ (by omega) (by omega)]
  simp only [Option.bind_some]
  exact Ev.bind (impl_ringGraph.ev_l n k (by omega) (by omega) (by omega) (by omega) n.toNat 0 _ (by rw [List.length_replicate]; omega) (by omega) (by omega)) (Ev.now _)
theorem ringRun_length (n k : Int) (d : Nat) : ∀ (i : Int) (rows : List Int), (ringRun n k d i rows).length = rows.length := by
  induction d with
  | zero => intro i rows; rfl
  | succ d ih => intro i rows; simp only [ringRun, ih, putE_length]
theorem ringR_length (n k : Int) : (ringR n k).2.1.length ≤ 62 := by
  unfold ringR
  split
  · rw [ringRun_length, List.length_replicate]; omega
  · simp

/-- The marks a + i, from the place i on. -/
theorem laws_markInt64S.ev_l (n : Nat) (a : Int) (ha : 0 ≤ a) (han : a + n ≤ 4611686018427387904) (d : Nat) : ∀ (i : Nat) (l : List Int), l.length = n → i + d = n →
    ∃ m : List Int, Ev (fun k => laws_markInt64S.l0 k l (a + i) (i : Int)) (a + n, m) ∧ m.length = n ∧ (∀ j, j < i → m[j]? = l[j]?) ∧ ∀ j : Nat, i ≤ j → j < n → rd m j = a + j := by
  induction d with
  | zero =>
    intro i l h1 h3
    refine ⟨l, ?_, h1, fun _ _ => rfl, fun j h h' => by omega⟩
    refine Ev.step (fun k => laws_markInt64S.l0.eq_2 ..) ?_
    simp only [if_neg (show ¬ ((i : Int) < (l.length : Int)) by omega)]
    have : i = n := by omega
    rw [this]
    exact Ev.now _
  | succ d ih =>
    intro i l h1 h3
    obtain ⟨m, hm, h4, h5, h6⟩ := ih (i + 1) (l.set i (a + i)) (by simp [h1]) (by omega)
    refine ⟨m, ?_, h4, fun j hj => ?_, fun j hj hj' => ?_⟩
    · refine Ev.step (fun k => laws_markInt64S.l0.eq_2 ..) ?_
      simp only [if_pos (show (i : Int) < (l.length : Int) by omega), if_pos (show (0 : Int) ≤ (i : Int) by omega)]
      rw [w64 (by omega) (by omega), w64 (by omega) (by omega), Int.add_assoc, Int.toNat_natCast]
      exact hm
    · rw [h5 j (by omega), List.getElem?_set_ne (by omega)]
    · by_cases e : j = i
      · subst e
        have := h5 j (by omega)
        rw [List.getElem?_set_self (by omega)] at this
        rw [rd_nat]
        simp [this]
      · exact h6 j (by omega) hj'
theorem laws_markInt64S.ev (l : List Int) (a : Int) (ha : 0 ≤ a) (han : a + l.length ≤ 4611686018427387904) :
    ∃ m : List Int, Ev (fun k => laws_markInt64S.f k l a) (a + l.length, m) ∧ m.length = l.length ∧ ∀ j : Nat, j < l.length → rd m j = a + j := by
  obtain ⟨m, hm, h4, _, h6⟩ := laws_markInt64S.ev_l l.length a ha han l.length 0 l rfl (by omega)
  refine ⟨m, ?_, h4, fun j hj => h6 j (by omega) hj⟩
  unfold laws_markInt64S.f
  have := hm
  simp only [Int.natCast_zero, Int.add_zero] at this
  exact this

theorem laws_markGraph.ev (n : Int) (l : List Int) (a : Int) (ha : 0 ≤ a) (han : a + l.length ≤ 4611686018427387904) :
    ∃ m : List Int, Ev (fun k => laws_markGraph.f k n l a) (a + l.length, m) ∧ m.length = l.length ∧ ∀ j : Nat, j < l.length → rd m j = a + j := by
  obtain ⟨m, hm, h4, h6⟩ := laws_markInt64S.ev l a ha han
  refine ⟨m, ?_, h4, h6⟩
  unfold laws_markGraph.f
  exact Ev.bind hm (Ev.now _)

theorem laws_heldInt64S.ev_l (m : List Int) (a : Int) (ha : 0 ≤ a) (han : a + m.length ≤ 4611686018427387904) (hm : ∀ j : Nat, j < m.length → rd m j = a + j) (d : Nat) :
    ∀ (i : Nat), i + d = m.length → Ev (fun k => laws_heldInt64S.l0 k m (a + i) (i : Int)) (a + m.length) := by
  induction d with
  | zero =>
    intro i h3
    refine Ev.step (fun k => laws_heldInt64S.l0.eq_2 ..) ?_
    simp only [if_neg (show ¬ ((i : Int) < (m.length : Int)) by omega)]
    have : i = m.length := by omega
    rw [this]
    exact Ev.now _
  | succ d ih =>
    intro i h3
    refine Ev.step (fun k => laws_heldInt64S.l0.eq_2 ..) ?_
    simp only [if_pos (show (i : Int) < (m.length : Int) by omega), if_pos (show (0 : Int) ≤ (i : Int) by omega), if_pos (hm i (by omega))]
    rw [w64 (by omega) (by omega), w64 (by omega) (by omega), Int.add_assoc]
    exact ih (i + 1) (by omega)
theorem laws_heldInt64S.ev (m : List Int) (a : Int) (ha : 0 ≤ a) (han : a + m.length ≤ 4611686018427387904) (hm : ∀ j : Nat, j < m.length → rd m j = a + j) :
    Ev (fun k => laws_heldInt64S.f k m a) (a + m.length) := by
  unfold laws_heldInt64S.f
  have := laws_heldInt64S.ev_l m a ha han hm m.length 0 (by omega)
  simp only [Int.natCast_zero, Int.add_zero] at this
  exact this

theorem laws_heldGraph.ev (n : Int) (m : List Int) (a : Int) (ha : 0 ≤ a) (han : a + m.length ≤ 4611686018427387904) (hm : ∀ j : Nat, j < m.length → rd m j = a + j) :
    Ev (fun k => laws_heldGraph.f k n m a) (a + m.length) := by
  unfold laws_heldGraph.f
  refine Ev.bind (laws_heldInt64S.ev m a ha han hm) ?_
  simp only [if_neg (show ¬ (a + (m.length : Int) < 0) by omega)]
  exact Ev.now _

end Go.Proofs.Ytpnofgcgdebncaa.PFnExactRingGraph
