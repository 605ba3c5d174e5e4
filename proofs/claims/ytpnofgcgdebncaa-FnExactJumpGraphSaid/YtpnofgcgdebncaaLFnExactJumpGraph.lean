/- What the functions that FnExactJumpGraph reaches compute. -/
import Derived.Test.YtpnofgcgdebncaaPFnExactJumpGraphx0
import Derived.Test.YtpnofgcgdebncaaPFnExactJumpGraphx1
import Derived.Test.YtpnofgcgdebncaaPFnExactJumpGraphx2
import Derived.Test.YtpnofgcgdebncaaPFnExactJumpGraphx3
import Derived.Test.YtpnofgcgdebncaaPFnExactJumpGraphx4
import Derived.Test.YtpnofgcgdebncaaPFnExactJumpGraphx5
import Derived.Test.YtpnofgcgdebncaaPFnExactJumpGraphx6
import Derived.Test.YtpnofgcgdebncaaGr
namespace Go.Proofs.Ytpnofgcgdebncaa.PFnExactJumpGraph
open Go.RowKit Go.Proofs.YtpnofgcgdebncaaW.PrintWords Go.Proofs.YtpnofgcgdebncaaW.PrintLast Go.Proofs.Ytpnofgcgdebncaa.B
open Classical
set_option linter.unusedVariables false
set_option linter.unusedSimpArgs false

theorem laws_eqInt64S.ev_l (l : List Int) (hl : l.length ≤ 281474976710656) (d : Nat) : ∀ (i : Nat), i + d = l.length → Ev (fun k => laws_eqInt64S.l0 k l l (i : Int)) true := by
  induction d with
  | zero =>
    intro i h3
    refine Ev.step (fun k => laws_eqInt64S.l0.eq_2 ..) ?_
    simp only [if_neg (show ¬ ((i : Int) < (l.length : Int)) by omega)]
    exact Ev.now _
  | succ d ih =>
    intro i h3
    refine Ev.step (fun k => laws_eqInt64S.l0.eq_2 ..) ?_
    simp only [if_pos (show (i : Int) < (l.length : Int) by omega), if_pos (show (0 : Int) ≤ (i : Int) by omega), if_true]
    rw [w64 (by omega) (by omega)]
    exact ih (i + 1) (by omega)
theorem laws_eqInt64S.ev (l : List Int) (hl : l.length ≤ 281474976710656) : Ev (fun k => laws_eqInt64S.f k l l) true := by
  unfold laws_eqInt64S.f
  simp only [if_true]
  exact laws_eqInt64S.ev_l l hl l.length 0 (by omega)

theorem laws_eqGraph.ev (n : Int) (l : List Int) (hl : l.length ≤ 281474976710656) : Ev (fun k => laws_eqGraph.f k n l n l) true := by
  unfold laws_eqGraph.f
  simp only [if_true]
  exact Ev.bind (laws_eqInt64S.ev l hl) (Ev.now _)

/-- The marks a + i, from the place i on. -/
theorem laws_markInt64S.ev_l (n : Nat) (a : Int) (ha : 0 ≤ a) (han : a + n ≤ 4611686018427387904) (d : Nat) : ∀ (i : Nat) (l : List Int), l.length = n → i + d = n →
    ∃ m : List Int, Ev (fun k => laws_markInt64S.l0 k l (a + i) (i : Int)) (a + n, m) ∧ m.length = n ∧ (∀ j, j < i → m[j]? = l[j]?) ∧ ∀ j : Nat, i ≤ j → j < n → rd m j = a + j := by
  induction d with
  | zero =>
    intro i l h1 h3
    refine ⟨l, ?_, h1, fun _ _ => rfl, fun j h h' => by omega⟩
    refine Ev.step (fun k => laws_markInt64S.l0.eq_2 ..) ?_
    simp only [if_neg (show ¬ ((i : Int) < (l.length : Int)) by omega)]
    have : i = n := by omega
    rw [this]
    exact Ev.now _
  | succ d ih =>
    intro i l h1 h3
    obtain ⟨m, hm, h4, h5, h6⟩ := ih (i + 1) (l.set i (a + i)) (by simp [h1]) (by omega)
    refine ⟨m, ?_, h4, fun j hj => ?_, fun j hj hj' => ?_⟩
    · refine Ev.step (fun k => laws_markInt64S.l0.eq_2 ..) ?_
      simp only [if_pos (show (i : Int) < (l.length : Int) by omega), if_pos (show (0 : Int) ≤ (i : Int) by omega)]
      rw [w64 (by omega) (by omega), w64 (by omega) (by omega), Int.add_assoc, Int.toNat_natCast]
      exact hm
    · rw [h5 j (by omega), List.getElem?_set_ne (by omega)]
    · by_cases e : j = i
      · subst e
        have := h5 j (by omega)
        rw [List.getElem?_set_self (by omega)] at this
        rw [rd_nat]
        simp [this]
      · exact h6 j (by omega) hj'
theorem laws_markInt64S.ev (l : List Int) (a : Int) (ha : 0 ≤ a) (han : a + l.length ≤ 4611686018427387904) :
    ∃ m : List Int, Ev (fun k => laws_markInt64S.f k l a) (a + l.length, m) ∧ m.length = l.length ∧ ∀ j : Nat, j < l.length → rd m j = a + j := by
  obtain ⟨m, hm, h4, _, h6⟩ := laws_markInt64S.ev_l l.length a ha han l.length 0 l rfl (by omega)
  refine ⟨m, ?_, h4, fun j hj => h6 j (by omega) hj⟩
  unfold laws_markInt64S.f
  have := hm
  simp only [Int.natCast_zero, Int.add_zero] at this
  exact this

theorem laws_markGraph.ev (n : Int) (l : List Int) (a : Int) (ha : 0 ≤ a) (han : a + l.length ≤ 4611686018427387904) :
    ∃ m : List Int, Ev (fun k => laws_markGraph.f k n l a) (a + l.length, m) ∧ m.length = l.length ∧ ∀ j : Nat, j < l.length → rd m j = a + j := by
  obtain ⟨m, hm, h4, h6⟩ := laws_markInt64S.ev l a ha han
  refine ⟨m, ?_, h4, h6⟩
  unfold laws_markGraph.f
  exact Ev.bind hm (Ev.now _)

theorem laws_heldInt64S.ev_l (m : List Int) (a : Int) (ha : 0 ≤ a) (han : a + m.length ≤ 4611686018427387904) (hm : ∀ j : Nat, j < m.length → rd m j = a + j) (d : Nat) :
    ∀ (i : Nat), i + d = m.length → Ev (fun k => laws_heldInt64S.l0 k m (a + i) (i : Int)) (a + m.length) := by
  induction d with
  | zero =>
    intro i h3
    refine Ev.step (fun k => laws_heldInt64S.l0.eq_2 ..) ?_
    simp only [if_neg (show ¬ ((i : Int) < (m.length : Int)) by omega)]
    have : i = m.length := by omega
    rw [this]
    exact Ev.now _
  | succ d ih =>
    intro i h3
    refine Ev.step (fun k => laws_heldInt64S.l0.eq_2 ..) ?_
    simp only [if_pos (show (i : Int) < (m.length : Int) by omega), if_pos (show (0 : Int) ≤ (i : Int) by omega), if_pos (hm i (by omega))]
    rw [w64 (by omega) (by omega), w64 (by omega) (by omega), Int.add_assoc]
    exact ih (i + 1) (by omega)
theorem laws_heldInt64S.ev (m : List Int) (a : Int) (ha : 0 ≤ a) (han : a + m.length ≤ 4611686018427387904) (hm : ∀ j : Nat, j < m.length → rd m j = a + j) :
    Ev (fun k => laws_heldInt64S.f k m a) (a + m.length) := by
  unfold laws_heldInt64S.f
  have := laws_heldInt64S.ev_l m a ha han hm m.length 0 (by omega)
  simp only [Int.natCast_zero, Int.add_zero] at this
  exact this

theorem laws_heldGraph.ev (n : Int) (m : List Int) (a : Int) (ha : 0 ≤ a) (han : a + m.length ≤ 4611686018427387904) (hm : ∀ j : Nat, j < m.length → rd m j = a + j) :
    Ev (fun k => laws_heldGraph.f k n m a) (a + m.length) := by
  unfold laws_heldGraph.f
  refine Ev.bind (laws_heldInt64S.ev m a ha han hm) ?_
  simp only [if_neg (show ¬ (a + (m.length : Int) < 0) by omega)]
  exact Ev.now _

theorem laws_toInt64S.ev_l (l : List Int) (hl : l.length ≤ 281474976710656) (d : Nat) : ∀ (i : Nat) (acc : List Int), acc.length = l.length → (∀ j, j < i → acc[j]? = l[j]?) → i + d = l.length →
    Ev (fun k => laws_toInt64S.l0 k l acc (i : Int)) l := by
  induction d with
  | zero =>
    intro i acc h1 h2 h3
    refine Ev.step (fun k => laws_toInt64S.l0.eq_2 ..) ?_
    simp only [if_neg (show ¬ ((i : Int) < (l.length : Int)) by omega)]
    refine ev_some (List.ext_getElem? fun j => ?_)
    by_cases hj : j < i
    · exact h2 j hj
    · rw [List.getElem?_eq_none (by omega), List.getElem?_eq_none (by omega)]
  | succ d ih =>
    intro i acc h1 h2 h3
    refine Ev.step (fun k => laws_toInt64S.l0.eq_2 ..) ?_
    simp only [if_pos (show (i : Int) < (l.length : Int) by omega), if_pos (show (0 : Int) ≤ (i : Int) by omega), if_pos (show (i : Int) < (acc.length : Int) by omega)]
    rw [w64 (by omega) (by omega)]
    have := ih (i + 1) (acc.set ((i : Int)).toNat (rd l i)) (by simp [h1]) (fun j hj => by
      rw [Int.toNat_natCast]
      by_cases e : i = j
      · subst e
        rw [List.getElem?_set_self (by omega), rd_get l i (by omega)]
        simp
      · rw [List.getElem?_set_ne e]
        exact h2 j (by omega)) (by omega)
    exact this
theorem laws_toInt64S.ev (l : List Int) (hl : l.length ≤ 35184372088832) : Ev (fun k => laws_toInt64S.f k l) l := by
  unfold laws_toInt64S.f
  simp only [if_pos (show (0 : Int) ≤ (l.length : Int) by omega), if_pos (show ((l.length : Int)).toNat ≤ 35184372088832 by omega)]
  exact laws_toInt64S.ev_l l (by omega) l.length 0 _ (by simp) (fun j hj => by omega) (by omega)

theorem spec_l01In.sp (a b c : Int) : spec_l01In.f a b c = some (decide (b ≤ a ∧ a ≤ c)) := by
  unfold spec_l01In.f
  by_cases h : b ≤ a <;> simp [h]

theorem spec_l01Empty.sp (n : Int) (h0 : 0 ≤ n) (h1 : n ≤ 35184372088832) : spec_l01Empty.f n = some (n, List.replicate n.toNat 0) := by
  unfold spec_l01Empty.f
  rw [if_pos h0, if_pos (by omega)]

theorem spec_l01Put.sp (n : Int) (rows : List Int) (a b : Int) (ha : 0 ≤ a) (ha1 : a < rows.length) (hb : 0 ≤ b) (hb1 : b < rows.length) (hl : rows.length ≤ 62) :
    spec_l01Put.f n rows a b = some (putE rows a b) := by
  unfold spec_l01Put.f
  rw [u64 hb (by omega), u64 ha (by omega), if_pos ha, if_pos ha1, if_pos hb, shl_one hb (by omega), shl_one ha (by omega)]
  simp only [Option.bind_some]
  rw [if_pos hb, if_pos hb1, if_pos ha]
  rfl

def jumpRun (n : Int) (js : List Int) : Nat → Int → List Int → List Int
  | 0, _, rows => rows
  | d + 1, i, rows => jumpRun n js d (i + 1) (if js.length = 0 then putE rows i ((i + 1) % n) else putE (putE rows i ((i + 1) % n)) i ((i + rd js (i % js.length)) % n))
theorem jumpRun_length (n : Int) (js : List Int) (d : Nat) : ∀ (i : Int) (rows : List Int), (jumpRun n js d i rows).length = rows.length := by
  induction d with
  | zero => intro i rows; rfl
  | succ d ih => intro i rows; simp only [jumpRun]; rw [ih]; split <;> simp only [putE_length]
def Jumps (n : Int) (js : List Int) : Prop := ∀ j : Nat, 0 ≤ j → j < js.length → 1 ≤ rd js j ∧ rd js j < n
noncomputable def jumpR (n : Int) (js : List Int) : Int × List Int × Int :=
  if 3 ≤ n ∧ n ≤ 62 ∧ js.length ≤ 20 ∧ Jumps n js then (n, jumpRun n js n.toNat 0 (List.replicate n.toNat 0), 0) else (0, [], 2)
theorem jumpR_length (n : Int) (js : List Int) : (jumpR n js).2.1.length ≤ 62 := by
  unfold jumpR
  split
  · rw [jumpRun_length, List.length_replicate]; omega
  · simp
theorem spec_l01Jumps.ev_l (n : Int) (js : List Int) (hn : 3 ≤ n) (hn1 : n ≤ 62) (hl : js.length ≤ 20) (hj : Jumps n js) (d : Nat) : ∀ (i : Int) (rows : List Int), (rows.length : Int) = n → 0 ≤ i → i + d = n →
    Ev (fun q => spec_l01Jumps.l0 q n js i n rows) (n, jumpRun n js d i rows) := by
  induction d with
  | zero =>
    intro i rows h1 h2 h3
    refine Ev.step (fun k => spec_l01Jumps.l0.eq_2 ..) ?_
    simp only [if_neg (show ¬ (i < n) by omega)]
    exact Ev.now _
  | succ d ih =>
    intro i rows h1 h2 h3
    refine Ev.step (fun k => spec_l01Jumps.l0.eq_2 ..) ?_
    have e1 := Int.emod_nonneg (i + 1) (show n ≠ 0 by omega)
    have e2 := Int.emod_lt_of_pos (i + 1) (show 0 < n by omega)
    rw [w64 (n := i + 1) (by omega) (by omega), tmod_pos (a := i + 1) (by omega), tmod_pos (a := i) (by omega)]
    simp only [if_pos (show i < n by omega), if_neg (show ¬ (n = 0) by omega)]
    rw [spec_l01Put.sp _ _ _ _ (by omega) (by omega) (by omega) (by omega) (by omega)]
    simp only [Option.bind_some]
    by_cases hz : js.length = 0
    · simp only [if_neg (show ¬ ((js.length : Int) > 0) by omega)]
      have := ih (i + 1) (putE rows i ((i + 1) % n)) (by rw [putE_length]; omega) (by omega) (by omega)
      simp only [jumpRun, if_pos hz]
      exact this
    · have e3 := Int.emod_nonneg i (show (js.length : Int) ≠ 0 by omega)
      have e4 := Int.emod_lt_of_pos i (show 0 < (js.length : Int) by omega)
      obtain ⟨m, hm⟩ := Int.eq_ofNat_of_zero_le e3
      have e5 := hj m (by omega) (by omega)
      rw [show ((m : Nat) : Int) = i % (js.length : Int) from hm.symm] at e5
      simp only [if_pos (show (js.length : Int) > 0 by omega), if_neg (show ¬ ((js.length : Int) = 0) by omega), if_pos e3, if_pos e4]
      rw [w64 (by omega) (by omega), tmod_pos (by omega)]
      have e6 := Int.emod_nonneg (i + rd js (i % (js.length : Int))) (show n ≠ 0 by omega)
      have e7 := Int.emod_lt_of_pos (i + rd js (i % (js.length : Int))) (show 0 < n by omega)
      rw [spec_l01Put.sp _ _ _ _ (by omega) (by rw [putE_length]; omega) (by omega) (by rw [putE_length]; omega) (by rw [putE_length]; omega)]
      simp only [Option.bind_some]
      have := ih (i + 1) (putE (putE rows i ((i + 1) % n)) i ((i + rd js (i % (js.length : Int))) % n)) (by simp only [putE_length]; omega) (by omega) (by omega)
      simp only [jumpRun, if_neg hz]
      exact this
theorem spec_l01Jumps.ev (n : Int) (js : List Int) (hn : 3 ≤ n) (hn1 : n ≤ 62) (hl : js.length ≤ 20) (hj : Jumps n js) :
    Ev (fun q => spec_l01Jumps.f q n js) (n, jumpRun n js n.toNat 0 (List.replicate n.toNat 0)) := by
  unfold spec_l01Jumps.f
  rw [spec_l01Empty.sp _ (by omega) (by omega)]
  exact spec_l01Jumps.ev_l n js hn hn1 hl hj n.toNat 0 _ (by rw [List.length_replicate]; omega) (by omega) (by omega)
theorem spec_JumpGraph.ev_l (n : Int) (js : List Int) (hn : 3 ≤ n) (hn1 : n ≤ 62) (hl : js.length ≤ 20) (d : Nat) : ∀ i : Nat, i + d = js.length → ((∀ j : Nat, i ≤ j → j < js.length → 1 ≤ rd js j ∧ rd js j < n) ↔ Jumps n js) →
    Ev (fun q => spec_JumpGraph.l0 q n js (i : Int)) (jumpR n js) := by
  induction d with
  | zero =>
    intro i h hj
    refine Ev.step (fun k => spec_JumpGraph.l0.eq_2 ..) ?_
    simp only [if_neg (show ¬ ((i : Int) < (js.length : Int)) by omega)]
    have hj' : Jumps n js := hj.1 (scan_end (by omega))
    refine Ev.bind (spec_l01Jumps.ev n js hn hn1 hl hj') ?_
    unfold jumpR
    rw [if_pos ⟨hn, hn1, hl, hj'⟩]
    exact Ev.now _
  | succ d ih =>
    intro i h hj
    refine Ev.step (fun k => spec_JumpGraph.l0.eq_2 ..) ?_
    rw [w64 (n := n - 1) (by omega) (by omega), w64 (by omega) (by omega)]
    simp only [if_pos (show (i : Int) < (js.length : Int) by omega), if_pos (show (0 : Int) ≤ (i : Int) by omega), spec_l01In.sp, Option.bind_some, decide_eq_true_eq]
    by_cases c : 1 ≤ rd js (i : Int) ∧ rd js (i : Int) ≤ n - 1
    · simp only [if_pos c]
      exact ih (i + 1) (by omega) ((scan_step (P := fun j : Nat => 1 ≤ rd js j ∧ rd js j < n) (i := i) (by omega)).symm.trans hj)
    · simp only [if_neg c]
      have : ¬ Jumps n js := fun a => scan_fail (P := fun j : Nat => 1 ≤ rd js j ∧ rd js j < n) (i := i) (by omega) (by omega) (hj.2 a)
      unfold jumpR
      rw [if_neg (fun a => this a.2.2.2)]
      exact Ev.now _
theorem spec_JumpGraph.ev (n : Int) (js : List Int) : Ev (fun q => spec_JumpGraph.f q n js) (jumpR n js) := by
  unfold spec_JumpGraph.f
  simp only [spec_l01In.sp, Option.bind_some, decide_eq_true_eq]
  by_cases h1 : 3 ≤ n ∧ n ≤ 62
  · simp only [if_pos h1]
    refine Ev.step (fun k => spec_JumpGraph.j0.eq_2 ..) ?_
    simp only [decide_eq_true_eq]
    by_cases h2 : (js.length : Int) > 20
    · simp only [if_pos h2]
      unfold jumpR
      rw [if_neg (by omega)]
      exact Ev.now _
    · simp only [if_neg h2]
      exact spec_JumpGraph.ev_l n js h1.1 h1.2 (by omega) js.length 0 (by omega) Iff.rfl
  · simp only [if_neg h1]
    refine Ev.step (fun k => spec_JumpGraph.j0.eq_2 ..) ?_
    simp only [if_true]
    unfold jumpR
    rw [if_neg (by omega)]
    exact Ev.now _

theorem impl_empty.sp (n : Int) (h0 : 0 ≤ n) (h1 : n ≤ 35184372088832) : impl_empty.f n = some (n, List.replicate n.toNat 0) := by
  unfold impl_empty.f
  rw [if_pos h0, if_pos (by omega)]

theorem impl_Graph_put.sp (n : Int) (rows : List Int) (a b : Int) (hab : a ≠ b) (ha : 0 ≤ a) (ha1 : a < rows.length) (hb : 0 ≤ b) (hb1 : b < rows.length) (hl : rows.length ≤ 62) :
    impl_Graph_put.f n rows a b = some (putE rows a b) := by
  unfold impl_Graph_put.f
  rw [if_neg hab, if_pos ha, if_pos ha1, if_pos hb, shl_one hb (by omega), shl_one ha (by omega)]
  simp only [Option.bind_some]
  rw [if_pos hb1]
  rfl
theorem impl_Graph_put.same (n : Int) (rows : List Int) (a : Int) : impl_Graph_put.f n rows a a = some rows := by
  unfold impl_Graph_put.f
  rw [if_pos rfl]

theorem impl_jumpGraph.ev_l (n : Int) (js : List Int) (hn : 3 ≤ n) (hn1 : n ≤ 62) (hl : js.length ≤ 20) (hj : Jumps n js) (d : Nat) : ∀ (i : Int) (rows : List Int), (rows.length : Int) = n → 0 ≤ i → i + d = n →
    Ev (fun q => impl_jumpGraph.l0 q n js n i n rows) (n, jumpRun n js d i rows) := by
  induction d with
  | zero =>
    intro i rows h1 h2 h3
    refine Ev.step (fun k => impl_jumpGraph.l0.eq_2 ..) ?_
    simp only [if_neg (show ¬ (i < n) by omega)]
    exact Ev.now _
  | succ d ih =>
    intro i rows h1 h2 h3
    refine Ev.step (fun k => impl_jumpGraph.l0.eq_2 ..) ?_
    have e1 := Int.emod_nonneg (i + 1) (show n ≠ 0 by omega)
    have e2 := Int.emod_lt_of_pos (i + 1) (show 0 < n by omega)
    rw [w64 (n := i + 1) (by omega) (by omega), tmod_pos (a := i + 1) (by omega), tmod_pos (a := i) (by omega)]
    simp only [if_pos (show i < n by omega), if_neg (show ¬ (n = 0) by omega)]
    rw [impl_Graph_put.sp _ _ _ _ (mod_ne (by omega) (by omega) (by omega) (by omega)) (by omega) (by omega) (by omega) (by omega) (by omega)]
    simp only [Option.bind_some]
    by_cases hz : js.length = 0
    · simp only [if_neg (show ¬ ((js.length : Int) > 0) by omega)]
      have := ih (i + 1) (putE rows i ((i + 1) % n)) (by rw [putE_length]; omega) (by omega) (by omega)
      simp only [jumpRun, if_pos hz]
      exact this
    · have e3 := Int.emod_nonneg i (show (js.length : Int) ≠ 0 by omega)
      have e4 := Int.emod_lt_of_pos i (show 0 < (js.length : Int) by omega)
      obtain ⟨m, hm⟩ := Int.eq_ofNat_of_zero_le e3
      have e5 := hj m (by omega) (by omega)
      rw [show ((m : Nat) : Int) = i % (js.length : Int) from hm.symm] at e5
      simp only [if_pos (show (js.length : Int) > 0 by omega), if_neg (show ¬ ((js.length : Int) = 0) by omega), if_pos e3, if_pos e4]
      rw [w64 (by omega) (by omega), tmod_pos (by omega)]
      have e6 := Int.emod_nonneg (i + rd js (i % (js.length : Int))) (show n ≠ 0 by omega)
      have e7 := Int.emod_lt_of_pos (i + rd js (i % (js.length : Int))) (show 0 < n by omega)
      rw [impl_Graph_put.sp _ _ _ _ (mod_ne (by omega) (by omega) e5.1 e5.2) (by omega) (by rw [putE_length]; omega) (by omega) (by rw [putE_length]; omega) (by rw [putE_length]; omega)]
      simp only [Option.bind_some]
      have := ih (i + 1) (putE (putE rows i ((i + 1) % n)) i ((i + rd js (i % (js.length : Int))) % n)) (by simp only [putE_length]; omega) (by omega) (by omega)
      simp only [jumpRun, if_neg hz]
      exact this
theorem impl_jumpGraph.ev (n : Int) (js : List Int) (hn : 3 ≤ n) (hn1 : n ≤ 62) (hl : js.length ≤ 20) (hj : Jumps n js) :
    Ev (fun q => impl_jumpGraph.f q n js) (n, jumpRun n js n.toNat 0 (List.replicate n.toNat 0)) := by
  unfold impl_jumpGraph.f
  rw [impl_empty.sp _ (by omega) (by omega)]
  exact impl_jumpGraph.ev_l n js hn hn1 hl hj n.toNat 0 _ (by rw [List.length_replicate]; omega) (by omega) (by omega)
theorem impl_JumpGraph.ev_l (n : Int) (js : List Int) (hn : 3 ≤ n) (hn1 : n ≤ 62) (hl : js.length ≤ 20) (d : Nat) : ∀ i : Nat, i + d = js.length → ((∀ j : Nat, i ≤ j → j < js.length → 1 ≤ rd js j ∧ rd js j < n) ↔ Jumps n js) →
    Ev (fun q => impl_JumpGraph.l0 q n js js (js.length : Int) (i : Int)) (jumpR n js) := by
  induction d with
  | zero =>
    intro i h hj
    refine Ev.step (fun k => impl_JumpGraph.l0.eq_2 ..) ?_
    simp only [if_neg (show ¬ ((i : Int) < (js.length : Int)) by omega)]
    have hj' : Jumps n js := hj.1 (scan_end (by omega))
    refine Ev.bind (impl_jumpGraph.ev n js hn hn1 hl hj') ?_
    unfold jumpR
    rw [if_pos ⟨hn, hn1, hl, hj'⟩]
    exact Ev.now _
  | succ d ih =>
    intro i h hj
    refine Ev.step (fun k => impl_JumpGraph.l0.eq_2 ..) ?_
    rw [w64 (by omega) (by omega)]
    simp only [if_pos (show (i : Int) < (js.length : Int) by omega), if_pos (show (0 : Int) ≤ (i : Int) by omega)]
    by_cases c : 1 ≤ rd js (i : Int) ∧ rd js (i : Int) < n
    · simp only [if_neg (show ¬ rd js (i : Int) < 1 by omega), if_neg (show ¬ rd js (i : Int) ≥ n by omega)]
      exact ih (i + 1) (by omega) ((scan_step (P := fun j : Nat => 1 ≤ rd js j ∧ rd js j < n) (i := i) (by omega)).symm.trans hj)
    · have : ¬ Jumps n js := fun a => scan_fail (P := fun j : Nat => 1 ≤ rd js j ∧ rd js j < n) (i := i) c (by omega) (hj.2 a)
      unfold jumpR
      rw [if_neg (fun a => this a.2.2.2)]
      by_cases c1 : rd js (i : Int) < 1
      · simp only [if_pos c1]; exact Ev.now _
      · simp only [if_neg c1, if_pos (show rd js (i : Int) ≥ n by omega)]; exact Ev.now _
theorem impl_JumpGraph.ev (n : Int) (js : List Int) : Ev (fun q => impl_JumpGraph.f q n js) (jumpR n js) := by
  unfold impl_JumpGraph.f
  by_cases h1 : n < 3
  · simp only [if_pos h1]
    refine Ev.step (fun k => impl_JumpGraph.j0.eq_2 ..) ?_
    simp only [if_true]; unfold jumpR; rw [if_neg (by omega)]; exact Ev.now _
  by_cases h2 : n > 62
  · simp only [if_neg h1, if_pos h2]
    refine Ev.step (fun k => impl_JumpGraph.j0.eq_2 ..) ?_
    simp only [if_true]; unfold jumpR; rw [if_neg (by omega)]; exact Ev.now _
  simp only [if_neg h1, if_neg h2]
  refine Ev.step (fun k => impl_JumpGraph.j0.eq_2 ..) ?_
  simp only [decide_eq_true_eq]
  by_cases h3 : (js.length : Int) > 20
  · simp only [if_pos h3]; unfold jumpR; rw [if_neg (by omega)]; exact Ev.now _
  · simp only [if_neg h3]
    exact impl_JumpGraph.ev_l n js (by omega) (by omega) (by omega) js.length 0 (by omega) Iff.rfl

end Go.Proofs.Ytpnofgcgdebncaa.PFnExactJumpGraph
