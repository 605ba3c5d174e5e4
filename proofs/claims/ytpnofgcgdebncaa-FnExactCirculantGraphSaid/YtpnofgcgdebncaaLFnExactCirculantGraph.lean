/- What the functions that FnExactCirculantGraph reaches compute. -/
import Derived.Test.YtpnofgcgdebncaaPFnExactCirculantGraphx0
import Derived.Test.YtpnofgcgdebncaaPFnExactCirculantGraphx1
import Derived.Test.YtpnofgcgdebncaaPFnExactCirculantGraphx2
import Derived.Test.YtpnofgcgdebncaaPFnExactCirculantGraphx3
import Derived.Test.YtpnofgcgdebncaaPFnExactCirculantGraphx4
import Derived.Test.YtpnofgcgdebncaaPFnExactCirculantGraphx5
import Derived.Test.YtpnofgcgdebncaaPFnExactCirculantGraphx6
import Derived.Test.YtpnofgcgdebncaaGr
namespace Go.Proofs.Ytpnofgcgdebncaa.PFnExactCirculantGraph
open Go.RowKit Go.Proofs.YtpnofgcgdebncaaW.PrintWords Go.Proofs.YtpnofgcgdebncaaW.PrintLast Go.Proofs.Ytpnofgcgdebncaa.B
open Classical
set_option linter.unusedVariables false
set_option linter.unusedSimpArgs false

theorem laws_eqInt64S.ev_l (l : List Int) (hl : l.length ≤ 281474976710656) (d : Nat) : ∀ (i : Nat), i + d = l.length → Ev (fun k => laws_eqInt64S.l0 k l l (i : Int)) true := by
  induction d with
  | zero =>
    intro i h3
    refine Ev.step (fun k => laws_eqInt64S.l0.eq_2 ..) ?_
    simp only [if_neg (show ¬ ((i : Int) < (l.length : Int)) by omega)]
    exact Ev.now _
  | succ d ih =>
    intro i h3
    refine Ev.step (fun k => laws_eqInt64S.l0.eq_2 ..) ?_
    simp only [if_pos (show (i : Int) < (l.length : Int) by omega), if_pos (show (0 : Int) ≤ (i : Int) by omega), if_true]
    rw [w64 (by omega) (by omega)]
    exact ih (i + 1) (by omega)
theorem laws_eqInt64S.ev (l : List Int) (hl : l.length ≤ 281474976710656) : Ev (fun k => laws_eqInt64S.f k l l) true := by
  unfold laws_eqInt64S.f
  simp only [if_true]
  exact laws_eqInt64S.ev_l l hl l.length 0 (by omega)

theorem laws_eqGraph.ev (n : Int) (l : List Int) (hl : l.length ≤ 281474976710656) : Ev (fun k => laws_eqGraph.f k n l n l) true := by
  unfold laws_eqGraph.f
  simp only [if_true]
  exact Ev.bind (laws_eqInt64S.ev l hl) (Ev.now _)

/-- The marks a + i, from the place i on. -/
theorem laws_markInt64S.ev_l (n : Nat) (a : Int) (ha : 0 ≤ a) (han : a + n ≤ 4611686018427387904) (d : Nat) : ∀ (i : Nat) (l : List Int), l.length = n → i + d = n →
    ∃ m : List Int, Ev (fun k => laws_markInt64S.l0 k l (a + i) (i : Int)) (a + n, m) ∧ m.length = n ∧ (∀ j, j < i → m[j]? = l[j]?) ∧ ∀ j : Nat, i ≤ j → j < n → rd m j = a + j := by
  induction d with
  | zero =>
    intro i l h1 h3
    refine ⟨l, ?_, h1, fun _ _ => rfl, fun j h h' => by omega⟩
    refine Ev.step (fun k => laws_markInt64S.l0.eq_2 ..) ?_
    simp only [if_neg (show ¬ ((i : Int) < (l.length : Int)) by omega)]
    have : i = n := by omega
    rw [this]
    exact Ev.now _
  | succ d ih =>
    intro i l h1 h3
    obtain ⟨m, hm, h4, h5, h6⟩ := ih (i + 1) (l.set i (a + i)) (by simp [h1]) (by omega)
    refine ⟨m, ?_, h4, fun j hj => ?_, fun j hj hj' => ?_⟩
    · refine Ev.step (fun k => laws_markInt64S.l0.eq_2 ..) ?_
      simp only [if_pos (show (i : Int) < (l.length : Int) by omega), if_pos (show (0 : Int) ≤ (i : Int) by omega)]
      rw [w64 (by omega) (by omega), w64 (by omega) (by omega), Int.add_assoc, Int.toNat_natCast]
      exact hm
    · rw [h5 j (by omega), List.getElem?_set_ne (by omega)]
    · by_cases e : j = i
      · subst e
        have := h5 j (by omega)
        rw [List.getElem?_set_self (by omega)] at this
        rw [rd_nat]
        simp [this]
      · exact h6 j (by omega) hj'
theorem laws_markInt64S.ev (l : List Int) (a : Int) (ha : 0 ≤ a) (han : a + l.length ≤ 4611686018427387904) :
    ∃ m : List Int, Ev (fun k => laws_markInt64S.f k l a) (a + l.length, m) ∧ m.length = l.length ∧ ∀ j : Nat, j < l.length → rd m j = a + j := by
  obtain ⟨m, hm, h4, _, h6⟩ := laws_markInt64S.ev_l l.length a ha han l.length 0 l rfl (by omega)
  refine ⟨m, ?_, h4, fun j hj => h6 j (by omega) hj⟩
  unfold laws_markInt64S.f
  have := hm
  simp only [Int.natCast_zero, Int.add_zero] at this
  exact this

theorem laws_markGraph.ev (n : Int) (l : List Int) (a : Int) (ha : 0 ≤ a) (han : a + l.length ≤ 4611686018427387904) :
    ∃ m : List Int, Ev (fun k => laws_markGraph.f k n l a) (a + l.length, m) ∧ m.length = l.length ∧ ∀ j : Nat, j < l.length → rd m j = a + j := by
  obtain ⟨m, hm, h4, h6⟩ := laws_markInt64S.ev l a ha han
  refine ⟨m, ?_, h4, h6⟩
  unfold laws_markGraph.f
  exact Ev.bind hm (Ev.now _)

theorem laws_heldInt64S.ev_l (m : List Int) (a : Int) (ha : 0 ≤ a) (han : a + m.length ≤ 4611686018427387904) (hm : ∀ j : Nat, j < m.length → rd m j = a + j) (d : Nat) :
    ∀ (i : Nat), i + d = m.length → Ev (fun k => laws_heldInt64S.l0 k m (a + i) (i : Int)) (a + m.length) := by
  induction d with
  | zero =>
    intro i h3
    refine Ev.step (fun k => laws_heldInt64S.l0.eq_2 ..) ?_
    simp only [if_neg (show ¬ ((i : Int) < (m.length : Int)) by omega)]
    have : i = m.length := by omega
    rw [this]
    exact Ev.now _
  | succ d ih =>
    intro i h3
    refine Ev.step (fun k => laws_heldInt64S.l0.eq_2 ..) ?_
    simp only [if_pos (show (i : Int) < (m.length : Int) by omega), if_pos (show (0 : Int) ≤ (i : Int) by omega), if_pos (hm i (by omega))]
    rw [w64 (by omega) (by omega), w64 (by omega) (by omega), Int.add_assoc]
    exact ih (i + 1) (by omega)
theorem laws_heldInt64S.ev (m : List Int) (a : Int) (ha : 0 ≤ a) (han : a + m.length ≤ 4611686018427387904) (hm : ∀ j : Nat, j < m.length → rd m j = a + j) :
    Ev (fun k => laws_heldInt64S.f k m a) (a + m.length) := by
  unfold laws_heldInt64S.f
  have := laws_heldInt64S.ev_l m a ha han hm m.length 0 (by omega)
  simp only [Int.natCast_zero, Int.add_zero] at this
  exact this

theorem laws_heldGraph.ev (n : Int) (m : List Int) (a : Int) (ha : 0 ≤ a) (han : a + m.length ≤ 4611686018427387904) (hm : ∀ j : Nat, j < m.length → rd m j = a + j) :
    Ev (fun k => laws_heldGraph.f k n m a) (a + m.length) := by
  unfold laws_heldGraph.f
  refine Ev.bind (laws_heldInt64S.ev m a ha han hm) ?_
  simp only [if_neg (show ¬ (a + (m.length : Int) < 0) by omega)]
  exact Ev.now _

theorem laws_toInt64S.ev_l (l : List Int) (hl : l.length ≤ 281474976710656) (d : Nat) : ∀ (i : Nat) (acc : List Int), acc.length = l.length → (∀ j, j < i → acc[j]? = l[j]?) → i + d = l.length →
    Ev (fun k => laws_toInt64S.l0 k l acc (i : Int)) l := by
  induction d with
  | zero =>
    intro i acc h1 h2 h3
    refine Ev.step (fun k => laws_toInt64S.l0.eq_2 ..) ?_
    simp only [if_neg (show ¬ ((i : Int) < (l.length : Int)) by omega)]
    refine ev_some (List.ext_getElem? fun j => ?_)
    by_cases hj : j < i
    · exact h2 j hj
    · rw [List.getElem?_eq_none (by omega), List.getElem?_eq_none (by omega)]
  | succ d ih =>
    intro i acc h1 h2 h3
    refine Ev.step (fun k => laws_toInt64S.l0.eq_2 ..) ?_
    simp only [if_pos (show (i : Int) < (l.length : Int) by omega), if_pos (show (0 : Int) ≤ (i : Int) by omega), if_pos (show (i : Int) < (acc.length : Int) by omega)]
    rw [w64 (by omega) (by omega)]
    have := ih (i + 1) (acc.set ((i : Int)).toNat (rd l i)) (by simp [h1]) (fun j hj => by
      rw [Int.toNat_natCast]
      by_cases e : i = j
      · subst e
        rw [List.getElem?_set_self (by omega), rd_get l i (by omega)]
        simp
      · rw [List.getElem?_set_ne e]
        exact h2 j (by omega)) (by omega)
    exact this
theorem laws_toInt64S.ev (l : List Int) (hl : l.length ≤ 35184372088832) : Ev (fun k => laws_toInt64S.f k l) l := by
  unfold laws_toInt64S.f
  simp only [if_pos (show (0 : Int) ≤ (l.length : Int) by omega), if_pos (show ((l.length : Int)).toNat ≤ 35184372088832 by omega)]
  exact laws_toInt64S.ev_l l (by omega) l.length 0 _ (by simp) (fun j hj => by omega) (by omega)

theorem spec_l01In.sp (a b c : Int) : spec_l01In.f a b c = some (decide (b ≤ a ∧ a ≤ c)) := by
  unfold spec_l01In.f
  by_cases h : b ≤ a <;> simp [h]

theorem spec_l01Empty.sp (n : Int) (h0 : 0 ≤ n) (h1 : n ≤ 35184372088832) : spec_l01Empty.f n = some (n, List.replicate n.toNat 0) := by
  unfold spec_l01Empty.f
  rw [if_pos h0, if_pos (by omega)]

theorem spec_l01Put.sp (n : Int) (rows : List Int) (a b : Int) (ha : 0 ≤ a) (ha1 : a < rows.length) (hb : 0 ≤ b) (hb1 : b < rows.length) (hl : rows.length ≤ 62) :
    spec_l01Put.f n rows a b = some (putE rows a b) := by
  unfold spec_l01Put.f
  rw [u64 hb (by omega), u64 ha (by omega), if_pos ha, if_pos ha1, if_pos hb, shl_one hb (by omega), shl_one ha (by omega)]
  simp only [Option.bind_some]
  rw [if_pos hb, if_pos hb1, if_pos ha]
  rfl

def CJumps (n : Int) (js : List Int) : Prop := ∀ j : Nat, 0 ≤ j → j < js.length → 1 ≤ rd js j ∧ rd js j < n
noncomputable def circR (n : Int) (js : List Int) : Int × List Int × Int :=
  if 1 ≤ n ∧ n ≤ 62 ∧ js.length ≤ 62 ∧ CJumps n js then (n, gr n.toNat (fun v w => ∃ j ∈ js, ((v : Int) + j) % n = w ∨ ((w : Int) + j) % n = v), 0) else (0, [], 2)
theorem circR_length (n : Int) (js : List Int) : (circR n js).2.1.length ≤ 62 := by
  unfold circR
  split
  · simp only [gr_length]; omega
  · simp
theorem CJumps.mem {n : Int} {js : List Int} (h : CJumps n js) {j : Int} (hj : j ∈ js) : 1 ≤ j ∧ j < n := by
  obtain ⟨i, hi, rfl⟩ := mem_rd.1 hj
  exact h i (by omega) hi
theorem spec_CirculantGraph.ev_2 (n : Int) (js : List Int) (hn : 1 ≤ n) (hn1 : n ≤ 62) (hl : js.length ≤ 62) (hj : CJumps n js) (i : Int) (hi : 0 ≤ i) (hi1 : i < n) (F : List Int → Int × List Int × Int)
    (hF : ∀ rows : List Int, (rows.length : Int) = n → Ev (fun q => spec_CirculantGraph.l1 q n js (i + 1) n rows) (F rows)) (d : Nat) : ∀ (k : Nat) (rows : List Int), (rows.length : Int) = n → k + d = js.length →
    Ev (fun q => spec_CirculantGraph.l2 q n js i (k : Int) n rows) (F (putAll rows ((js.drop k).map fun j => (i, (i + j) % n)))) := by
  induction d with
  | zero =>
    intro k rows h1 h2
    refine Ev.step (fun k => spec_CirculantGraph.l2.eq_2 ..) ?_
    rw [w64 (n := i + 1) (by omega) (by omega)]
    simp only [if_neg (show ¬ ((k : Int) < (js.length : Int)) by omega)]
    rw [List.drop_eq_nil_of_le (by omega)]
    exact hF rows h1
  | succ d ih =>
    intro k rows h1 h2
    refine Ev.step (fun k => spec_CirculantGraph.l2.eq_2 ..) ?_
    have e5 := hj k (by omega) (by omega)
    rw [w64 (n := i + rd js k) (by omega) (by omega), w64 (n := (k : Int) + 1) (by omega) (by omega), tmod_pos (by omega)]
    have e6 := Int.emod_nonneg (i + rd js k) (show n ≠ 0 by omega)
    have e7 := Int.emod_lt_of_pos (i + rd js k) (show 0 < n by omega)
    simp only [if_pos (show (k : Int) < (js.length : Int) by omega), if_pos (show (0 : Int) ≤ (k : Int) by omega), if_neg (show ¬ (n = 0) by omega)]
    rw [spec_l01Put.sp _ _ _ _ (by omega) (by omega) (by omega) (by omega) (by omega)]
    simp only [Option.bind_some]
    rw [drop_rd js k (by omega), List.map_cons, putAll_cons]
    exact ih (k + 1) _ (by rw [putE_length]; omega) (by omega)
theorem spec_CirculantGraph.ev_1 (n : Int) (js : List Int) (hn : 1 ≤ n) (hn1 : n ≤ 62) (hl : js.length ≤ 62) (hj : CJumps n js) (d : Nat) : ∀ (i : Int) (rows : List Int), (rows.length : Int) = n → 0 ≤ i → i + d = n →
    Ev (fun q => spec_CirculantGraph.l1 q n js i n rows) (n, putAll rows ((irange i d).flatMap fun i => js.map fun j => (i, (i + j) % n)), 0) := by
  induction d with
  | zero =>
    intro i rows h1 h2 h3
    refine Ev.step (fun k => spec_CirculantGraph.l1.eq_2 ..) ?_
    simp only [if_neg (show ¬ (i < n) by omega)]
    exact Ev.now _
  | succ d ih =>
    intro i rows h1 h2 h3
    refine Ev.step (fun k => spec_CirculantGraph.l1.eq_2 ..) ?_
    simp only [if_pos (show i < n by omega)]
    have := spec_CirculantGraph.ev_2 n js hn hn1 hl hj i h2 (by omega) (fun rows => (n, putAll rows ((irange (i + 1) d).flatMap fun i => js.map fun j => (i, (i + j) % n)), 0)) (fun rows hr => ih (i + 1) rows hr (by omega) (by omega)) js.length 0 rows h1 (by omega)
    simp only [irange, List.flatMap_cons, putAll_append]
    exact this
theorem spec_CirculantGraph.ev_0 (n : Int) (js : List Int) (hn : 1 ≤ n) (hn1 : n ≤ 62) (hl : js.length ≤ 62) (d : Nat) : ∀ i : Nat, i + d = js.length → ((∀ j : Nat, i ≤ j → j < js.length → 1 ≤ rd js j ∧ rd js j < n) ↔ CJumps n js) →
    Ev (fun q => spec_CirculantGraph.l0 q n js (i : Int)) (circR n js) := by
  induction d with
  | zero =>
    intro i h hj
    refine Ev.step (fun k => spec_CirculantGraph.l0.eq_2 ..) ?_
    simp only [if_neg (show ¬ ((i : Int) < (js.length : Int)) by omega)]
    have hj' : CJumps n js := hj.1 (scan_end (by omega))
    rw [spec_l01Empty.sp _ (by omega) (by omega)]
    simp only [Option.bind_some]
    have := spec_CirculantGraph.ev_1 n js hn hn1 hl hj' n.toNat 0 (List.replicate n.toNat 0) (by rw [List.length_replicate]; omega) (by omega) (by omega)
    refine ev_cast this ?_
    rw [gr_empty, gr_putAll (by omega)]
    · unfold circR
      rw [if_pos ⟨hn, hn1, hl, hj'⟩]
      congr 2
      refine gr_congr fun v w hv hw => ?_
      simp only [false_or, List.mem_flatMap, List.mem_map, mem_irange]
      constructor
      · rintro ⟨p, ⟨i, ⟨_, _⟩, j, hj, rfl⟩, e⟩
        refine ⟨j, hj, ?_⟩
        simp only at e
        rcases e with ⟨e1, e2⟩ | ⟨e1, e2⟩
        · exact .inl (by rw [← e1, e2])
        · exact .inr (by rw [← e1, e2])
      · rintro ⟨j, hj, e⟩
        rcases e with e | e
        · exact ⟨_, ⟨(v : Int), by omega, j, hj, rfl⟩, .inl ⟨rfl, e⟩⟩
        · exact ⟨_, ⟨(w : Int), by omega, j, hj, rfl⟩, .inr ⟨rfl, e⟩⟩
    · intro p hp
      simp only [List.mem_flatMap, List.mem_map, mem_irange] at hp
      obtain ⟨i, ⟨_, _⟩, j, hj, rfl⟩ := hp
      have e6 := Int.emod_nonneg (i + j) (show n ≠ 0 by omega)
      have e7 := Int.emod_lt_of_pos (i + j) (show 0 < n by omega)
      simp only
      omega
  | succ d ih =>
    intro i h hj
    refine Ev.step (fun k => spec_CirculantGraph.l0.eq_2 ..) ?_
    rw [w64 (n := n - 1) (by omega) (by omega), w64 (by omega) (by omega)]
    simp only [if_pos (show (i : Int) < (js.length : Int) by omega), if_pos (show (0 : Int) ≤ (i : Int) by omega), spec_l01In.sp, Option.bind_some, decide_eq_true_eq]
    by_cases c : 1 ≤ rd js (i : Int) ∧ rd js (i : Int) ≤ n - 1
    · simp only [if_pos c]
      exact ih (i + 1) (by omega) ((scan_step (P := fun j : Nat => 1 ≤ rd js j ∧ rd js j < n) (i := i) (by omega)).symm.trans hj)
    · simp only [if_neg c]
      have : ¬ CJumps n js := fun a => scan_fail (P := fun j : Nat => 1 ≤ rd js j ∧ rd js j < n) (i := i) (by omega) (by omega) (hj.2 a)
      unfold circR
      rw [if_neg (fun a => this a.2.2.2)]
      exact Ev.now _
theorem spec_CirculantGraph.ev (n : Int) (js : List Int) : Ev (fun q => spec_CirculantGraph.f q n js) (circR n js) := by
  unfold spec_CirculantGraph.f
  simp only [spec_l01In.sp, Option.bind_some, decide_eq_true_eq]
  by_cases h1 : 1 ≤ n ∧ n ≤ 62
  · simp only [if_pos h1]
    refine Ev.step (fun k => spec_CirculantGraph.j0.eq_2 ..) ?_
    simp only [decide_eq_true_eq]
    by_cases h2 : (js.length : Int) > 62
    · simp only [if_pos h2]
      unfold circR
      rw [if_neg (by omega)]
      exact Ev.now _
    · simp only [if_neg h2]
      exact spec_CirculantGraph.ev_0 n js h1.1 h1.2 (by omega) js.length 0 (by omega) Iff.rfl
  · simp only [if_neg h1]
    refine Ev.step (fun k => spec_CirculantGraph.j0.eq_2 ..) ?_
    simp only [if_true]
    unfold circR
    rw [if_neg (by omega)]
    exact Ev.now _

theorem impl_empty.sp (n : Int) (h0 : 0 ≤ n) (h1 : n ≤ 35184372088832) : impl_empty.f n = some (n, List.replicate n.toNat 0) := by
  unfold impl_empty.f
  rw [if_pos h0, if_pos (by omega)]

theorem impl_Graph_put.sp (n : Int) (rows : List Int) (a b : Int) (hab : a ≠ b) (ha : 0 ≤ a) (ha1 : a < rows.length) (hb : 0 ≤ b) (hb1 : b < rows.length) (hl : rows.length ≤ 62) :
    impl_Graph_put.f n rows a b = some (putE rows a b) := by
  unfold impl_Graph_put.f
  rw [if_neg hab, if_pos ha, if_pos ha1, if_pos hb, shl_one hb (by omega), shl_one ha (by omega)]
  simp only [Option.bind_some]
  rw [if_pos hb1]
  rfl
theorem impl_Graph_put.same (n : Int) (rows : List Int) (a : Int) : impl_Graph_put.f n rows a a = some rows := by
  unfold impl_Graph_put.f
  rw [if_pos rfl]

/-- impl: the edges of jump j, from vertex i on. -/
theorem impl_CirculantGraph.ev_1 (n : Int) (js : List Int) (j : Int) (hn : 1 ≤ n) (hn1 : n ≤ 62) (hj : 1 ≤ j) (hj1 : j < n) (k : Nat) (hk : (k : Int) < 62) (F : List Int → Int × List Int × Int)
    (hF : ∀ rows : List Int, (rows.length : Int) = n → Ev (fun q => impl_CirculantGraph.l0 q n js (js.length : Int) ((k + 1 : Nat) : Int) n rows) (F rows)) (d : Nat) : ∀ (i : Int) (rows : List Int), (rows.length : Int) = n → 0 ≤ i → i + d = n →
    Ev (fun q => impl_CirculantGraph.l1 q n j js (js.length : Int) (k : Int) n i n rows) (F (putAll rows ((irange i d).map fun i => (i, (i + j) % n)))) := by
  induction d with
  | zero =>
    intro i rows h1 h2 h3
    refine Ev.step (fun k => impl_CirculantGraph.l1.eq_2 ..) ?_
    rw [w64 (n := (k : Int) + 1) (by omega) (by omega)]
    simp only [if_neg (show ¬ (i < n) by omega)]
    exact hF rows h1
  | succ d ih =>
    intro i rows h1 h2 h3
    refine Ev.step (fun k => impl_CirculantGraph.l1.eq_2 ..) ?_
    rw [w64 (n := i + j) (by omega) (by omega), w64 (n := i + 1) (by omega) (by omega), tmod_pos (by omega)]
    have e6 := Int.emod_nonneg (i + j) (show n ≠ 0 by omega)
    have e7 := Int.emod_lt_of_pos (i + j) (show 0 < n by omega)
    simp only [if_pos (show i < n by omega), if_neg (show ¬ (n = 0) by omega)]
    rw [impl_Graph_put.sp _ _ _ _ (mod_ne (by omega) (by omega) hj hj1) (by omega) (by omega) (by omega) (by omega) (by omega)]
    simp only [Option.bind_some, irange, List.map_cons, putAll_cons]
    exact ih (i + 1) _ (by rw [putE_length]; omega) (by omega) (by omega)
theorem impl_CirculantGraph.ev_0 (n : Int) (js : List Int) (hn : 1 ≤ n) (hn1 : n ≤ 62) (hl : js.length ≤ 62) (d : Nat) : ∀ (k : Nat) (rows : List Int), (rows.length : Int) = n → k + d = js.length →
    Ev (fun q => impl_CirculantGraph.l0 q n js (js.length : Int) (k : Int) n rows)
      (if ∀ j : Nat, k ≤ j → j < js.length → 1 ≤ rd js j ∧ rd js j < n then (n, putAll rows ((js.drop k).flatMap fun j => (irange 0 n.toNat).map fun i => (i, (i + j) % n)), 0) else (0, [], 2)) := by
  induction d with
  | zero =>
    intro k rows h1 h2
    refine Ev.step (fun k => impl_CirculantGraph.l0.eq_2 ..) ?_
    simp only [if_neg (show ¬ ((k : Int) < (js.length : Int)) by omega)]
    rw [if_pos (scan_end (by omega)), List.drop_eq_nil_of_le (by omega)]
    exact Ev.now _
  | succ d ih =>
    intro k rows h1 h2
    refine Ev.step (fun k => impl_CirculantGraph.l0.eq_2 ..) ?_
    simp only [if_pos (show (k : Int) < (js.length : Int) by omega), if_pos (show (0 : Int) ≤ (k : Int) by omega)]
    by_cases c : 1 ≤ rd js (k : Int) ∧ rd js (k : Int) < n
    · simp only [if_neg (show ¬ rd js (k : Int) < 1 by omega)]
      refine Ev.step (fun k => impl_CirculantGraph.j2.eq_2 ..) ?_
      simp only [decide_eq_true_eq, if_neg (show ¬ rd js (k : Int) ≥ n by omega)]
      have := impl_CirculantGraph.ev_1 n js (rd js k) hn hn1 c.1 c.2 k (by omega) _ (fun rows hr => ih (k + 1) rows hr (by omega)) n.toNat 0 rows h1 (by omega) (by omega)
      refine ev_cast this ?_
      rw [drop_rd js k (by omega), List.flatMap_cons, putAll_append]
      by_cases a : ∀ j : Nat, k + 1 ≤ j → j < js.length → 1 ≤ rd js j ∧ rd js j < n
      · rw [if_pos a, if_pos ((scan_step (P := fun j : Nat => 1 ≤ rd js j ∧ rd js j < n) c).2 a)]
      · rw [if_neg a, if_neg (fun b => a ((scan_step (P := fun j : Nat => 1 ≤ rd js j ∧ rd js j < n) c).1 b))]
    · rw [if_neg (fun a => c (a k (Nat.le_refl _) (by omega)))]
      by_cases c1 : rd js (k : Int) < 1
      · simp only [if_pos c1]
        refine Ev.step (fun k => impl_CirculantGraph.j2.eq_2 ..) ?_
        simp only [if_true]
        exact Ev.now _
      · simp only [if_neg c1]
        refine Ev.step (fun k => impl_CirculantGraph.j2.eq_2 ..) ?_
        simp only [decide_eq_true_eq, if_pos (show rd js (k : Int) ≥ n by omega)]
        exact Ev.now _
theorem impl_CirculantGraph.ev (n : Int) (js : List Int) : Ev (fun q => impl_CirculantGraph.f q n js) (circR n js) := by
  unfold impl_CirculantGraph.f
  by_cases h1 : n < 1
  · simp only [if_pos h1]
    refine Ev.step (fun k => impl_CirculantGraph.j0.eq_2 ..) ?_
    simp only [if_true]; unfold circR; rw [if_neg (by omega)]; exact Ev.now _
  by_cases h2 : n > 62
  · simp only [if_neg h1, if_pos h2]
    refine Ev.step (fun k => impl_CirculantGraph.j0.eq_2 ..) ?_
    simp only [if_true]; unfold circR; rw [if_neg (by omega)]; exact Ev.now _
  simp only [if_neg h1, if_neg h2]
  refine Ev.step (fun k => impl_CirculantGraph.j0.eq_2 ..) ?_
  simp only [decide_eq_true_eq]
  by_cases h3 : (js.length : Int) > 62
  · simp only [if_pos h3]; unfold circR; rw [if_neg (by omega)]; exact Ev.now _
  · simp only [if_neg h3]
    rw [impl_empty.sp _ (by omega) (by omega)]
    simp only [Option.bind_some]
    have := impl_CirculantGraph.ev_0 n js (by omega) (by omega) (by omega) js.length 0 (List.replicate n.toNat 0) (by rw [List.length_replicate]; omega) (by omega)
    refine ev_cast this ?_
    unfold circR
    by_cases hj : CJumps n js
    · rw [if_pos (show ∀ j : Nat, 0 ≤ j → j < js.length → 1 ≤ rd js j ∧ rd js j < n from hj), if_pos ⟨by omega, by omega, by omega, hj⟩, gr_empty, gr_putAll (by omega)]
      · congr 2
        refine gr_congr fun v w hv hw => ?_
        simp only [false_or, List.mem_flatMap, List.mem_map, mem_irange, List.drop_zero]
        constructor
        · rintro ⟨p, ⟨j, hj, i, ⟨_, _⟩, rfl⟩, e⟩
          refine ⟨j, hj, ?_⟩
          simp only at e
          rcases e with ⟨e1, e2⟩ | ⟨e1, e2⟩
          · exact .inl (by rw [← e1, e2])
          · exact .inr (by rw [← e1, e2])
        · rintro ⟨j, hj, e⟩
          rcases e with e | e
          · exact ⟨_, ⟨j, hj, (v : Int), by omega, rfl⟩, .inl ⟨rfl, e⟩⟩
          · exact ⟨_, ⟨j, hj, (w : Int), by omega, rfl⟩, .inr ⟨rfl, e⟩⟩
      · intro p hp
        simp only [List.mem_flatMap, List.mem_map, mem_irange] at hp
        obtain ⟨j, hj, i, ⟨_, _⟩, rfl⟩ := hp
        have e6 := Int.emod_nonneg (i + j) (show n ≠ 0 by omega)
        have e7 := Int.emod_lt_of_pos (i + j) (show 0 < n by omega)
        simp only
        omega
    · rw [if_neg (show ¬ ∀ j : Nat, 0 ≤ j → j < js.length → 1 ≤ rd js j ∧ rd js j < n from hj), if_neg (fun a => hj a.2.2.2)]

end Go.Proofs.Ytpnofgcgdebncaa.PFnExactCirculantGraph
