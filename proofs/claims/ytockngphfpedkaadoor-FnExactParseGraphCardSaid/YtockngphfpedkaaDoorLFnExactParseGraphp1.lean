/- What the functions that FnExactParseGraph reaches compute. -/
import Derived.Test.YtockngphfpedkaaDoorLFnExactParseGraphp0
import Derived.Test.YtockngphfpedkaaDoorGr
namespace Go.Proofs.YtockngphfpedkaaDoor.XFnExactParseGraph
open Go.RowKit Go.Proofs.YtockngphfpedkaaDoorW.PrintWords Go.Proofs.YtockngphfpedkaaDoorW.PrintLast Go.Proofs.YtockngphfpedkaaDoor.B
open Classical
set_option linter.unusedVariables false
set_option linter.unusedSimpArgs false
set_option linter.unusedSectionVars false

theorem rdB {L : List (List UInt8)} {i : Nat} (h : i < L.length) : rdOf ByteArray.empty (L.map mkB) (i : Int) = mkB L[i] := by simp [rdOf, h]
theorem spl_two {c : UInt8} {s : List UInt8} (h1 : c ∈ s) (h2 : c ∉ (cut1 c s).2) : spl c s = [(cut1 c s).1, (cut1 c s).2] := by rw [spl_cut c s h1, spl_no c _ h2]
theorem spl_not_two {c : UInt8} {s : List UInt8} (h : ¬ (c ∈ s ∧ c ∉ (cut1 c s).2)) : (spl c s).length ≠ 2 := by
  by_cases h1 : c ∈ s
  · have h2 : c ∈ (cut1 c s).2 := Classical.byContradiction fun h2 => h ⟨h1, h2⟩
    rw [spl_cut c s h1, spl_cut c _ h2]
    have := List.length_pos_iff.2 (spl_ne c (cut1 c (cut1 c s).2).2)
    simp
    exact fun e => spl_ne c _ e
  · rw [spl_no c s h1]; simp
theorem pr_none {p : List UInt8} (h : ¬ (45 ∈ p ∧ 45 ∉ (cut1 45 p).2)) : pr p = none := by
  unfold pr
  by_cases h1 : (45 : UInt8) ∈ p
  · have h2 : (45 : UInt8) ∈ (cut1 45 p).2 := Classical.byContradiction fun h2 => h ⟨h1, h2⟩
    have h3 : num (cut1 45 p).2 = none := by
      cases e : num (cut1 45 p).2 with
      | none => rfl
      | some v => exact absurd (num_dg e 45 h2) (by decide)
    rw [h3]
    cases num (cut1 45 p).1 <;> rfl
  · rw [cut1_no 45 p h1]
    have h3 : num ([] : List UInt8) = none := by decide
    rw [h3]
    cases num p <;> rfl
/-- What the reference hands back: a graph, and whether there is one. -/
def pgS (n : Nat) : Option (List Int) → Int × List Int × Bool
  | some r => ((n : Int), r, true)
  | none => (0, [], false)
theorem cod_small {n a b : Nat} (h2 : n ≤ 62) (ha : a < n) (hb : b < n) : a * n ≤ 3844 := Nat.le_trans (Nat.mul_le_mul (show a ≤ 62 by omega) h2) (by decide)
theorem cod_w1 {n a b : Nat} (h2 : n ≤ 62) (ha : a < n) (hb : b < n) : wrap64 ((a : Int) * n) = ((a * n : Nat) : Int) := by
  have h := cod_small h2 ha hb
  rw [← Int.natCast_mul]
  generalize a * n = x at h ⊢
  exact w64 (by omega) (by omega)
theorem cod_w2 {n a b : Nat} (h2 : n ≤ 62) (ha : a < n) (hb : b < n) : wrap64 (((a * n : Nat) : Int) + b) = ((a * n + b : Nat) : Int) := by
  have h := cod_small h2 ha hb
  generalize a * n = x at h ⊢
  rw [w64 (by omega) (by omega)]
  omega
theorem numI_none : (match (none : Option Nat) with | some v => (v : Int) | none => -1) = -1 := rfl
set_option maxHeartbeats 2000000 in
theorem spec_l01Read.ev_l {n : Nat} (h1 : 1 ≤ n) (h2 : n ≤ 62) {L : List (List UInt8)} (hL : L.length ≤ 100000000) (hs : ∀ p ∈ L, p.length ≤ 100000000) (d : Nat) : ∀ (i : Nat) (bf : Int) (rows : List Int), i + d = L.length → rows.length = n →
    Ev (fun q => spec_l01Read.l0 q (L.map mkB) bf (i : Int) (n : Int) rows) (pgS n (spR n (L.drop i) bf rows)) := by
  induction d with
  | zero =>
    intro i bf rows h hr
    refine Ev.step (fun k => spec_l01Read.l0.eq_2 ..) ?_
    rw [List.length_map, List.drop_eq_nil_of_le (by omega)]
    simp only [if_neg (show ¬ ((i : Int) < (L.length : Int)) by omega)]
    exact ev_some rfl
  | succ d ih =>
    intro i bf rows h hr
    have hi : i < L.length := by omega
    have hp := hs _ (List.getElem_mem hi)
    refine Ev.step (fun k => spec_l01Read.l0.eq_2 ..) ?_
    rw [List.length_map, rdB hi, List.drop_eq_getElem_cons hi, spR]
    generalize L[i] = p at hp ⊢
    simp only [if_pos (show (i : Int) < (L.length : Int) by omega), if_pos (show (0 : Int) ≤ (i : Int) by omega)]
    refine Ev.bind (spec_l01Split.ev (45 : UInt8) hp) ?_
    by_cases c : (45 : UInt8) ∈ p ∧ (45 : UInt8) ∉ (cut1 45 p).2
    · rw [spl_two c.1 c.2]
      have l2 : ((([(cut1 45 p).1, (cut1 45 p).2] : List (List UInt8)).map mkB).length : Int) = 2 := by simp
      have r0 : rdOf ByteArray.empty (([(cut1 45 p).1, (cut1 45 p).2] : List (List UInt8)).map mkB) 0 = mkB (cut1 45 p).1 := rfl
      have r1 : rdOf ByteArray.empty (([(cut1 45 p).1, (cut1 45 p).2] : List (List UInt8)).map mkB) 1 = mkB (cut1 45 p).2 := rfl
      rw [l2, r0, r1]
      simp only [if_true, if_pos (show (0 : Int) < 2 by omega), if_pos (show (1 : Int) < 2 by omega)]
      refine Ev.bind (spec_l01Number.ev _) ?_
      refine Ev.bind (spec_l01Number.ev _) ?_
      unfold pr
      rw [show wrap64 ((n : Int) - 1) = (n : Int) - 1 by unfold wrap64; omega]
      cases na : num (cut1 45 p).1 with
      | none =>
        simp only
        rw [spec_l01In.sp]
        simp only [Option.bind_some, decide_eq_false (show ¬ ((0 : Int) ≤ -1 ∧ (-1 : Int) ≤ (n : Int) - 1) by omega), Bool.false_eq_true, if_false]
        exact ev_some rfl
      | some a =>
        simp only
        rw [spec_l01In.sp]
        simp only [Option.bind_some]
        by_cases ca : a < n
        · rw [show wrap64 ((a : Int) + 1) = (a : Int) + 1 by unfold wrap64; omega, decide_eq_true (show (0 : Int) ≤ (a : Int) ∧ (a : Int) ≤ (n : Int) - 1 by omega)]
          simp only [if_true]
          rw [spec_l01In.sp]
          simp only [Option.bind_some]
          cases nb : num (cut1 45 p).2 with
          | none =>
            simp only [decide_eq_false (show ¬ ((a : Int) + 1 ≤ -1 ∧ (-1 : Int) ≤ (n : Int) - 1) by omega), Bool.false_eq_true, if_false]
            exact ev_some rfl
          | some b =>
            simp only
            by_cases cb : a < b ∧ b < n
            · simp only [decide_eq_true (show (a : Int) + 1 ≤ (b : Int) ∧ (b : Int) ≤ (n : Int) - 1 by omega), if_true]
              rw [cod_w1 h2 ca cb.2, cod_w2 h2 ca cb.2]
              generalize a * n + b = cde
              by_cases cc : bf < (cde : Int)
              · rw [if_pos (show a < b ∧ b < n ∧ bf < (cde : Int) from ⟨cb.1, cb.2, cc⟩)]
                simp only [if_neg (show ¬ ((cde : Int) ≤ bf) by omega)]
                rw [spec_l01Put.sp (n : Int) rows a b (by omega) (by omega) (by omega) (by omega) (by omega), show wrap64 ((i : Int) + 1) = ((i + 1 : Nat) : Int) by unfold wrap64; omega]
                simp only [Option.bind_some]
                exact ih (i + 1) _ _ (by omega) (by rw [putE_length]; exact hr)
              · rw [if_neg (show ¬ (a < b ∧ b < n ∧ bf < (cde : Int)) from fun h => cc h.2.2)]
                simp only [if_pos (show (cde : Int) ≤ bf by omega)]
                exact ev_some rfl
            · rw [if_neg (show ¬ (a < b ∧ b < n ∧ bf < ((a * n + b : Nat) : Int)) from fun h => cb ⟨h.1, h.2.1⟩)]
              simp only [decide_eq_false (show ¬ ((a : Int) + 1 ≤ (b : Int) ∧ (b : Int) ≤ (n : Int) - 1) by omega), Bool.false_eq_true, if_false]
              exact ev_some rfl
        · rw [decide_eq_false (show ¬ ((0 : Int) ≤ (a : Int) ∧ (a : Int) ≤ (n : Int) - 1) by omega)]
          simp only [Bool.false_eq_true, if_false]
          cases nb : num (cut1 45 p).2 with
          | none => exact ev_some rfl
          | some b =>
            simp only
            rw [if_neg (by omega)]
            exact ev_some rfl
    · have hne := spl_not_two c
      rw [pr_none c, List.length_map]
      simp only [if_neg (show ¬ (((spl 45 p).length : Int) = 2) by omega)]
      exact ev_some rfl
def spV : Option (Int × List Int) → Int × List Int × Bool
  | some (n, r) => (n, r, true)
  | none => (0, [], false)
theorem spl_len (c : UInt8) : ∀ s : List UInt8, ∀ p ∈ spl c s, p.length ≤ s.length
  | [], p, h => by
    rw [spl, List.mem_singleton] at h
    subst h
    exact Nat.le_refl 0
  | b :: l, p, h => by
    rw [spl] at h
    split at h
    · rcases List.mem_cons.1 h with e | e
      · subst e; exact Nat.zero_le _
      · exact Nat.le_succ_of_le (spl_len c l p e)
    · rcases List.mem_cons.1 h with e | e
      · subst e
        rw [List.length_cons, List.length_cons]
        refine Nat.succ_le_succ (spl_len c l _ ?_)
        cases e : spl c l with
        | nil => exact absurd e (spl_ne c l)
        | cons x y => exact List.mem_cons_self
      · exact Nat.le_succ_of_le (spl_len c l p (List.mem_of_mem_tail e))
theorem spl_cnt (c : UInt8) : ∀ s : List UInt8, (spl c s).length ≤ s.length + 1
  | [] => Nat.le_refl 1
  | b :: l => by
    rw [spl]
    have := spl_cnt c l
    split
    · rw [List.length_cons, List.length_cons]; omega
    · rw [List.length_cons, List.length_tail, List.length_cons]; omega
theorem cut1_len (c : UInt8) : ∀ s : List UInt8, (cut1 c s).1.length ≤ s.length ∧ (cut1 c s).2.length ≤ s.length
  | [] => ⟨Nat.le_refl 0, Nat.le_refl 0⟩
  | b :: l => by
    obtain ⟨h1, h2⟩ := cut1_len c l
    rw [cut1]
    split
    · exact ⟨Nat.zero_le _, Nat.le_succ _⟩
    · simp only [List.length_cons]
      exact ⟨by omega, by omega⟩
theorem pgS_map (n : Nat) (x : Option (List Int)) : pgS n x = spV (x.map fun r => ((n : Int), r)) := by cases x <;> rfl
set_option maxHeartbeats 2000000 in
theorem spec_l01Read.ev {s : List UInt8} (hs : s.length ≤ 10000000) : Ev (fun q => spec_l01Read.f q (mkB s)) (spV (spP s)) := by
  unfold spec_l01Read.f
  refine Ev.bind (spec_l01Split.ev (58 : UInt8) (by omega)) ?_
  unfold spP
  by_cases c : (58 : UInt8) ∈ s ∧ (58 : UInt8) ∉ (cut1 58 s).2
  · rw [spl_two c.1 c.2, if_pos c]
    have l2 : ((([(cut1 58 s).1, (cut1 58 s).2] : List (List UInt8)).map mkB).length : Int) = 2 := by simp
    have r0 : rdOf ByteArray.empty (([(cut1 58 s).1, (cut1 58 s).2] : List (List UInt8)).map mkB) 0 = mkB (cut1 58 s).1 := rfl
    have r1 : rdOf ByteArray.empty (([(cut1 58 s).1, (cut1 58 s).2] : List (List UInt8)).map mkB) 1 = mkB (cut1 58 s).2 := rfl
    obtain ⟨_, m2⟩ := cut1_len 58 s
    rw [l2, r0]
    simp only [if_true, if_pos (show (0 : Int) < 2 by omega)]
    refine Ev.bind (spec_l01Number.ev _) ?_
    rw [spec_l01In.sp]
    simp only [Option.bind_some]
    cases na : num (cut1 58 s).1 with
    | none =>
      refine Ev.step (fun k => spec_l01Read.j0.eq_2 ..) ?_
      simp only [decide_eq_false (show ¬ ((1 : Int) ≤ -1 ∧ (-1 : Int) ≤ 62) by omega), Bool.not_false, if_true]
      exact ev_some rfl
    | some n =>
      refine Ev.step (fun k => spec_l01Read.j0.eq_2 ..) ?_
      simp only
      by_cases hn : 1 ≤ n ∧ n ≤ 62
      · rw [if_pos hn, l2, r0, r1, mkB_toList]
        simp only [decide_eq_true (show (1 : Int) ≤ (n : Int) ∧ (n : Int) ≤ 62 by omega), Bool.not_true, Bool.false_eq_true, if_false, if_pos (show (0 : Int) < 2 by omega), if_pos (show (1 : Int) < 2 by omega)]
        refine Ev.bind (spec_l01Number.ev _) ?_
        rw [na]
        simp only
        rw [spec_l01Empty.sp (n : Int) (by omega) (by omega)]
        simp only [Option.bind_some, Int.toNat_natCast]
        by_cases ce : (cut1 58 s).2 = []
        · simp only [if_pos ce]
          exact ev_some rfl
        · simp only [if_neg ce]
          refine Ev.bind (spec_l01Split.ev (44 : UInt8) (by omega)) ?_
          have hc := spl_cnt 44 (cut1 58 s).2
          have hp := spl_len 44 (cut1 58 s).2
          rw [← pgS_map]
          exact spec_l01Read.ev_l hn.1 hn.2 (by omega) (fun p h => Nat.le_trans (hp p h) (by omega)) (spl 44 (cut1 58 s).2).length 0 (-1) (List.replicate n 0) (by omega) (by simp)
      · rw [if_neg hn]
        simp only [decide_eq_false (show ¬ ((1 : Int) ≤ (n : Int) ∧ (n : Int) ≤ 62) by omega), Bool.not_false, if_true]
        exact ev_some rfl
  · have hne := spl_not_two c
    rw [if_neg c, List.length_map]
    simp only [if_neg (show ¬ (((spl 58 s).length : Int) = 2) by omega)]
    refine Ev.step (fun k => spec_l01Read.j0.eq_2 ..) ?_
    simp only [if_true]
    exact ev_some rfl

theorem spec_ParseGraph.ev {s : List UInt8} (hs : s.length ≤ 10000000) : Ev (fun q => spec_ParseGraph.f q (mkB s)) (pgV (spP s)) := by
  unfold spec_ParseGraph.f
  refine Ev.bind (spec_l01Read.ev hs) ?_
  cases spP s with
  | none =>
    simp only [spV, Bool.false_eq_true, if_false]
    exact ev_some rfl
  | some x =>
    simp only [spV, if_true]
    exact ev_some rfl

theorem impl_number.ev_l {s : List UInt8} (hl : s.length ≤ 9) (d : Nat) : ∀ (i acc : Nat), i + d = s.length → acc < 10 ^ i →
    Ev (fun q => impl_number.l0 q (mkB s) (acc : Int) (s.length : Int) (i : Int)) (match numL acc (s.drop i) with | some v => ((v : Int), true) | none => (0, false)) := by
  induction d with
  | zero =>
    intro i acc h ha
    refine Ev.step (fun k => impl_number.l0.eq_2 ..) ?_
    rw [List.drop_eq_nil_of_le (by omega)]
    simp only [if_neg (show ¬ ((i : Int) < (s.length : Int)) by omega)]
    exact ev_some rfl
  | succ d ih =>
    intro i acc h ha
    have hi : i < s.length := by omega
    refine Ev.step (fun k => impl_number.l0.eq_2 ..) ?_
    rw [mkB_size, List.drop_eq_getElem_cons hi, numL, bt_mk hi]
    simp only [if_pos (show (i : Int) < (s.length : Int) by omega), if_pos (show (0 : Int) ≤ (i : Int) by omega)]
    by_cases c : dg s[i]
    · obtain ⟨e1, e2⟩ := num_step hi hl ha c
      have h2 := c.1
      have h3 := c.2
      rw [if_pos c, e1, show wrap64 ((i : Int) + 1) = ((i + 1 : Nat) : Int) by unfold wrap64; omega]
      simp only [if_neg (show ¬ (((s[i]).toNat : Int) < 48) by omega), if_neg (show ¬ (((s[i]).toNat : Int) > 57) by omega)]
      exact ih (i + 1) _ (by omega) e2
    · rw [if_neg c]
      unfold dg at c
      by_cases c1 : ((s[i]).toNat : Int) < 48
      · simp only [if_pos c1]; exact ev_some rfl
      · simp only [if_neg c1, if_pos (show ((s[i]).toNat : Int) > 57 by omega)]; exact ev_some rfl
theorem impl_number.ev (s : List UInt8) : Ev (fun q => impl_number.f q (mkB s)) (match num s with | some v => ((v : Int), true) | none => (0, false)) := by
  unfold impl_number.f num
  rw [mkB_size, mkB_toList]
  by_cases c1 : s = []
  · subst c1
    simp only [if_true, if_pos (show (([] : List UInt8) = [] ∨ _) from .inl rfl)]
    refine Ev.step (fun k => impl_number.j0.eq_2 ..) ?_
    exact ev_some rfl
  · have hl : 0 < s.length := List.length_pos_iff.2 c1
    simp only [if_neg c1]
    by_cases c2 : 9 < s.length
    · simp only [if_pos (show (s.length : Int) > 9 by omega), if_pos (show (s = [] ∨ 9 < s.length ∨ _) from .inr (.inl c2))]
      refine Ev.step (fun k => impl_number.j0.eq_2 ..) ?_
      exact ev_some rfl
    · simp only [if_neg (show ¬ ((s.length : Int) > 9) by omega), if_pos (show (0 : Int) < (s.length : Int) by omega)]
      have hb : bt (mkB s) 0 = ((s[0]).toNat : Int) := bt_mk hl
      have hh : s.headD 0 = s[0] := by cases s with | nil => exact absurd rfl c1 | cons a l => rfl
      have go : Ev (fun q => impl_number.l0 q (mkB s) 0 ((mkB s).size : Int) 0) (match numL 0 s with | some v => ((v : Int), true) | none => (0, false)) := by
        rw [mkB_size]; exact impl_number.ev_l (by omega) s.length 0 0 (by omega) (by decide)
      rw [hb]
      by_cases c4 : s[0] = 48
      · have h5 : ((s[0]).toNat : Int) = 48 := by rw [c4]; rfl
        simp only [if_pos h5]
        by_cases c3 : 1 < s.length
        · rw [if_pos (.inr (.inr ⟨c3, by rw [hh]; exact c4⟩)), decide_eq_true (show (s.length : Int) > 1 by omega)]
          refine Ev.step (fun k => impl_number.j0.eq_2 ..) ?_
          exact ev_some rfl
        · rw [if_neg (by simp only [not_or, not_and]; exact ⟨c1, c2, fun h => absurd h c3⟩), decide_eq_false (show ¬ ((s.length : Int) > 1) by omega)]
          refine Ev.step (fun k => impl_number.j0.eq_2 ..) ?_
          exact go
      · have h5 : ((s[0]).toNat : Int) ≠ 48 := fun e => c4 (by rw [← UInt8.toNat_inj]; show (s[0]).toNat = 48; omega)
        simp only [if_neg h5]
        rw [if_neg (by rw [hh]; simp only [not_or, not_and]; exact ⟨c1, c2, fun _ => c4⟩)]
        refine Ev.step (fun k => impl_number.j0.eq_2 ..) ?_
        exact go

theorem impl_empty.sp (n : Int) (h0 : 0 ≤ n) (h1 : n ≤ 35184372088832) : impl_empty.f n = some (n, List.replicate n.toNat 0) := by
  unfold impl_empty.f
  rw [if_pos h0, if_pos (by omega)]

theorem impl_Graph_put.sp (n : Int) (rows : List Int) (a b : Int) (hab : a ≠ b) (ha : 0 ≤ a) (ha1 : a < rows.length) (hb : 0 ≤ b) (hb1 : b < rows.length) (hl : rows.length ≤ 62) :
    impl_Graph_put.f n rows a b = some (putE rows a b) := by
  unfold impl_Graph_put.f
  rw [if_neg hab, if_pos ha, if_pos ha1, if_pos hb, shl_one hb (by omega), shl_one ha (by omega)]
  simp only [Option.bind_some]
  rw [if_pos hb1]
  rfl
theorem impl_Graph_put.same (n : Int) (rows : List Int) (a : Int) : impl_Graph_put.f n rows a a = some rows := by
  unfold impl_Graph_put.f
  rw [if_pos rfl]

theorem impl_decimal.sp {n : Nat} (h : n < 100) : impl_decimal.f (n : Int) = some (mkB (dgt n)) := by
  unfold impl_decimal.f strconv_FormatInt.f
  rw [if_pos (by omega), if_pos (by omega), if_pos rfl, Int.toNat_natCast, dgt_dec h]
  rfl

theorem impl_pairsText.ev_l {E : List (List Int)} (hE : ∀ e ∈ E, EdgeOk e) (hn : E.length ≤ 100000) (d : Nat) : ∀ (i : Nat), i + d = E.length →
    Ev (fun k => impl_pairsText.l0 k (mkB [45]) ((E.take i).map fun e => mkB (ptx e)) E (E.length : Int) (i : Int)) (mkB (Lib.join (E.map ptx) [44])) := by
  induction d with
  | zero =>
    intro i h
    refine Ev.step (fun k => impl_pairsText.l0.eq_2 ..) ?_
    simp only [if_neg (show ¬ ((i : Int) < (E.length : Int)) by omega)]
    rw [List.take_of_length_le (by omega)]
    have hj := join_len E
    have hm : (E.map fun e => mkB (ptx e)).map (fun b : ByteArray => b.data.toList) = E.map ptx := by
      rw [List.map_map]; exact List.map_congr_left fun e _ => mkB_data _
    refine Ev.bind (ev_eq (r := mkB (Lib.join (E.map ptx) [44])) fun _ => ?_) (Ev.now _)
    unfold strings_Join.f
    rw [if_pos (by rw [List.length_map]; exact hn)]
    rw [hm, show ((⟨#[44]⟩ : ByteArray).data.toList) = [44] from rfl, if_pos (by omega)]
    rfl
  | succ d ih =>
    intro i h
    have hi : i < E.length := by omega
    obtain ⟨a, b, e1, ha, hb⟩ := hE _ (List.getElem_mem hi)
    have h2 := dgt_len a
    have h3 := dgt_len b
    refine Ev.step (fun k => impl_pairsText.l0.eq_2 ..) ?_
    simp only [if_pos (show (i : Int) < (E.length : Int) by omega), if_pos (show (0 : Int) ≤ (i : Int) by omega), gt_rd hi, e1, if_pos (show (0 : Int) < (([(a : Int), (b : Int)] : List Int).length : Int) by simp), if_pos (show (1 : Int) < (([(a : Int), (b : Int)] : List Int).length : Int) by simp)]
    rw [show rd ([(a : Int), (b : Int)] : List Int) 0 = (a : Int) from rfl, show rd ([(a : Int), (b : Int)] : List Int) 1 = (b : Int) from rfl]
    refine Ev.bind (ev_eq fun _ => impl_decimal.sp ha) ?_
    simp only [mkB_app, mkB_size, List.length_append, List.length_cons, List.length_nil, if_pos (show (dgt a).length + (0 + 1) ≤ 9223372036854775807 by omega)]
    refine Ev.bind (ev_eq fun _ => impl_decimal.sp hb) ?_
    simp only [mkB_app, mkB_size, List.length_append, List.length_cons, List.length_nil, List.length_map, List.length_take, if_pos (show (dgt a).length + (0 + 1) + (dgt b).length ≤ 9223372036854775807 by omega), if_pos (show min i E.length < 8796093022208 by omega)]
    rw [show wrap64 ((i : Int) + 1) = ((i + 1 : Nat) : Int) by unfold wrap64; omega]
    have ht : ((E.take (i + 1)).map fun e => mkB (ptx e)) = ((E.take i).map fun e => mkB (ptx e)) ++ [mkB (dgt a ++ [45] ++ dgt b)] := by
      rw [List.take_succ_eq_append_getElem hi, List.map_append, e1]
      simp [ptx, rd]
    rw [← ht]
    exact ih (i + 1) (by omega)
theorem impl_pairsText.ev {E : List (List Int)} (hE : ∀ e ∈ E, EdgeOk e) (hn : E.length ≤ 100000) : Ev (fun q => impl_pairsText.f q E (mkB [45])) (mkB (Lib.join (E.map ptx) [44])) := by
  unfold impl_pairsText.f
  exact impl_pairsText.ev_l hE hn E.length 0 (by omega)

theorem impl_graphText.ev {n : Int} {rows : List Int} (g : IsG n rows) : Ev (fun q => impl_graphText.f q n rows) (mkB (gtx n rows)) := by
  have hle := g.le
  have h1 := g.1
  obtain ⟨m, rfl⟩ := Int.eq_ofNat_of_zero_le (show 0 ≤ n by omega)
  have hm : m < 100 := by simp at hle; omega
  have hd := dgt_len m
  have hj := join_len (edgesFrom rows (m : Int).toNat (m : Int).toNat 0)
  have hf := edges_few g
  unfold impl_graphText.f
  refine Ev.bind (ev_eq fun _ => impl_decimal.sp hm) ?_
  simp only [mkB_size, if_pos (show (dgt m).length + 1 ≤ 9223372036854775807 by omega)]
  refine Ev.bind (impl_Graph_edges.ev g) ?_
  refine Ev.bind (impl_pairsText.ev (edges_ok g) (by omega)) ?_
  rw [show (⟨#[58]⟩ : ByteArray) = mkB [58] from rfl]
  simp only [mkB_app, mkB_size, List.length_append, List.length_cons, List.length_nil]
  rw [if_pos (by omega)]
  refine ev_some ?_
  unfold gtx
  rw [Int.toNat_natCast, List.append_assoc]


end Go.Proofs.YtockngphfpedkaaDoor.XFnExactParseGraph
