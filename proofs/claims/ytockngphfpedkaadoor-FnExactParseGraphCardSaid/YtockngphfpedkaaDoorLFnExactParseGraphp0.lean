/- What the functions that FnExactParseGraph reaches compute. -/
import Derived.Test.YtockngphfpedkaaDoorXFnExactParseGraphx0
import Derived.Test.YtockngphfpedkaaDoorXFnExactParseGraphx1
import Derived.Test.YtockngphfpedkaaDoorXFnExactParseGraphx2
import Derived.Test.YtockngphfpedkaaDoorXFnExactParseGraphx3
import Derived.Test.YtockngphfpedkaaDoorXFnExactParseGraphx4
import Derived.Test.YtockngphfpedkaaDoorXFnExactParseGraphx5
import Derived.Test.YtockngphfpedkaaDoorXFnExactParseGraphx6
import Derived.Test.YtockngphfpedkaaDoorXFnExactParseGraphx7
import Derived.Test.YtockngphfpedkaaDoorGr
namespace Go.Proofs.YtockngphfpedkaaDoor.XFnExactParseGraph
open Go.RowKit Go.Proofs.YtockngphfpedkaaDoorW.PrintWords Go.Proofs.YtockngphfpedkaaDoorW.PrintLast Go.Proofs.YtockngphfpedkaaDoor.B
open Classical
set_option linter.unusedVariables false
set_option linter.unusedSimpArgs false
set_option linter.unusedSectionVars false

theorem spec_l01In.sp (a b c : Int) : spec_l01In.f a b c = some (decide (b ≤ a ∧ a ≤ c)) := by
  unfold spec_l01In.f
  by_cases h : b ≤ a <;> simp [h]

theorem spec_l01Empty.sp (n : Int) (h0 : 0 ≤ n) (h1 : n ≤ 35184372088832) : spec_l01Empty.f n = some (n, List.replicate n.toNat 0) := by
  unfold spec_l01Empty.f
  rw [if_pos h0, if_pos (by omega)]

/-! ### texts as lists of bytes -/
def mkB (l : List UInt8) : ByteArray := ⟨l.toArray⟩
theorem mkB_app (l m : List UInt8) : mkB l ++ mkB m = mkB (l ++ m) := by
  apply ByteArray.ext
  show (mkB l ++ mkB m).data = (l ++ m).toArray
  rw [ByteArray.data_append]
  simp [mkB]
theorem mkB_size (l : List UInt8) : (mkB l).size = l.length := by simp [mkB, ByteArray.size]
theorem mkB_data (l : List UInt8) : (mkB l).data.toList = l := by simp [mkB]
theorem mkB_data' : (fun b : ByteArray => b.data.toList) ∘ mkB = id := by funext l; exact mkB_data l
theorem bl_loop_ (b : ByteArray) (d : Nat) : ∀ (i : Nat) (r : List UInt8), i + d = b.size → ByteArray.toList.loop b i r = r.reverse ++ b.data.toList.drop i := by
  induction d with
  | zero =>
    intro i r h
    rw [ByteArray.toList.loop, if_neg (by omega), List.drop_eq_nil_of_le (by rw [Array.length_toList]; show b.size ≤ i; omega), List.append_nil]
  | succ d ih =>
    intro i r h
    have hi : i < b.data.toList.length := by rw [Array.length_toList]; show i < b.size; omega
    rw [ByteArray.toList.loop, if_pos (by omega), ih (i + 1) _ (by omega), List.reverse_cons, List.append_assoc, List.singleton_append, List.drop_eq_getElem_cons hi]
    congr 2
    have : i < b.data.size := by simpa using hi
    cases b with
    | mk data => simp [ByteArray.get!, this]
theorem bl_ (b : ByteArray) : b.toList = b.data.toList := by
  unfold ByteArray.toList
  rw [bl_loop_ b b.size 0 [] (by omega)]; simp
theorem mkB_toList (l : List UInt8) : (mkB l).toList = l := by rw [bl_, mkB_data]
/-- A number below 100 in decimal. -/
def dgt (n : Nat) : List UInt8 := if n < 10 then [UInt8.ofNat (48 + n)] else [UInt8.ofNat (48 + n / 10), UInt8.ofNat (48 + n % 10)]
theorem dgt_dec {n : Nat} (h : n < 100) : Lib.decDigits n = dgt n := by
  unfold dgt
  rw [Lib.decDigits]
  by_cases c : n < 10
  · rw [dif_pos c, if_pos c]
  · rw [dif_neg c, if_neg c, Lib.decDigits, dif_pos (by omega)]
    rfl
theorem dgt_len (n : Nat) : (dgt n).length ≤ 2 := by unfold dgt; split <;> simp
/-- A pair's text. -/
def ptx (e : List Int) : List UInt8 := dgt (rd e 0).toNat ++ ([45] ++ dgt (rd e 1).toNat)
theorem ptx_len (e : List Int) : (ptx e).length ≤ 5 := by
  unfold ptx
  have h1 := dgt_len (rd e 0).toNat
  have h2 := dgt_len (rd e 1).toNat
  simp
  omega
theorem tail_cons (e : List Int) (r : List (List Int)) : Lib.joinTail [44] ((e :: r).map ptx) = [44] ++ ptx e ++ Lib.joinTail [44] (r.map ptx) := by simp [Lib.joinTail]
theorem tail_len (r : List (List Int)) : (Lib.joinTail [44] (r.map ptx)).length ≤ 6 * r.length := by
  induction r with
  | nil => simp [Lib.joinTail]
  | cons e r ih =>
    have h := ptx_len e
    rw [tail_cons, List.length_append, List.length_append, List.length_cons, List.length_cons, List.length_nil]
    omega
theorem join_len (r : List (List Int)) : (Lib.join (r.map ptx) [44]).length ≤ 6 * r.length := by
  cases r with
  | nil => simp [Lib.join_nil]
  | cons e r =>
    rw [List.map_cons, Lib.join_cons, List.length_append, List.length_cons]
    have := ptx_len e
    have := tail_len r
    omega
/-- An edge's form. -/
def EdgeOk (e : List Int) : Prop := ∃ a b : Nat, e = [(a : Int), (b : Int)] ∧ a < 100 ∧ b < 100
theorem gt_rd {E : List (List Int)} {i : Nat} (h : i < E.length) : rd_L2 E (i : Int) = E[i] := by simp [rd_L2, h]

/-! ### texts of graphs, read -/
/-- What is before the first byte c, and what is behind it. -/
def cut1 (c : UInt8) : List UInt8 → List UInt8 × List UInt8
  | [] => ([], [])
  | b :: l => if b = c then ([], l) else (b :: (cut1 c l).1, (cut1 c l).2)
/-- The parts between the bytes c. -/
def spl (c : UInt8) : List UInt8 → List (List UInt8)
  | [] => [[]]
  | b :: l => if b = c then [] :: spl c l else (b :: (spl c l).headD []) :: (spl c l).tail
theorem spl_ne (c : UInt8) (s : List UInt8) : spl c s ≠ [] := by
  cases s with
  | nil => simp [spl]
  | cons b l => unfold spl; split <;> simp
theorem spl_no (c : UInt8) : ∀ s : List UInt8, c ∉ s → spl c s = [s]
  | [], _ => rfl
  | b :: l, h => by
    have h1 : b ≠ c := fun e => h (by rw [e]; exact List.mem_cons_self)
    rw [spl, if_neg h1, spl_no c l (fun m => h (List.mem_cons_of_mem _ m))]
    rfl
theorem spl_app (c : UInt8) (q : List UInt8) : ∀ p : List UInt8, c ∉ p → spl c (p ++ c :: q) = p :: spl c q
  | [], _ => by simp [spl]
  | b :: l, h => by
    have h1 : b ≠ c := fun e => h (by rw [e]; exact List.mem_cons_self)
    rw [List.cons_append, spl, if_neg h1, spl_app c q l (fun m => h (List.mem_cons_of_mem _ m))]
    rfl
theorem cut1_no (c : UInt8) : ∀ s : List UInt8, c ∉ s → cut1 c s = (s, [])
  | [], _ => rfl
  | b :: l, h => by
    have h1 : b ≠ c := fun e => h (by rw [e]; exact List.mem_cons_self)
    rw [cut1, if_neg h1, cut1_no c l (fun m => h (List.mem_cons_of_mem _ m))]
theorem cut1_app (c : UInt8) (q : List UInt8) : ∀ p : List UInt8, c ∉ p → cut1 c (p ++ c :: q) = (p, q)
  | [], _ => by simp [cut1]
  | b :: l, h => by
    have h1 : b ≠ c := fun e => h (by rw [e]; exact List.mem_cons_self)
    rw [List.cons_append, cut1, if_neg h1, cut1_app c q l (fun m => h (List.mem_cons_of_mem _ m))]
theorem cut1_eq (c : UInt8) : ∀ s : List UInt8, c ∈ s → s = (cut1 c s).1 ++ c :: (cut1 c s).2 ∧ c ∉ (cut1 c s).1
  | [], h => by cases h
  | b :: l, h => by
    by_cases e : b = c
    · subst e; simp [cut1]
    · have h2 : c ∈ l := by
        rcases List.mem_cons.1 h with h | h
        · exact absurd h.symm e
        · exact h
      obtain ⟨h3, h4⟩ := cut1_eq c l h2
      rw [cut1, if_neg e]
      refine ⟨by rw [List.cons_append, ← h3], fun m => ?_⟩
      rcases List.mem_cons.1 m with m | m
      · exact e m.symm
      · exact h4 m
theorem spl_cut (c : UInt8) (s : List UInt8) (h : c ∈ s) : spl c s = (cut1 c s).1 :: spl c (cut1 c s).2 := by
  obtain ⟨h1, h2⟩ := cut1_eq c s h
  conv => lhs; rw [h1]
  exact spl_app c _ _ h2
theorem cut_cut1 (c : UInt8) : ∀ s : List UInt8, (Lib.cut s [c]).1 = (cut1 c s).1 ∧ (Lib.cut s [c]).2.1 = (cut1 c s).2
  | [] => by simp [Lib.cut, Lib.index, cut1]
  | b :: l => by
    obtain ⟨i1, i2⟩ := cut_cut1 c l
    have hge := Lib.index_ge l [c]
    unfold Lib.cut at i1 i2 ⊢
    rw [Lib.index, cut1]
    by_cases e : b = c
    · subst e; simp [List.isPrefixOf]
    · have hp : ([c] : List UInt8).isPrefixOf (b :: l) = false := by simp [List.isPrefixOf, Ne.symm e]
      rw [hp, if_neg e]
      simp only [Bool.false_eq_true, if_false]
      by_cases m : Lib.index l [c] = -1
      · rw [m] at i1 i2 ⊢
        simp at i1 i2 ⊢
        exact ⟨i1, i2⟩
      · obtain ⟨i, hi⟩ : ∃ i : Nat, Lib.index l [c] = i := ⟨(Lib.index l [c]).toNat, by omega⟩
        rw [hi] at i1 i2 ⊢
        have hb : ((i : Int) == -1) = false := beq_eq_false_iff_ne.mpr (by omega)
        simp only [hb, Bool.false_eq_true, if_false]
        rw [if_pos (show (0 : Int) ≤ (i : Int) + 1 by omega)]
        rw [if_pos (by omega)] at i1 i2
        rw [show ((i : Int) + 1).toNat = i + 1 by omega]
        rw [Int.toNat_natCast] at i1 i2
        simp only at i1 i2 ⊢
        exact ⟨by rw [List.take_succ_cons, i1], by rw [← i2]; rfl⟩
/-- A digit. -/
def dg (b : UInt8) : Prop := 48 ≤ b.toNat ∧ b.toNat ≤ 57
instance (b : UInt8) : Decidable (dg b) := by unfold dg; infer_instance
def numL : Nat → List UInt8 → Option Nat
  | acc, [] => some acc
  | acc, b :: l => if dg b then numL (acc * 10 + (b.toNat - 48)) l else none
/-- The number that a text tells. -/
def num (s : List UInt8) : Option Nat := if s = [] ∨ 9 < s.length ∨ (1 < s.length ∧ s.headD 0 = 48) then none else numL 0 s
theorem numL_ge : ∀ (l : List UInt8) (acc v : Nat), numL acc l = some v → acc ≤ v
  | [], acc, v, h => by simp [numL] at h; omega
  | b :: l, acc, v, h => by
    rw [numL] at h
    split at h
    · have := numL_ge l _ v h; omega
    · cases h
theorem numL_dg : ∀ (l : List UInt8) (acc v : Nat), numL acc l = some v → ∀ b ∈ l, dg b
  | [], _, _, _, b, hb => by cases hb
  | c :: l, acc, v, h, b, hb => by
    rw [numL] at h
    split at h
    · rename_i hc
      rcases List.mem_cons.1 hb with e | e
      · rw [e]; exact hc
      · exact numL_dg l _ v h b e
    · cases h
theorem num_dg {s : List UInt8} {v : Nat} (h : num s = some v) : ∀ b ∈ s, dg b := by
  unfold num at h
  split at h
  · cases h
  · exact numL_dg s 0 v h
theorem num_dgt : ∀ n, n < 100 → num (dgt n) = some n := by decide +kernel
theorem u8_back (a : UInt8) (h : dg a) : UInt8.ofNat (48 + (a.toNat - 48)) = a := by
  rw [show 48 + (a.toNat - 48) = a.toNat by have := h.1; omega]
  simp
theorem dgt_num {s : List UInt8} {v : Nat} (h : num s = some v) (hv : v < 100) : dgt v = s := by
  have hd := num_dg h
  unfold num at h
  split at h
  · cases h
  rename_i h0
  simp only [not_or, not_and] at h0
  obtain ⟨h1, h2, h3⟩ := h0
  match s, h1 with
  | [a], _ =>
    have da := hd a (by simp)
    simp only [numL, if_pos da, Option.some.injEq] at h
    have := da.2
    unfold dgt
    rw [← h, if_pos (by omega), Nat.zero_mul, Nat.zero_add, u8_back a da]
  | [a, b], _ =>
    have da := hd a (by simp)
    have db := hd b (by simp)
    simp only [numL, if_pos da, if_pos db, Option.some.injEq] at h
    have h4 : a ≠ 48 := h3 (by simp)
    have h5 : a.toNat ≠ 48 := fun e => h4 (by rw [← UInt8.toNat_inj, e]; rfl)
    have := da.1
    have := db.1
    have := db.2
    unfold dgt
    rw [if_neg (by omega), show v / 10 = a.toNat - 48 by omega, show v % 10 = b.toNat - 48 by omega, u8_back a da, u8_back b db]
  | a :: b :: c :: l, _ =>
    have da := hd a (by simp)
    have db := hd b (by simp)
    have dc := hd c (by simp)
    simp only [numL, if_pos da, if_pos db, if_pos dc] at h
    have h4 : a ≠ 48 := h3 (by simp)
    have h5 : a.toNat ≠ 48 := fun e => h4 (by rw [← UInt8.toNat_inj, e]; rfl)
    have := da.1
    have := numL_ge _ _ _ h
    omega
theorem splitK_spl (c : UInt8) : ∀ (l : List UInt8), Lib.splitK [c] 0 (Lib.count l [c]) l = spl c l := by
  intro l
  induction hn : l.length using Nat.strongRecOn generalizing l with
  | ind n ih =>
    by_cases h : c ∈ l
    · obtain ⟨e, hno⟩ := cut1_eq c l h
      generalize (cut1 c l).1 = p at e hno
      generalize (cut1 c l).2 = q at e
      subst e
      have hx : Lib.index (p ++ c :: q) [c] = (p.length : Int) := by
        clear h ih hn
        induction p with
        | nil => rw [List.nil_append, Lib.index]; simp [List.isPrefixOf]
        | cons b p ihp =>
          have hb : b ≠ c := fun e => hno (by rw [e]; exact List.mem_cons_self)
          have hp : ([c] : List UInt8).isPrefixOf (b :: (p ++ c :: q)) = false := by simp [List.isPrefixOf, Ne.symm hb]
          rw [List.cons_append, Lib.index, hp, ihp (fun m => hno (List.mem_cons_of_mem _ m))]
          have hne : ((p.length : Int) == -1) = false := beq_eq_false_iff_ne.mpr (by omega)
          simp only [hne, Bool.false_eq_true, if_false, List.length_cons]
          omega
      rw [spl_app c q p hno, Lib.count_hit (by simp) hx, Nat.add_comm, Lib.splitK]
      have hne : ((p.length : Int) == -1) = false := beq_eq_false_iff_ne.mpr (by omega)
      rw [hx]
      simp only [hne, Bool.false_eq_true, if_false, Int.toNat_natCast, Nat.add_zero, List.length_cons, List.length_nil, Nat.zero_add]
      have hd : (p ++ c :: q).drop (p.length + 1) = q := by rw [List.drop_append]; simp
      rw [hd, List.take_left, ih q.length (by rw [← hn]; simp; omega) q rfl]
    · have hx : Lib.index l [c] = -1 := by
        clear ih hn
        induction l with
        | nil => simp [Lib.index]
        | cons b p ihp =>
          have hb : b ≠ c := fun e => h (by rw [e]; exact List.mem_cons_self)
          have hp : ([c] : List UInt8).isPrefixOf (b :: p) = false := by simp [List.isPrefixOf, Ne.symm hb]
          rw [Lib.index, hp, ihp (fun m => h (List.mem_cons_of_mem _ m))]
          rfl
      rw [Lib.count_miss hx, Lib.splitK, spl_no c l h]
theorem splitB_spl (c : UInt8) (l : List UInt8) : Lib.splitB (⟨#[c]⟩ : ByteArray) 0 (Lib.countB (mkB l) ⟨#[c]⟩) (mkB l) = (spl c l).map mkB := by
  have h := Lib.splitB_data (⟨#[c]⟩ : ByteArray) 0 (Lib.countB (mkB l) ⟨#[c]⟩) (mkB l)
  have h2 : Lib.countB (mkB l) (⟨#[c]⟩ : ByteArray) = Lib.count l [c] := by unfold Lib.countB; rw [mkB_data]
  rw [mkB_data, h2] at h
  rw [h2]
  have h3 : (⟨#[c]⟩ : ByteArray).data.toList = [c] := rfl
  rw [h3, splitK_spl] at h
  rw [← h, List.map_map]
  conv => lhs; rw [← List.map_id (Lib.splitB _ _ _ _)]
  refine List.map_congr_left fun x _ => ?_
  simp [mkB]

theorem bt_mk {s : List UInt8} {i : Nat} (h : i < s.length) : bt (mkB s) (i : Int) = ((s[i]).toNat : Int) := by
  unfold bt
  rw [dif_pos (by rw [mkB_size]; simpa using h)]
  simp [mkB, ByteArray.getElem_eq_getElem_data]
theorem pow10_9 {i : Nat} (h : i ≤ 9) : 10 ^ i ≤ 1000000000 := Nat.le_trans (Nat.pow_le_pow_right (by decide) h) (by decide)
theorem num_step {s : List UInt8} {i acc : Nat} (hi : i < s.length) (hl : s.length ≤ 9) (ha : acc < 10 ^ i) (hd : dg s[i]) :
    wrap64 (wrap64 ((acc : Int) * 10) + (((s[i]).toNat : Int) - 48) % 256) = ((acc * 10 + ((s[i]).toNat - 48) : Nat) : Int) ∧ acc * 10 + ((s[i]).toNat - 48) < 10 ^ (i + 1) := by
  have h1 := pow10_9 (i := i) (by omega)
  have h2 := hd.1
  have h3 := hd.2
  refine ⟨?_, ?_⟩
  · unfold wrap64; omega
  · rw [Nat.pow_succ]; omega
theorem spec_l01Number.ev_l {s : List UInt8} (hl : s.length ≤ 9) (d : Nat) : ∀ (i acc : Nat), i + d = s.length → acc < 10 ^ i →
    Ev (fun q => spec_l01Number.l0 q (mkB s) (acc : Int) (i : Int)) (match numL acc (s.drop i) with | some v => (v : Int) | none => -1) := by
  induction d with
  | zero =>
    intro i acc h ha
    refine Ev.step (fun k => spec_l01Number.l0.eq_2 ..) ?_
    rw [mkB_size, List.drop_eq_nil_of_le (by omega)]
    simp only [if_neg (show ¬ ((i : Int) < (s.length : Int)) by omega)]
    exact ev_some rfl
  | succ d ih =>
    intro i acc h ha
    have hi : i < s.length := by omega
    refine Ev.step (fun k => spec_l01Number.l0.eq_2 ..) ?_
    rw [mkB_size, List.drop_eq_getElem_cons hi, numL, bt_mk hi]
    simp only [if_pos (show (i : Int) < (s.length : Int) by omega), if_pos (show (0 : Int) ≤ (i : Int) by omega)]
    by_cases c : dg s[i]
    · obtain ⟨e1, e2⟩ := num_step hi hl ha c
      have h2 := c.1
      have h3 := c.2
      rw [if_pos c, e1, show wrap64 ((i : Int) + 1) = ((i + 1 : Nat) : Int) by unfold wrap64; omega]
      simp only [if_neg (show ¬ (((s[i]).toNat : Int) < 48) by omega), if_neg (show ¬ (((s[i]).toNat : Int) > 57) by omega)]
      exact ih (i + 1) _ (by omega) e2
    · rw [if_neg c]
      unfold dg at c
      by_cases c1 : ((s[i]).toNat : Int) < 48
      · simp only [if_pos c1]; exact ev_some rfl
      · simp only [if_neg c1, if_pos (show ((s[i]).toNat : Int) > 57 by omega)]; exact ev_some rfl
theorem spec_l01Number.ev (s : List UInt8) : Ev (fun q => spec_l01Number.f q (mkB s)) (match num s with | some v => (v : Int) | none => -1) := by
  unfold spec_l01Number.f num
  rw [mkB_size]
  by_cases c1 : s = []
  · subst c1
    simp only [List.length_nil, if_pos (show ((0 : Nat) : Int) = 0 from rfl), if_pos (show (([] : List UInt8) = [] ∨ _) from .inl rfl)]
    refine Ev.step (fun k => spec_l01Number.j0.eq_2 ..) ?_
    exact ev_some rfl
  · have hl : 0 < s.length := List.length_pos_iff.2 c1
    simp only [if_neg (show ¬ ((s.length : Int) = 0) by omega)]
    by_cases c2 : 9 < s.length
    · simp only [if_pos (show (s.length : Int) > 9 by omega), if_pos (show (s = [] ∨ 9 < s.length ∨ _) from .inr (.inl c2))]
      refine Ev.step (fun k => spec_l01Number.j0.eq_2 ..) ?_
      exact ev_some rfl
    · simp only [if_neg (show ¬ ((s.length : Int) > 9) by omega)]
      have hb : bt (mkB s) 0 = ((s[0]).toNat : Int) := bt_mk hl
      have hh : s.headD 0 = s[0] := by cases s with | nil => exact absurd rfl c1 | cons a l => rfl
      have go : Ev (fun q => spec_l01Number.l0 q (mkB s) 0 0) (match numL 0 s with | some v => (v : Int) | none => -1) := spec_l01Number.ev_l (by omega) s.length 0 0 (by omega) (by decide)
      by_cases c3 : 1 < s.length
      · simp only [if_pos (show (s.length : Int) > 1 by omega), if_pos (show (0 : Int) < (s.length : Int) by omega), hb]
        by_cases c4 : s[0] = 48
        · rw [if_pos (.inr (.inr ⟨c3, by rw [hh]; exact c4⟩)), c4]
          refine Ev.step (fun k => spec_l01Number.j0.eq_2 ..) ?_
          exact ev_some rfl
        · have h5 : ((s[0]).toNat : Int) ≠ 48 := fun e => c4 (by rw [← UInt8.toNat_inj]; show (s[0]).toNat = 48; omega)
          rw [if_neg (by rw [hh]; simp only [not_or, not_and]; exact ⟨c1, c2, fun _ => c4⟩), beq_eq_false_iff_ne.mpr h5]
          refine Ev.step (fun k => spec_l01Number.j0.eq_2 ..) ?_
          exact go
      · simp only [if_neg (show ¬ ((s.length : Int) > 1) by omega)]
        rw [if_neg (by simp only [not_or, not_and]; exact ⟨c1, c2, fun h => absurd h c3⟩)]
        refine Ev.step (fun k => spec_l01Number.j0.eq_2 ..) ?_
        exact go

theorem mkB_extract (s : List UInt8) (a b : Nat) : (mkB s).extract a b = mkB ((s.take b).drop a) := by
  apply ByteArray.ext
  rw [ByteArray.data_extract]
  simp [mkB, List.extract_eq_take_drop, List.drop_take]
/-- From place 'at' on, place i being looked at: the parts that are still to come. -/
theorem spec_l01Split.ev_l {s : List UInt8} {c : UInt8} (hs : s.length ≤ 100000000) (d : Nat) : ∀ (i a : Nat) (acc : List ByteArray), i + d = s.length → a ≤ i → acc.length ≤ i → c ∉ (s.take i).drop a →
    Ev (fun q => spec_l01Split.l0 q (mkB s) (c.toNat : Int) acc (a : Int) (i : Int)) (acc ++ (spl c (s.drop a)).map mkB) := by
  induction d with
  | zero =>
    intro i a acc h ha hc hn
    refine Ev.step (fun k => spec_l01Split.l0.eq_2 ..) ?_
    rw [mkB_size]
    simp only [if_neg (show ¬ ((i : Int) < (s.length : Int)) by omega), if_pos (show (0 : Int) ≤ (a : Int) by omega), if_pos (show (a : Int) ≤ (s.length : Int) by omega), if_pos (show acc.length < 8796093022208 by omega)]
    refine ev_some ?_
    rw [List.take_of_length_le (by omega)] at hn
    rw [Int.toNat_natCast, mkB_extract, List.take_of_length_le (by omega), spl_no c _ hn]
    rfl
  | succ d ih =>
    intro i a acc h ha hc hn
    have hi : i < s.length := by omega
    refine Ev.step (fun k => spec_l01Split.l0.eq_2 ..) ?_
    rw [mkB_size, bt_mk hi, show wrap64 ((i : Int) + 1) = ((i + 1 : Nat) : Int) by unfold wrap64; omega]
    simp only [if_pos (show (i : Int) < (s.length : Int) by omega), if_pos (show (0 : Int) ≤ (i : Int) by omega)]
    have ht : s.take (i + 1) = s.take i ++ [s[i]] := by rw [List.take_add_one]; simp [hi]
    by_cases c1 : s[i] = c
    · have h5 : ((s[i]).toNat : Int) = (c.toNat : Int) := by rw [c1]
      simp only [if_pos h5, if_pos (show (0 : Int) ≤ (a : Int) by omega), if_pos (show (a : Int) ≤ (i : Int) by omega), if_pos (show (i : Int) ≤ (s.length : Int) by omega), if_pos (show acc.length < 8796093022208 by omega)]
      refine ev_cast (ih (i + 1) (i + 1) _ (by omega) (Nat.le_refl _) (by simp; omega) (by rw [List.drop_eq_nil_of_le (by rw [List.length_take]; omega)]; exact List.not_mem_nil)) ?_
      have e : s.drop a = (s.take i).drop a ++ c :: s.drop (i + 1) := by
        have e1 : s = s.take i ++ c :: s.drop (i + 1) := by rw [← c1, ← List.drop_eq_getElem_cons hi, List.take_append_drop]
        conv => lhs; rw [e1]
        rw [List.drop_append_of_le_length (by rw [List.length_take]; omega)]
      rw [e, spl_app c _ _ hn, Int.toNat_natCast, Int.toNat_natCast, mkB_extract]
      simp
    · have h5 : ¬ ((s[i]).toNat : Int) = (c.toNat : Int) := fun e => c1 (UInt8.toNat_inj.1 (by omega))
      simp only [if_neg h5]
      refine ih (i + 1) a acc (by omega) (by omega) (by omega) ?_
      rw [ht, List.drop_append_of_le_length (by rw [List.length_take]; omega), List.mem_append, not_or]
      exact ⟨hn, fun m => c1 (List.mem_singleton.1 m).symm⟩
theorem spec_l01Split.ev {s : List UInt8} (c : UInt8) (hs : s.length ≤ 100000000) : Ev (fun q => spec_l01Split.f q (mkB s) (c.toNat : Int)) ((spl c s).map mkB) := by
  unfold spec_l01Split.f
  refine ev_cast (spec_l01Split.ev_l hs s.length 0 0 [] (by omega) (Nat.le_refl _) (Nat.le_refl _) (by simp)) ?_
  simp

theorem spec_l01Put.sp (n : Int) (rows : List Int) (a b : Int) (ha : 0 ≤ a) (ha1 : a < rows.length) (hb : 0 ≤ b) (hb1 : b < rows.length) (hl : rows.length ≤ 62) :
    spec_l01Put.f n rows a b = some (putE rows a b) := by
  unfold spec_l01Put.f
  rw [u64 hb (by omega), u64 ha (by omega), if_pos ha, if_pos ha1, if_pos hb, shl_one hb (by omega), shl_one ha (by omega)]
  simp only [Option.bind_some]
  rw [if_pos hb, if_pos hb1, if_pos ha]
  rfl

/-! ### ways in a graph -/
inductive Way (rows : List Int) (n : Nat) (u : Nat) : Nat → Prop
  | refl : Way rows n u u
  | step {v w : Nat} : Way rows n u v → v < n → w < n → Adj rows v w → Way rows n u w
theorem Way.lt {rows : List Int} {n u w : Nat} (h : Way rows n u w) (hu : u < n) : w < n := by
  cases h with
  | refl => exact hu
  | step _ _ b _ => exact b
theorem Way.trans {rows : List Int} {n u v w : Nat} (h : Way rows n u v) (k : Way rows n v w) : Way rows n u w := by
  induction k with
  | refl => exact h
  | step _ a b c ih => exact .step ih a b c
theorem Way.symm {rows : List Int} {n : Int} (g : IsG n rows) {u v : Nat} (h : Way rows n.toNat u v) : Way rows n.toNat v u := by
  induction h with
  | refl => exact .refl
  | step _ a b c ih => exact (Way.step .refl b a ((g.symm a b).1 c)).trans ih
theorem IsG_row {n : Int} {rows : List Int} (h : IsG n rows) {v : Int} (h0 : 0 ≤ v) (h1 : v < n) : ∃ x : Nat, rd rows v = (x : Int) ∧ x < 2 ^ n.toNat := by
  obtain ⟨u, rfl⟩ := Int.eq_ofNat_of_zero_le h0
  obtain ⟨a, b, _⟩ := h.2.2.2.1 u h1
  obtain ⟨x, hx⟩ := Int.eq_ofNat_of_zero_le a
  exact ⟨x, hx, by rw [hx] at b; exact_mod_cast b⟩
/-- A set that holds v, is closed, and holds none but what v reaches, is what v reaches. -/
theorem closed_way {rows : List Int} {n v : Nat} {P : Nat → Prop} (h0 : P v) (h1 : ∀ x y, x < n → y < n → P x → Adj rows x y → P y) : ∀ w, Way rows n v w → P w := by
  intro w h
  induction h with
  | refl => exact h0
  | step _ a b c ih => exact h1 _ _ a b ih c

/-! ### the set bits of a number, in order -/
theorem bits_TrailingZeros64.sp {x : Nat} (h : x < 2 ^ 63) : bits_TrailingZeros64.f (IntKind.u64.wrap (x : Int)) = some ((Lib.ctz 64 x : Nat) : Int) := by
  unfold bits_TrailingZeros64.f
  rw [u64 (by omega) (by omega), if_pos (by omega), if_pos (by omega), Int.toNat_natCast]
def bitsFrom : Nat → Nat → Int → List Int
  | 0, _, _ => []
  | d + 1, i, r => if dig r i = true then (i : Int) :: bitsFrom d (i + 1) r else bitsFrom d (i + 1) r
theorem bitsFrom_length (r : Int) (d : Nat) : ∀ i, (bitsFrom d i r).length ≤ d := by
  induction d with
  | zero => intro i; simp [bitsFrom]
  | succ d ih =>
    intro i
    have := ih (i + 1)
    simp only [bitsFrom]
    split
    · simp only [List.length_cons]; omega
    · omega
theorem mem_bitsFrom {r : Int} {d : Nat} : ∀ {i : Nat} {x : Int}, x ∈ bitsFrom d i r ↔ ∃ j : Nat, x = (j : Int) ∧ i ≤ j ∧ j < i + d ∧ dig r j = true := by
  induction d with
  | zero =>
    intro i x
    simp only [bitsFrom, List.not_mem_nil, false_iff]
    rintro ⟨j, _, a, b, _⟩; omega
  | succ d ih =>
    intro i x
    simp only [bitsFrom]
    split
    · rename_i c
      rw [List.mem_cons, ih]
      constructor
      · rintro (rfl | ⟨j, a, b, e, g⟩)
        · exact ⟨i, rfl, by omega, by omega, c⟩
        · exact ⟨j, a, by omega, by omega, g⟩
      · rintro ⟨j, a, b, e, g⟩
        by_cases h : j = i
        · exact .inl (by rw [a, h])
        · exact .inr ⟨j, a, by omega, by omega, g⟩
    · rename_i c
      rw [ih]
      constructor
      · rintro ⟨j, a, b, e, g⟩; exact ⟨j, a, by omega, by omega, g⟩
      · rintro ⟨j, a, b, e, g⟩
        refine ⟨j, a, ?_, by omega, g⟩
        rcases Nat.lt_or_ge i j with h | h
        · omega
        · exact absurd (show dig r i = true by rw [show i = j by omega]; exact g) c
theorem bitsFrom_congr {r s : Int} {d : Nat} : ∀ {i : Nat}, (∀ j, i ≤ j → j < i + d → dig r j = dig s j) → bitsFrom d i r = bitsFrom d i s := by
  induction d with
  | zero => intro i _; rfl
  | succ d ih =>
    intro i h
    simp only [bitsFrom]
    rw [h i (by omega) (by omega), ih (i := i + 1) fun j a b => h j (by omega) (by omega)]
/-- The lowest bit struck. -/
theorem low_bit {x i : Nat} (h1 : x.testBit i = true) (h0 : ∀ j, j < i → x.testBit j = false) (hx : x < 2 ^ 63) : Lib.ctz 64 x = i ∧ ∀ j, (x &&& (x - 1)).testBit j = (x.testBit j && decide (j ≠ i)) := by
  have x0 : x ≠ 0 := fun a => by rw [a] at h1; simp at h1
  obtain ⟨m, hm, hk⟩ := Lib.ctzFrom_spec 64 x (by omega) (by omega)
  have e : Lib.ctz 64 x = Lib.ctzFrom 64 x := by unfold Lib.ctz; rw [if_neg x0]
  generalize Lib.ctzFrom 64 x = k at hm hk e
  have hp := Nat.two_pow_pos k
  have ex : x = 2 ^ (k + 1) * m + 2 ^ k := by rw [hm, Nat.pow_succ, Nat.mul_add, Nat.mul_one, Nat.mul_assoc]
  have hlt : 2 ^ k < 2 ^ (k + 1) := Nat.pow_lt_pow_right (by decide) (by omega)
  have ex1 : x - 1 = 2 ^ (k + 1) * m + (2 ^ k - 1) := by rw [ex]; omega
  have b : ∀ j, x.testBit j = if j < k + 1 then decide (k = j) else m.testBit (j - (k + 1)) := fun j => by
    rw [ex, Nat.testBit_two_pow_mul_add _ hlt, Nat.testBit_two_pow]
  have b1 : ∀ j, (x - 1).testBit j = if j < k + 1 then decide (j < k) else m.testBit (j - (k + 1)) := fun j => by
    rw [ex1, Nat.testBit_two_pow_mul_add _ (by omega), Nat.testBit_two_pow_sub_one]
  have ik : k = i := by
    rcases Nat.lt_trichotomy k i with h | h | h
    · have := h0 k h
      rw [b k, if_pos (by omega)] at this
      simp at this
    · exact h
    · have := h1
      rw [b i, if_pos (by omega)] at this
      simp at this
      omega
  subst ik
  refine ⟨e, fun j => ?_⟩
  rw [Nat.testBit_and, b j, b1 j]
  by_cases c : j < k + 1
  · rw [if_pos c, if_pos c]
    by_cases d : k = j
    · subst d; simp
    · simp [d]
  · rw [if_neg c, if_neg c]
    have : j ≠ k := by omega
    simp [this]

theorem impl_list.ev_l (n : Nat) (hn : n ≤ 62) (d : Nat) : ∀ (i x : Nat) (acc : List Int), i + d = n → x < 2 ^ n → acc.length ≤ i → (∀ j, j < i → x.testBit j = false) →
    Ev (fun q => impl_list.l0 q (x : Int) acc) (acc ++ bitsFrom d i (x : Int)) := by
  have hp := pow62 hn
  induction d with
  | zero =>
    intro i x acc e hx ha h
    have x0 : x = 0 := by
      refine Nat.eq_of_testBit_eq fun j => ?_
      rw [Nat.zero_testBit]
      rcases Nat.lt_or_ge j n with c | c
      · exact h j (by omega)
      · exact Nat.testBit_lt_two_pow (Nat.lt_of_lt_of_le hx (Nat.pow_le_pow_right (by decide) c))
    refine Ev.step (fun k => impl_list.l0.eq_2 ..) ?_
    rw [x0]
    simp only [if_pos (show ((0 : Nat) : Int) = 0 from rfl), bitsFrom, List.append_nil]
    exact Ev.now _
  | succ d ih =>
    intro i x acc e hx ha h
    by_cases c : x.testBit i = true
    · obtain ⟨h1, h2⟩ := low_bit c h (by omega)
      have x0 : x ≠ 0 := fun a => by rw [a] at c; simp at c
      refine Ev.step (fun k => impl_list.l0.eq_2 ..) ?_
      rw [bits_TrailingZeros64.sp (by omega), h1, w64 (by omega) (by omega), show (x : Int) - 1 = ((x - 1 : Nat) : Int) by omega, bit_and _ _ (by omega) (by omega)]
      simp only [if_neg (show ¬ ((x : Int) = 0) by omega), Option.bind_some, if_pos (show acc.length < 17592186044416 by omega)]
      have := ih (i + 1) (x &&& (x - 1)) (acc ++ [(i : Int)]) (by omega) (Nat.lt_of_le_of_lt Nat.and_le_left hx) (by rw [List.length_append]; simp only [List.length_cons, List.length_nil]; omega) (fun j hj => by
        rw [h2 j]
        rcases Nat.lt_succ_iff_lt_or_eq.1 hj with a | rfl
        · rw [h j a]; rfl
        · simp)
      refine ev_cast this ?_
      have cd : dig (x : Int) i = true := by rw [dig_nat]; exact c
      simp only [bitsFrom, if_pos cd, List.append_assoc, List.singleton_append]
      rw [bitsFrom_congr fun j a b => ?_]
      rw [dig_nat, dig_nat, h2 j]
      simp [show j ≠ i by omega]
    · have cd : ¬ dig (x : Int) i = true := by rw [dig_nat]; exact c
      simp only [bitsFrom, if_neg cd]
      refine ih (i + 1) x acc (by omega) hx (by omega) fun j hj => ?_
      rcases Nat.lt_succ_iff_lt_or_eq.1 hj with a | rfl
      · exact h j a
      · simpa using c
theorem impl_list.ev {n : Nat} (hn : n ≤ 62) {x : Nat} (hx : x < 2 ^ n) : Ev (fun q => impl_list.f q (x : Int)) (bitsFrom n 0 (x : Int)) := by
  unfold impl_list.f
  exact impl_list.ev_l n hn n 0 x [] (by omega) hx (by simp) (fun j hj => by omega)

/-- The edges of the vertices from v on, smaller end first. -/
def edgesFrom (rows : List Int) (n : Nat) : Nat → Nat → List (List Int)
  | 0, _ => []
  | d + 1, v => ((bitsFrom n 0 (rd rows (v : Int))).filter fun x => decide ((v : Int) < x)).map (fun x => [(v : Int), x]) ++ edgesFrom rows n d (v + 1)
theorem impl_Graph_edges.ev_1 {n : Int} {rows : List Int} (v : Nat) (hv : v ≤ 62) (T : List Int) (hT : T.length ≤ 62) (R : List (List Int)) (d : Nat) : ∀ (i : Nat) (acc : List (List Int)), i + d = T.length → acc.length ≤ 62 * v + i →
    (∀ acc', acc' = acc ++ ((T.drop i).filter fun x => decide ((v : Int) < x)).map (fun x => [(v : Int), x]) → acc'.length ≤ 62 * (v + 1) → Ev (fun q => impl_Graph_edges.l0 q acc' n ((v : Int) + 1) n rows) R) →
    Ev (fun q => impl_Graph_edges.l1 q acc (v : Int) n (v : Int) T (T.length : Int) (i : Int) n rows) R := by
  induction d with
  | zero =>
    intro i acc e ha next
    refine Ev.step (fun k => impl_Graph_edges.l1.eq_2 ..) ?_
    simp only [if_neg (show ¬ ((i : Int) < (T.length : Int)) by omega)]
    rw [w64 (by omega) (by omega)]
    refine next acc ?_ (by omega)
    rw [List.drop_eq_nil_of_le (by omega)]; simp
  | succ d ih =>
    intro i acc e ha next
    refine Ev.step (fun k => impl_Graph_edges.l1.eq_2 ..) ?_
    simp only [if_pos (show (i : Int) < (T.length : Int) by omega), if_pos (show (0 : Int) ≤ (i : Int) by omega)]
    rw [w64 (by omega) (by omega)]
    by_cases c : rd T (i : Int) > (v : Int)
    · simp only [if_pos c, if_pos (show acc.length < 5864062014805 by omega)]
      refine ih (i + 1) _ (by omega) (by rw [List.length_append]; simp only [List.length_cons, List.length_nil]; omega) fun acc' h1 h2 => next acc' ?_ h2
      rw [h1, drop_rd T i (by omega), List.filter_cons, if_pos (by simpa using c), List.map_cons, List.append_assoc, List.singleton_append]
    · simp only [if_neg c]
      refine ih (i + 1) _ (by omega) (by omega) fun acc' h1 h2 => next acc' ?_ h2
      rw [h1, drop_rd T i (by omega), List.filter_cons, if_neg (by simpa using c)]
theorem impl_Graph_edges.ev_0 {n : Int} {rows : List Int} (g : IsG n rows) (d : Nat) : ∀ (v : Nat) (acc : List (List Int)), v + d = n.toNat → acc.length ≤ 62 * v →
    Ev (fun q => impl_Graph_edges.l0 q acc n (v : Int) n rows) (acc ++ edgesFrom rows n.toNat d v) := by
  have hn := g.le
  have h1 := g.1
  have hl := g.len
  induction d with
  | zero =>
    intro v acc e ha
    refine Ev.step (fun k => impl_Graph_edges.l0.eq_2 ..) ?_
    simp only [if_neg (show ¬ ((v : Int) < n) by omega), edgesFrom, List.append_nil]
    exact Ev.now _
  | succ d ih =>
    intro v acc e ha
    refine Ev.step (fun k => impl_Graph_edges.l0.eq_2 ..) ?_
    simp only [if_pos (show (v : Int) < n by omega), if_pos (show (0 : Int) ≤ (v : Int) by omega), if_pos (show (v : Int) < (rows.length : Int) by omega)]
    obtain ⟨x, hx, hx1⟩ := IsG_row g (v := (v : Int)) (by omega) (by omega)
    rw [hx]
    refine Ev.bind (impl_list.ev hn hx1) ?_
    have hb := bitsFrom_length (x : Int) n.toNat 0
    refine impl_Graph_edges.ev_1 v (by omega) (bitsFrom n.toNat 0 (x : Int)) (by omega) _ (bitsFrom n.toNat 0 (x : Int)).length 0 acc (by omega) (by omega) fun acc' e1 e2 => ?_
    refine ev_cast (ih (v + 1) acc' (by omega) e2) ?_
    rw [e1, edgesFrom, hx, List.drop_zero, List.append_assoc]
theorem impl_Graph_edges.ev {n : Int} {rows : List Int} (g : IsG n rows) : Ev (fun q => impl_Graph_edges.f q n rows) (edgesFrom rows n.toNat n.toNat 0) := by
  unfold impl_Graph_edges.f
  exact impl_Graph_edges.ev_0 g n.toNat 0 [] (by omega) (by simp)
/-! ### the number of edges -/
def sumF : Nat → Nat → (Nat → Nat) → Nat
  | 0, _, _ => 0
  | d + 1, i, f => f i + sumF d (i + 1) f
theorem sumF_congr {f g : Nat → Nat} (d : Nat) : ∀ {i : Nat}, (∀ j, i ≤ j → j < i + d → f j = g j) → sumF d i f = sumF d i g := by
  induction d with
  | zero => intro i _; rfl
  | succ d ih =>
    intro i h
    simp only [sumF]
    rw [h i (by omega) (by omega), ih (i := i + 1) fun j a b => h j (by omega) (by omega)]
theorem sumF_one {f g : Nat → Nat} {x : Nat} (hx : g x = f x + 1) (d : Nat) : ∀ {i : Nat}, i ≤ x → x < i + d → (∀ j, i ≤ j → j < i + d → j ≠ x → f j = g j) → sumF d i g = sumF d i f + 1 := by
  induction d with
  | zero => intro i a b; omega
  | succ d ih =>
    intro i a b h
    simp only [sumF]
    by_cases c : i = x
    · subst c
      rw [hx, sumF_congr d (f := f) (g := g) (i := i + 1) fun j p q => h j (by omega) (by omega) (by omega)]
      omega
    · rw [h i (by omega) (by omega) c, ih (i := i + 1) (by omega) (by omega) fun j p q r => h j (by omega) (by omega) r]
      omega
theorem sumF_zero {f : Nat → Nat} (d : Nat) : ∀ {i : Nat}, (∀ j, i ≤ j → j < i + d → f j = 0) → sumF d i f = 0 := by
  induction d with
  | zero => intro i _; rfl
  | succ d ih =>
    intro i h
    simp only [sumF]
    rw [h i (by omega) (by omega), ih (i := i + 1) fun j a b => h j (by omega) (by omega)]
/-- Is the edge v, w there, v the smaller end? -/
def one (rows : List Int) (v w : Nat) : Nat := if dig (rd rows (v : Int)) w = true ∧ v < w then 1 else 0
def ecnt (rows : List Int) (n : Nat) : Nat := sumF n 0 fun v => sumF n 0 (one rows v)
theorem filter_sum (rows : List Int) (v : Nat) (d : Nat) : ∀ i, ((bitsFrom d i (rd rows (v : Int))).filter fun x => decide ((v : Int) < x)).length = sumF d i (one rows v) := by
  induction d with
  | zero => intro i; rfl
  | succ d ih =>
    intro i
    simp only [bitsFrom, sumF, one]
    by_cases c : dig (rd rows (v : Int)) i = true
    · by_cases e : v < i
      · rw [if_pos c, if_pos ⟨c, e⟩, List.filter_cons, if_pos (by simp; omega), List.length_cons, ih]
        omega
      · rw [if_pos c, if_neg (fun a => e a.2), List.filter_cons, if_neg (by simp; omega), ih]
        omega
    · rw [if_neg c, if_neg (fun a => c a.1), ih]
      omega
theorem edgesFrom_length (rows : List Int) (n : Nat) (d : Nat) : ∀ v, (edgesFrom rows n d v).length = sumF d v fun v => sumF n 0 (one rows v) := by
  induction d with
  | zero => intro v; rfl
  | succ d ih =>
    intro v
    simp only [edgesFrom, sumF, List.length_append, List.length_map, filter_sum, ih]

theorem filt_ge {v : Nat} {r : Int} (d : Nat) : ∀ i, v < i → (bitsFrom d i r).filter (fun x => decide ((v : Int) < x)) = bitsFrom d i r := by
  induction d with
  | zero => intro i _; rfl
  | succ d ih =>
    intro i h
    rw [bitsFrom]
    split
    · rw [List.filter_cons, if_pos (by simp; omega), ih (i + 1) (by omega)]
    · exact ih (i + 1) (by omega)
theorem filt_lt {v : Nat} {r : Int} (d : Nat) : ∀ i, i ≤ v + 1 → v + 1 ≤ i + d → (bitsFrom d i r).filter (fun x => decide ((v : Int) < x)) = bitsFrom (i + d - (v + 1)) (v + 1) r := by
  induction d with
  | zero =>
    intro i h k
    have : i = v + 1 := by omega
    subst this
    rw [Nat.add_zero, Nat.sub_self]; rfl
  | succ d ih =>
    intro i h k
    by_cases c : i = v + 1
    · subst c
      rw [filt_ge (d + 1) (v + 1) (by omega), show v + 1 + (d + 1) - (v + 1) = d + 1 by omega]
    · have e := ih (i + 1) (by omega) (by omega)
      rw [show i + 1 + d - (v + 1) = i + (d + 1) - (v + 1) by omega] at e
      rw [bitsFrom]
      split
      · rw [List.filter_cons, if_neg (by simp; omega), e]
      · exact e
theorem edgesFrom_step {n : Int} {rows : List Int} (g : IsG n rows) {d v : Nat} (h : v < n.toNat) : edgesFrom rows n.toNat (d + 1) v = (bitsFrom (n.toNat - (v + 1)) (v + 1) (rd rows (v : Int))).map (fun x => [(v : Int), x]) ++ edgesFrom rows n.toNat d (v + 1) := by
  rw [edgesFrom, filt_lt n.toNat 0 (by omega) (by omega), Nat.zero_add]
theorem mem_edgesFrom {n : Int} {rows : List Int} (g : IsG n rows) (d : Nat) : ∀ v e, v + d = n.toNat → e ∈ edgesFrom rows n.toNat d v → ∃ a b : Nat, e = [(a : Int), (b : Int)] ∧ a < b ∧ b < n.toNat ∧ Adj rows a b := by
  induction d with
  | zero => intro v e _ h; rw [edgesFrom] at h; cases h
  | succ d ih =>
    intro v e hv h
    rw [edgesFrom_step g (by omega), List.mem_append] at h
    rcases h with h | h
    · obtain ⟨x, hx, rfl⟩ := List.mem_map.1 h
      obtain ⟨j, rfl, h1, h2, h3⟩ := mem_bitsFrom.1 hx
      exact ⟨v, j, rfl, by omega, by omega, h3⟩
    · exact ih (v + 1) e (by omega) h
theorem edgesFrom_le (rows : List Int) (n : Nat) (d : Nat) : ∀ v, (edgesFrom rows n d v).length ≤ d * n := by
  induction d with
  | zero => intro v; simp [edgesFrom]
  | succ d ih =>
    intro v
    have h1 := ih (v + 1)
    have h2 := List.length_filter_le (fun x => decide ((v : Int) < x)) (bitsFrom n 0 (rd rows (v : Int)))
    have h3 := bitsFrom_length (rd rows (v : Int)) n 0
    rw [edgesFrom, List.length_append, List.length_map, Nat.succ_mul]
    omega
theorem edge_mem {n : Int} {rows : List Int} (g : IsG n rows) {a b : Nat} (hab : a < b) (hb : b < n.toNat) (hA : Adj rows a b) : [(a : Int), (b : Int)] ∈ edgesFrom rows n.toNat n.toNat 0 := by
  have key : ∀ d v, v + d = n.toNat → v ≤ a → [(a : Int), (b : Int)] ∈ edgesFrom rows n.toNat d v := by
    intro d
    induction d with
    | zero => intro v h1 h2; omega
    | succ d ih =>
      intro v h1 h2
      rw [edgesFrom_step g (by omega), List.mem_append]
      by_cases c : v = a
      · subst c
        exact .inl (List.mem_map.2 ⟨(b : Int), mem_bitsFrom.2 ⟨b, rfl, by omega, by omega, hA⟩, rfl⟩)
      · exact .inr (ih (v + 1) (by omega) (by omega))
  exact key n.toNat 0 (by omega) (by omega)

/-- A graph's text. -/
def gtx (n : Int) (rows : List Int) : List UInt8 := dgt n.toNat ++ ([58] ++ Lib.join ((edgesFrom rows n.toNat n.toNat 0).map ptx) [44])
theorem edges_ok {n : Int} {rows : List Int} (g : IsG n rows) : ∀ e ∈ edgesFrom rows n.toNat n.toNat 0, EdgeOk e := by
  intro e he
  obtain ⟨a, b, h1, h2, h3, _⟩ := mem_edgesFrom g n.toNat 0 e (by omega) he
  have := g.le
  exact ⟨a, b, h1, by omega, by omega⟩
theorem edges_few {n : Int} {rows : List Int} (g : IsG n rows) : (edgesFrom rows n.toNat n.toNat 0).length ≤ 4000 := by
  have h1 := edgesFrom_le rows n.toNat n.toNat 0
  have := g.le
  have := Nat.mul_le_mul this this
  omega

/-- The pair that a part tells. -/
def pr (s : List UInt8) : Option (Nat × Nat) := match num (cut1 45 s).1, num (cut1 45 s).2 with
  | some a, some b => some (a, b)
  | _, _ => none
/-- What the reference does with the parts that are left. -/
def spR (n : Nat) : List (List UInt8) → Int → List Int → Option (List Int)
  | [], _, rows => some rows
  | p :: ps, bf, rows => match pr p with
    | none => none
    | some (a, b) => if a < b ∧ b < n ∧ bf < (a * n + b : Nat) then spR n ps (a * n + b : Nat) (putE rows a b) else none
/-- What the program does with them. -/
def imR (n : Nat) : List (List UInt8) → List Int → Option (List Int)
  | [], rows => some rows
  | p :: ps, rows => match pr p with
    | none => none
    | some (a, b) => if a < n ∧ b < n then imR n ps (if a = b then rows else putE rows a b) else none
def spP (s : List UInt8) : Option (Int × List Int) :=
  if 58 ∈ s ∧ 58 ∉ (cut1 58 s).2 then match num (cut1 58 s).1 with
    | none => none
    | some n => if 1 ≤ n ∧ n ≤ 62 then (if (cut1 58 s).2 = [] then some ((n : Int), List.replicate n 0) else (spR n (spl 44 (cut1 58 s).2) (-1) (List.replicate n 0)).map fun r => ((n : Int), r)) else none
  else none
def imP (s : List UInt8) : Option (Int × List Int) :=
  match num (cut1 58 s).1 with
  | none => none
  | some n => if 1 ≤ n ∧ n ≤ 62 ∧ s.length ≤ 24000 then (match (if (cut1 58 s).2 = [] then some (List.replicate n 0) else imR n (spl 44 (cut1 58 s).2) (List.replicate n 0)) with
    | none => none
    | some r => if gtx n r = s then some ((n : Int), r) else none) else none
/-- The answer's value. -/
def pgV : Option (Int × List Int) → Int × List Int × Int
  | some (n, r) => (n, r, 0)
  | none => (0, [], 6)
theorem pr_ptx {a b : Nat} (ha : a < 100) (hb : b < 100) : pr (ptx [(a : Int), (b : Int)]) = some (a, b) := by
  have e : ptx [(a : Int), (b : Int)] = dgt a ++ 45 :: dgt b := rfl
  have h1 : (45 : UInt8) ∉ dgt a := fun m => absurd (num_dg (num_dgt a ha) 45 m) (by decide)
  unfold pr
  rw [e, cut1_app 45 _ _ h1, num_dgt a ha, num_dgt b hb]
theorem ptx_pr {s : List UInt8} {a b : Nat} (h : pr s = some (a, b)) (ha : a < 100) (hb : b < 100) : s = ptx [(a : Int), (b : Int)] := by
  unfold pr at h
  split at h
  case h_2 => cases h
  rename_i x y h1 h2
  simp only [Option.some.injEq, Prod.mk.injEq] at h
  obtain ⟨rfl, rfl⟩ := h
  have d2 := dgt_num h2 hb
  have hm : (45 : UInt8) ∈ s := by
    by_cases m : (45 : UInt8) ∈ s
    · exact m
    · rw [cut1_no 45 s m] at h2; simp [num] at h2
  obtain ⟨e, _⟩ := cut1_eq 45 s hm
  rw [e, ← dgt_num h1 ha, ← d2]
  rfl
/-- Two rows that rise strictly and hold the same numbers are the same. -/
theorem rise_eq {α : Type} (f : α → Int) : ∀ l m : List α, l.Pairwise (fun x y => f x < f y) → m.Pairwise (fun x y => f x < f y) → (∀ x, x ∈ l ↔ x ∈ m) → l = m
  | [], [], _, _, _ => rfl
  | [], y :: m, _, _, h => by have := (h y).2 List.mem_cons_self; cases this
  | x :: l, [], _, _, h => by have := (h x).1 List.mem_cons_self; cases this
  | x :: l, y :: m, hl, hm, h => by
    rw [List.pairwise_cons] at hl hm
    have e : x = y := by
      have h1 := (h x).1 List.mem_cons_self
      have h2 := (h y).2 List.mem_cons_self
      rcases List.mem_cons.1 h1 with h1 | h1
      · exact h1
      rcases List.mem_cons.1 h2 with h2 | h2
      · exact h2.symm
      have a1 := hm.1 x h1
      have a2 := hl.1 y h2
      omega
    subst e
    rw [rise_eq f l m hl.2 hm.2 fun z => ?_]
    constructor
    · intro hz
      rcases List.mem_cons.1 ((h z).1 (List.mem_cons_of_mem _ hz)) with e | e
      · have := hl.1 z hz; rw [e] at this; omega
      · exact e
    · intro hz
      rcases List.mem_cons.1 ((h z).2 (List.mem_cons_of_mem _ hz)) with e | e
      · have := hm.1 z hz; rw [e] at this; omega
      · exact e

theorem of_dec_ {p : Prop} {a : Decidable p} (h : @decide p a = true) : p := of_decide_eq_true h
theorem dec_of_ {p : Prop} {a : Decidable p} (h : p) : @decide p a = true := decide_eq_true h
theorem joinTail_join (c : UInt8) (ps : List (List UInt8)) (h : ps ≠ []) : Lib.joinTail [c] ps = c :: Lib.join ps [c] := by
  cases ps with
  | nil => exact absurd rfl h
  | cons p ps => rw [Lib.join_cons]; simp [Lib.joinTail]
theorem join_head (b c : UInt8) (ps : List (List UInt8)) (h : ps ≠ []) : Lib.join ((b :: ps.headD []) :: ps.tail) [c] = b :: Lib.join ps [c] := by
  cases ps with
  | nil => exact absurd rfl h
  | cons p ps => rw [Lib.join_cons]; simp [Lib.join_cons]
theorem join_spl (c : UInt8) : ∀ s : List UInt8, Lib.join (spl c s) [c] = s
  | [] => by simp [spl, Lib.join_cons, Lib.joinTail]
  | b :: l => by
    rw [spl]
    split
    · rename_i e
      rw [Lib.join_cons, joinTail_join c _ (spl_ne c l), join_spl c l, e]
      rfl
    · rw [join_head b c _ (spl_ne c l), join_spl c l]
theorem spl_join (c : UInt8) : ∀ (ps : List (List UInt8)) (p : List UInt8), c ∉ p → (∀ q ∈ ps, c ∉ q) → spl c (Lib.join (p :: ps) [c]) = p :: ps
  | [], p, hp, _ => by rw [Lib.join_one]; exact spl_no c p hp
  | q :: qs, p, hp, h => by
    rw [Lib.join_cons, joinTail_join c _ (by simp), spl_app c _ p hp, spl_join c qs q (h q List.mem_cons_self) (fun x hx => h x (List.mem_cons_of_mem _ hx))]
theorem mem_join (b c : UInt8) : ∀ ps : List (List UInt8), b ∈ Lib.join ps [c] → b = c ∨ ∃ p ∈ ps, b ∈ p
  | [], h => by rw [Lib.join_nil] at h; cases h
  | [p], h => by rw [Lib.join_one] at h; exact .inr ⟨p, List.mem_cons_self, h⟩
  | p :: q :: qs, h => by
    rw [Lib.join_cons, joinTail_join c _ (by simp), List.mem_append] at h
    rcases h with h | h
    · exact .inr ⟨p, List.mem_cons_self, h⟩
    rcases List.mem_cons.1 h with h | h
    · exact .inl h
    rcases mem_join b c (q :: qs) h with h | ⟨x, hx, h⟩
    · exact .inl h
    · exact .inr ⟨x, List.mem_cons_of_mem _ hx, h⟩
/-- A pair's place in the order. -/
def cod (n : Nat) (e : List Int) : Int := rd e 0 * n + rd e 1
theorem cod_nat (n a b : Nat) : cod n [(a : Int), (b : Int)] = ((a * n + b : Nat) : Int) := by
  have h : cod n [(a : Int), (b : Int)] = (a : Int) * n + b := rfl
  rw [h]; push_cast; rfl
theorem gr_put' {n : Nat} (hn : n ≤ 62) {E : Nat → Nat → Prop} {a b : Nat} (ha : a < n) (hb : b < n) (P : List (List Int)) :
    (gr n fun v w => (E v w ∨ (v = a ∧ w = b) ∨ (v = b ∧ w = a)) ∨ [(v : Int), (w : Int)] ∈ P ∨ [(w : Int), (v : Int)] ∈ P) = gr n fun v w => E v w ∨ [(v : Int), (w : Int)] ∈ [(a : Int), (b : Int)] :: P ∨ [(w : Int), (v : Int)] ∈ [(a : Int), (b : Int)] :: P := by
  refine gr_congr fun v w _ _ => ?_
  have e1 : ([(v : Int), (w : Int)] = [(a : Int), (b : Int)]) ↔ (v = a ∧ w = b) := by simp; omega
  have e2 : ([(w : Int), (v : Int)] = [(a : Int), (b : Int)]) ↔ (w = a ∧ v = b) := by simp; omega
  rw [List.mem_cons, List.mem_cons, e1, e2]
  constructor
  · rintro ((h | h | h) | h | h)
    · exact .inl h
    · exact .inr (.inl (.inl h))
    · exact .inr (.inr (.inl ⟨h.2, h.1⟩))
    · exact .inr (.inl (.inr h))
    · exact .inr (.inr (.inr h))
  · rintro (h | (h | h) | (h | h))
    · exact .inl (.inl h)
    · exact .inl (.inr (.inl h))
    · exact .inr (.inl h)
    · exact .inl (.inr (.inr ⟨h.2, h.1⟩))
    · exact .inr (.inr h)
def PairIn (n : Nat) (e : List Int) : Prop := ∃ a b : Nat, e = [(a : Int), (b : Int)] ∧ a < b ∧ b < n
theorem spR_some {n : Nat} (hn : n ≤ 62) : ∀ (ps : List (List UInt8)) (bf : Int) (E : Nat → Nat → Prop) (r : List Int), spR n ps bf (gr n E) = some r →
    ∃ P : List (List Int), ps = P.map ptx ∧ P.Pairwise (fun x y => cod n x < cod n y) ∧ (∀ e ∈ P, bf < cod n e) ∧ (∀ e ∈ P, PairIn n e) ∧ (r = gr n fun v w => E v w ∨ [(v : Int), (w : Int)] ∈ P ∨ [(w : Int), (v : Int)] ∈ P) ∧ imR n ps (gr n E) = some r
  | [], bf, E, r, h => by
    rw [spR, Option.some.injEq] at h
    refine ⟨[], rfl, List.Pairwise.nil, by simp, by simp, ?_, by rw [imR, h]⟩
    rw [← h]
    exact gr_congr fun v w _ _ => by simp
  | p :: ps, bf, E, r, h => by
    rw [spR] at h
    split at h
    · cases h
    rename_i a b hp
    split at h
    case isFalse => cases h
    rename_i hc
    obtain ⟨c1, c2, c3⟩ := hc
    rw [gr_put hn (by omega) c2] at h
    obtain ⟨P, e1, e2, e3, e4, e5, e6⟩ := spR_some hn ps _ _ r h
    refine ⟨[(a : Int), (b : Int)] :: P, by rw [List.map_cons, ← ptx_pr hp (by omega) (by omega), ← e1], List.pairwise_cons.2 ⟨fun x hx => by rw [cod_nat]; exact e3 x hx, e2⟩, ?_, ?_, ?_, ?_⟩
    · intro e he
      rcases List.mem_cons.1 he with he | he
      · rw [he, cod_nat]; exact c3
      · have := e3 e he; omega
    · intro e he
      rcases List.mem_cons.1 he with he | he
      · exact ⟨a, b, he, c1, c2⟩
      · exact e4 e he
    · rw [e5]; exact gr_put' hn (by omega) c2 P
    · rw [imR, hp]
      simp only
      rw [if_pos ⟨by omega, c2⟩, if_neg (by omega), gr_put hn (by omega) c2]
      exact e6
theorem spR_ok {n : Nat} (hn : n ≤ 62) : ∀ (P : List (List Int)) (bf : Int) (E : Nat → Nat → Prop), P.Pairwise (fun x y => cod n x < cod n y) → (∀ e ∈ P, bf < cod n e) → (∀ e ∈ P, PairIn n e) →
    spR n (P.map ptx) bf (gr n E) = some (gr n fun v w => E v w ∨ [(v : Int), (w : Int)] ∈ P ∨ [(w : Int), (v : Int)] ∈ P)
  | [], bf, E, _, _, _ => by
    rw [List.map_nil, spR]
    exact congrArg some (gr_congr fun v w _ _ => by simp)
  | e :: P, bf, E, h1, h2, h3 => by
    obtain ⟨a, b, rfl, c1, c2⟩ := h3 e List.mem_cons_self
    have h4 := h2 _ List.mem_cons_self
    rw [List.pairwise_cons] at h1
    rw [cod_nat] at h4
    rw [List.map_cons, spR, pr_ptx (by omega) (by omega)]
    simp only
    rw [if_pos ⟨c1, c2, h4⟩, gr_put hn (by omega) c2, spR_ok hn P _ _ h1.2 (fun x hx => by have := h1.1 x hx; rw [cod_nat] at this; exact this) (fun x hx => h3 x (List.mem_cons_of_mem _ hx))]
    exact congrArg some (gr_put' hn (by omega) c2 P)
theorem imR_isG {n : Nat} (hn : n ≤ 62) : ∀ (ps : List (List UInt8)) (E : Nat → Nat → Prop) (r : List Int), (∀ v w, E v w ↔ E w v) → (∀ v, ¬ E v v) → imR n ps (gr n E) = some r → ∃ F : Nat → Nat → Prop, (∀ v w, F v w ↔ F w v) ∧ (∀ v, ¬ F v v) ∧ r = gr n F
  | [], E, r, hs, hi, h => by rw [imR, Option.some.injEq] at h; exact ⟨E, hs, hi, h.symm⟩
  | p :: ps, E, r, hs, hi, h => by
    rw [imR] at h
    split at h
    · cases h
    rename_i a b hp
    split at h
    case isFalse => cases h
    rename_i hc
    split at h
    · exact imR_isG hn ps E r hs hi h
    rename_i hab
    rw [gr_put hn hc.1 hc.2] at h
    refine imR_isG hn ps _ r (fun v w => ?_) (fun v => ?_) h
    · rw [hs v w]
      constructor
      · rintro (h | h | h)
        · exact .inl h
        · exact .inr (.inr ⟨h.2, h.1⟩)
        · exact .inr (.inl ⟨h.2, h.1⟩)
      · rintro (h | h | h)
        · exact .inl h
        · exact .inr (.inr ⟨h.2, h.1⟩)
        · exact .inr (.inl ⟨h.2, h.1⟩)
    · rintro (h | h | h)
      · exact hi v h
      · omega
      · omega
theorem bits_rise (r : Int) : ∀ d i : Nat, (bitsFrom d i r).Pairwise (fun x y => x < y)
  | 0, i => List.Pairwise.nil
  | d + 1, i => by
    rw [bitsFrom]
    split
    · refine List.pairwise_cons.2 ⟨fun x hx => ?_, bits_rise r d (i + 1)⟩
      obtain ⟨j, rfl, h1, _⟩ := mem_bitsFrom.1 hx
      omega
    · exact bits_rise r d (i + 1)
theorem edges_rise {n : Int} {rows : List Int} (g : IsG n rows) (d : Nat) : ∀ v, v + d = n.toNat → (edgesFrom rows n.toNat d v).Pairwise (fun x y => cod n.toNat x < cod n.toNat y) ∧ ∀ e ∈ edgesFrom rows n.toNat d v, ∃ a b : Nat, e = [(a : Int), (b : Int)] ∧ v ≤ a ∧ b < n.toNat := by
  induction d with
  | zero => intro v _; exact ⟨List.Pairwise.nil, fun e h => by rw [edgesFrom] at h; cases h⟩
  | succ d ih =>
    intro v hv
    obtain ⟨i1, i2⟩ := ih (v + 1) (by omega)
    rw [edgesFrom_step g (by omega)]
    refine ⟨List.pairwise_append.2 ⟨List.pairwise_map.2 ((bits_rise _ _ _).imp fun {x y} h => ?_), i1, fun x hx y hy => ?_⟩, fun e he => ?_⟩
    · show (v : Int) * n.toNat + x < (v : Int) * n.toNat + y
      omega
    · obtain ⟨z, hz, rfl⟩ := List.mem_map.1 hx
      obtain ⟨j, rfl, h1, h2, _⟩ := mem_bitsFrom.1 hz
      obtain ⟨a, b, rfl, h3, h4⟩ := i2 y hy
      rw [cod_nat, cod_nat]
      have h5 : (v + 1) * n.toNat ≤ a * n.toNat := Nat.mul_le_mul_right _ h3
      rw [Nat.succ_mul] at h5
      omega
    · rcases List.mem_append.1 he with h | h
      · obtain ⟨z, hz, rfl⟩ := List.mem_map.1 h
        obtain ⟨j, rfl, h1, h2, _⟩ := mem_bitsFrom.1 hz
        exact ⟨v, j, rfl, Nat.le_refl _, by omega⟩
      · obtain ⟨a, b, e1, h3, h4⟩ := i2 e h
        exact ⟨a, b, e1, by omega, h4⟩
/-- The rows that a rising list of pairs makes, and their edges. -/
theorem gr_pairs {n : Nat} (h1 : 1 ≤ n) (hn : n ≤ 62) (P : List (List Int)) (hP : ∀ e ∈ P, PairIn n e) : IsG n (gr n fun v w => [(v : Int), (w : Int)] ∈ P ∨ [(w : Int), (v : Int)] ∈ P) := by
  refine IsG.of_gr h1 hn (fun v w _ _ => ⟨fun h => h.symm, fun h => h.symm⟩) (fun v _ h => ?_)
  have key : [(v : Int), (v : Int)] ∈ P → False := fun m => by
    obtain ⟨a, b, e, h2, _⟩ := hP _ m
    simp at e
    omega
  rcases h with h | h <;> exact key h
theorem edges_pairs {n : Nat} (h1 : 1 ≤ n) (hn : n ≤ 62) (P : List (List Int)) (hr : P.Pairwise (fun x y => cod n x < cod n y)) (hP : ∀ e ∈ P, PairIn n e) :
    edgesFrom (gr n fun v w => [(v : Int), (w : Int)] ∈ P ∨ [(w : Int), (v : Int)] ∈ P) n n 0 = P := by
  have g := gr_pairs h1 hn P hP
  have er := (edges_rise g n 0 (by simp)).1
  rw [Int.toNat_natCast] at er
  refine rise_eq (cod n) _ _ er hr fun e => ⟨fun h => ?_, fun h => ?_⟩
  · obtain ⟨a, b, rfl, c1, c2, c3⟩ := mem_edgesFrom g n 0 e (by simp) (by rw [Int.toNat_natCast]; exact h)
    rw [Int.toNat_natCast] at c2
    unfold Adj at c3
    rw [gr_dig (by omega) c2] at c3
    replace c3 := of_dec_ c3
    rcases c3 with c3 | c3
    · exact c3
    · obtain ⟨x, y, e1, h2, _⟩ := hP _ c3
      simp at e1
      omega
  · obtain ⟨a, b, rfl, c1, c2⟩ := hP e h
    have := edge_mem g c1 (by rw [Int.toNat_natCast]; exact c2) (by unfold Adj; rw [gr_dig (by omega) c2]; exact dec_of_ (.inl h))
    rw [Int.toNat_natCast] at this
    exact this
/-- A graph's rows are what its edges make. -/
theorem rows_pairs {n : Nat} {rows : List Int} (g : IsG n rows) : rows = gr n fun v w => [(v : Int), (w : Int)] ∈ edgesFrom rows n n 0 ∨ [(w : Int), (v : Int)] ∈ edgesFrom rows n n 0 := by
  have e := g.rows_eq
  rw [Int.toNat_natCast] at e
  conv => lhs; rw [e]
  refine gr_congr fun v w hv hw => ?_
  have key : ∀ a b : Nat, [(a : Int), (b : Int)] ∈ edgesFrom rows n n 0 → Adj rows a b := fun a b h => by
    obtain ⟨x, y, e1, _, _, h3⟩ := mem_edgesFrom g n 0 _ (by simp) (by rw [Int.toNat_natCast]; exact h)
    simp at e1
    obtain ⟨e1, e2⟩ := e1
    have e3 : a = x := by omega
    have e4 : b = y := by omega
    subst e3 e4
    exact h3
  constructor
  · intro h
    have hne : v ≠ w := fun e => g.irrefl (v := v) (by rw [Int.toNat_natCast]; exact hv) (by rw [← e] at h; exact h)
    rcases Nat.lt_or_ge v w with c | c
    · have := edge_mem g c (by rw [Int.toNat_natCast]; exact hw) h
      rw [Int.toNat_natCast] at this
      exact .inl this
    · have := edge_mem g (show w < v by omega) (by rw [Int.toNat_natCast]; exact hv) ((g.symm (by rw [Int.toNat_natCast]; exact hv) (by rw [Int.toNat_natCast]; exact hw)).1 h)
      rw [Int.toNat_natCast] at this
      exact .inr this
  · rintro (h | h)
    · exact key _ _ h
    · exact (g.symm (by rw [Int.toNat_natCast]; exact hv) (by rw [Int.toNat_natCast]; exact hw)).2 (key _ _ h)

theorem gtx_nat (n : Nat) (rows : List Int) : gtx (n : Int) rows = dgt n ++ 58 :: Lib.join ((edgesFrom rows n n 0).map ptx) [44] := by
  unfold gtx
  rw [Int.toNat_natCast]
  rfl
theorem spP_imP {s : List UInt8} {n : Int} {r : List Int} (h : spP s = some (n, r)) : imP s = some (n, r) := by
  unfold spP at h
  split at h
  case isFalse => cases h
  rename_i hc
  obtain ⟨hc1, hc2⟩ := hc
  split at h
  · cases h
  rename_i m hm
  split at h
  case isFalse => cases h
  rename_i hn
  obtain ⟨hn1, hn2⟩ := hn
  obtain ⟨e, _⟩ := cut1_eq 58 s hc1
  have hd := dgt_num hm (by omega)
  -- the pairs
  have key : ∃ P : List (List Int), (cut1 58 s).2 = Lib.join (P.map ptx) [44] ∧ P.Pairwise (fun x y => cod m x < cod m y) ∧ (∀ e ∈ P, PairIn m e) ∧ n = (m : Int) ∧ (r = gr m fun v w => [(v : Int), (w : Int)] ∈ P ∨ [(w : Int), (v : Int)] ∈ P) ∧
      (if (cut1 58 s).2 = [] then some (List.replicate m 0) else imR m (spl 44 (cut1 58 s).2) (List.replicate m 0)) = some r := by
    split at h
    · rename_i h0
      simp only [Option.some.injEq, Prod.mk.injEq] at h
      obtain ⟨h1, h2⟩ := h
      refine ⟨[], by rw [h0]; rfl, List.Pairwise.nil, by simp, h1.symm, ?_, by rw [if_pos h0, h2]⟩
      rw [← h2, gr_empty]
      exact gr_congr fun v w _ _ => by simp
    · rename_i h0
      rw [Option.map_eq_some_iff] at h
      obtain ⟨x, h1, h2⟩ := h
      simp only [Prod.mk.injEq] at h2
      obtain ⟨h2, rfl⟩ := h2
      rw [gr_empty] at h1
      obtain ⟨P, e1, e2, e3, e4, e5, e6⟩ := spR_some hn2 _ _ _ _ h1
      refine ⟨P, by rw [← e1, join_spl], e2, e4, h2.symm, ?_, by rw [if_neg h0, gr_empty]; exact e6⟩
      rw [e5]
      exact gr_congr fun v w _ _ => by simp
  obtain ⟨P, e1, e2, e3, rfl, e5, e6⟩ := key
  have eg : edgesFrom r m m 0 = P := by rw [e5]; exact edges_pairs hn1 hn2 P e2 e3
  have et : gtx (m : Int) r = s := by
    rw [gtx_nat, eg, hd, ← e1]
    exact e.symm
  have hlen : s.length ≤ 24000 := by
    have g : IsG m r := by rw [e5]; exact gr_pairs hn1 hn2 P e3
    have h1 := edgesFrom_le r m m 0
    have h2 := Nat.mul_le_mul hn2 hn2
    have h3 := join_len (edgesFrom r m m 0)
    have h4 := dgt_len m
    rw [← et, gtx_nat, List.length_append, List.length_cons]
    omega
  unfold imP
  rw [hm]
  simp only
  rw [if_pos ⟨hn1, hn2, hlen⟩, e6]
  simp only
  rw [if_pos et]
theorem ptx_no {n : Nat} (hn : n ≤ 62) {e : List Int} (he : PairIn n e) (c : UInt8) (h1 : ¬ dg c) (h2 : c ≠ 45) : c ∉ ptx e := by
  obtain ⟨a, b, rfl, h3, h4⟩ := he
  have e : ptx [(a : Int), (b : Int)] = dgt a ++ 45 :: dgt b := rfl
  rw [e, List.mem_append, List.mem_cons]
  rintro (h | h | h)
  · exact h1 (num_dg (num_dgt a (by omega)) c h)
  · exact h2 h
  · exact h1 (num_dg (num_dgt b (by omega)) c h)
theorem spP_gtx {n : Nat} {rows : List Int} (g : IsG n rows) : spP (gtx n rows) = some ((n : Int), rows) := by
  have hn1 : 1 ≤ n := by have := g.1; omega
  have hn2 : n ≤ 62 := by have := g.le; rw [Int.toNat_natCast] at this; exact this
  have hP : ∀ e ∈ edgesFrom rows n n 0, PairIn n e := fun e he => by
    obtain ⟨a, b, e1, h1, h2, _⟩ := mem_edgesFrom g n 0 e (by simp) (by rw [Int.toNat_natCast]; exact he)
    rw [Int.toNat_natCast] at h2
    exact ⟨a, b, e1, h1, h2⟩
  have hr := (edges_rise g n 0 (by simp)).1
  rw [Int.toNat_natCast] at hr
  have er := rows_pairs g
  rw [gtx_nat]
  generalize edgesFrom rows n n 0 = P at hP hr er
  have n1 : (58 : UInt8) ∉ dgt n := fun m => absurd (num_dg (num_dgt n (by omega)) 58 m) (by decide)
  have n2 : (58 : UInt8) ∉ Lib.join (P.map ptx) [44] := fun m => by
    rcases mem_join 58 44 _ m with h | ⟨p, hp, h⟩
    · exact absurd h (by decide)
    · obtain ⟨e, he, rfl⟩ := List.mem_map.1 hp
      exact ptx_no hn2 (hP e he) 58 (by decide) (by decide) h
  unfold spP
  rw [cut1_app 58 _ _ n1]
  simp only
  rw [if_pos ⟨by simp, n2⟩, num_dgt n (by omega)]
  simp only
  rw [if_pos ⟨hn1, hn2⟩]
  cases P with
  | nil =>
    rw [if_pos (show Lib.join (([] : List (List Int)).map ptx) [44] = [] from rfl), gr_empty, er]
    exact congrArg some (congrArg (Prod.mk (n : Int)) (gr_congr fun v w _ _ => by simp))
  | cons e P =>
    obtain ⟨a, b, e1, h1, h2⟩ := hP e List.mem_cons_self
    have hne : Lib.join ((e :: P).map ptx) [44] ≠ [] := by
      rw [List.map_cons, Lib.join_cons, e1]
      have : ptx [(a : Int), (b : Int)] = dgt a ++ 45 :: dgt b := rfl
      rw [this]
      simp
    rw [if_neg hne, List.map_cons, spl_join 44 _ _ (ptx_no hn2 (hP e List.mem_cons_self) 44 (by decide) (by decide)) (fun q hq => by
      obtain ⟨x, hx, rfl⟩ := List.mem_map.1 hq
      exact ptx_no hn2 (hP x (List.mem_cons_of_mem _ hx)) 44 (by decide) (by decide)), ← List.map_cons, gr_empty, spR_ok hn2 (e :: P) (-1) _ hr (fun x hx => by
      obtain ⟨a, b, rfl, _, _⟩ := hP x hx
      rw [cod_nat]; omega) hP]
    rw [Option.map_some]
    conv => rhs; rw [er]
    exact congrArg some (congrArg (Prod.mk (n : Int)) (gr_congr fun v w _ _ => by simp))
theorem imP_isG_ {s : List UInt8} {n : Int} {r : List Int} (h : imP s = some (n, r)) : IsG n r ∧ gtx n r = s := by
  unfold imP at h
  split at h
  · cases h
  rename_i m hm
  split at h
  case isFalse => cases h
  rename_i hn
  obtain ⟨hn1, hn2, _⟩ := hn
  split at h
  · cases h
  rename_i x hx
  split at h
  case isFalse => cases h
  rename_i et
  simp only [Option.some.injEq, Prod.mk.injEq] at h
  obtain ⟨rfl, rfl⟩ := h
  refine ⟨?_, et⟩
  split at hx
  · rw [Option.some.injEq] at hx
    rw [← hx, gr_empty]
    exact IsG.of_gr hn1 hn2 (fun _ _ _ _ => Iff.rfl) (fun _ _ h => h)
  · rw [gr_empty] at hx
    obtain ⟨F, h1, h2, h3⟩ := imR_isG hn2 _ _ _ (fun _ _ => Iff.rfl) (fun _ h => h) hx
    rw [h3]
    exact IsG.of_gr hn1 hn2 (fun v w _ _ => h1 v w) (fun v _ => h2 v)
theorem imP_isG {s : List UInt8} {n : Int} {r : List Int} (h : imP s = some (n, r)) : IsG n r := (imP_isG_ h).1
theorem imP_spP {s : List UInt8} {n : Int} {r : List Int} (h : imP s = some (n, r)) : spP s = some (n, r) := by
  obtain ⟨g, et⟩ := imP_isG_ h
  obtain ⟨m, rfl⟩ : ∃ m : Nat, n = m := ⟨n.toNat, by have := g.1; omega⟩
  rw [← et]
  exact spP_gtx g
theorem spP_eq (s : List UInt8) : spP s = imP s := by
  refine Option.ext fun x => ?_
  obtain ⟨n, r⟩ := x
  exact ⟨fun h => spP_imP h, fun h => imP_spP h⟩


end Go.Proofs.YtockngphfpedkaaDoor.XFnExactParseGraph
