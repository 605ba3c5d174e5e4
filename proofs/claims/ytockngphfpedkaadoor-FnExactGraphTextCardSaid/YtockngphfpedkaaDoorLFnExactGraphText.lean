/- What the functions that FnExactGraphText reaches compute. -/
import Derived.Test.YtockngphfpedkaaDoorXFnExactGraphTextx0
import Derived.Test.YtockngphfpedkaaDoorXFnExactGraphTextx1
import Derived.Test.YtockngphfpedkaaDoorXFnExactGraphTextx2
import Derived.Test.YtockngphfpedkaaDoorXFnExactGraphTextx3
import Derived.Test.YtockngphfpedkaaDoorXFnExactGraphTextx4
import Derived.Test.YtockngphfpedkaaDoorXFnExactGraphTextx5
import Derived.Test.YtockngphfpedkaaDoorXFnExactGraphTextx6
import Derived.Test.YtockngphfpedkaaDoorXFnExactGraphTextx7
import Derived.Test.YtockngphfpedkaaDoorGr
namespace Go.Proofs.YtockngphfpedkaaDoor.XFnExactGraphText
open Go.RowKit Go.Proofs.YtockngphfpedkaaDoorW.PrintWords Go.Proofs.YtockngphfpedkaaDoorW.PrintLast Go.Proofs.YtockngphfpedkaaDoor.B
open Classical
set_option linter.unusedVariables false
set_option linter.unusedSimpArgs false
set_option linter.unusedSectionVars false

theorem laws_eqInt64S.ev_l (l : List Int) (hl : l.length ≤ 281474976710656) (d : Nat) : ∀ (i : Nat), i + d = l.length → Ev (fun k => laws_eqInt64S.l0 k l l (i : Int)) true := by
  induction d with
  | zero =>
    intro i h3
    refine Ev.step (fun k => laws_eqInt64S.l0.eq_2 ..) ?_
    simp only [if_neg (show ¬ ((i : Int) < (l.length : Int)) by omega)]
    exact Ev.now _
  | succ d ih =>
    intro i h3
    refine Ev.step (fun k => laws_eqInt64S.l0.eq_2 ..) ?_
    simp only [if_pos (show (i : Int) < (l.length : Int) by omega), if_pos (show (0 : Int) ≤ (i : Int) by omega), if_true]
    rw [w64 (by omega) (by omega)]
    exact ih (i + 1) (by omega)
theorem laws_eqInt64S.ev (l : List Int) (hl : l.length ≤ 281474976710656) : Ev (fun k => laws_eqInt64S.f k l l) true := by
  unfold laws_eqInt64S.f
  simp only [if_true]
  exact laws_eqInt64S.ev_l l hl l.length 0 (by omega)

theorem laws_eqGraph.ev (n : Int) (l : List Int) (hl : l.length ≤ 281474976710656) : Ev (fun k => laws_eqGraph.f k n l n l) true := by
  unfold laws_eqGraph.f
  simp only [if_true]
  exact Ev.bind (laws_eqInt64S.ev l hl) (Ev.now _)

theorem laws_szInt64S.sp {l : List Int} {a : Int} (h : l.length ≤ 9223372036854775807) (ha : a ≤ 1048576) (ha0 : 0 ≤ a) :
    (laws_szInt64S.f l a = some (-1) ∧ a < l.length) ∨ (laws_szInt64S.f l a = some (a - l.length) ∧ (l.length : Int) ≤ a) := by
  unfold laws_szInt64S.f
  rw [w64 (by omega) (by omega)]
  by_cases c : a - (l.length : Int) < 0
  · rw [if_pos c]; exact .inl ⟨rfl, by omega⟩
  · rw [if_neg c]; exact .inr ⟨rfl, by omega⟩

theorem laws_szGraph.sp {n : Int} {l : List Int} {a : Int} (h : l.length ≤ 9223372036854775807) (ha : a ≤ 1048576) (ha0 : 0 ≤ a) :
    (laws_szGraph.f n l a = some (-1) ∧ a < l.length) ∨ (laws_szGraph.f n l a = some (a - l.length) ∧ (l.length : Int) ≤ a) := by
  unfold laws_szGraph.f
  rcases laws_szInt64S.sp h ha ha0 with ⟨e, c⟩ | ⟨e, c⟩
  · rw [e]; exact .inl ⟨by simp, c⟩
  · rw [e]
    refine .inr ⟨?_, c⟩
    simp only [Option.bind_some]
    rw [if_neg (by omega)]

theorem spec_l01In.sp (a b c : Int) : spec_l01In.f a b c = some (decide (b ≤ a ∧ a ≤ c)) := by
  unfold spec_l01In.f
  by_cases h : b ≤ a <;> simp [h]

theorem spec_l01Has.sp (n : Int) (rows : List Int) (a b : Int) (ha : 0 ≤ a) (ha1 : a < rows.length) (hb : 0 ≤ b) (hb1 : b ≤ 62) : spec_l01Has.f n rows a b = some (dig (rd rows a) b.toNat) := by
  unfold spec_l01Has.f
  rw [u64 hb (by omega), if_pos ha, if_pos ha1, if_pos hb, bit_dig hb (by omega)]

/-! spec.IsGraph -/
theorem spec_l01Is.ev_2 (n : Int) (rows : List Int) (hn1 : n ≤ 62) (hl : (rows.length : Int) = n) (v : Nat) (hv : (v : Int) < n)
    (F : Prop) (hF : Ev (fun q => spec_l01Is.l1 q ((v + 1 : Nat) : Int) n rows) (decide F)) (d : Nat) : ∀ w : Nat, w + d = v →
    Ev (fun q => spec_l01Is.l2 q (v : Int) (w : Int) n rows) (decide ((∀ k : Nat, w ≤ k → k < v → dig (rd rows v) k = dig (rd rows k) v) ∧ F)) := by
  induction d with
  | zero =>
    intro w e
    refine Ev.step (fun k => spec_l01Is.l2.eq_2 ..) ?_
    simp only [if_neg (show ¬ ((w : Int) < (v : Int)) by omega)]
    rw [w64 (by omega) (by omega)]
    refine ev_cast hF ?_
    refine dec_congr ?_
    exact ⟨fun a => ⟨scan_end (by omega), a⟩, fun a => a.2⟩
  | succ d ih =>
    intro w e
    refine Ev.step (fun k => spec_l01Is.l2.eq_2 ..) ?_
    rw [spec_l01Has.sp n rows v w (by omega) (by omega) (by omega) (by omega), spec_l01Has.sp n rows w v (by omega) (by omega) (by omega) (by omega), w64 (n := (w : Int) + 1) (by omega) (by omega)]
    simp only [if_pos (show (w : Int) < (v : Int) by omega), Option.bind_some, Int.toNat_natCast]
    by_cases c : dig (rd rows v) w = dig (rd rows w) v
    · simp only [c, bne_self_eq_false, Bool.false_eq_true, if_false]
      refine ev_cast (ih (w + 1) (by omega)) ?_
      refine dec_congr ?_
      rw [scan_step (P := fun k : Nat => dig (rd rows v) k = dig (rd rows k) v) c]
    · simp only [bne_iff_ne, ne_eq, c, not_false_eq_true, if_true]
      rw [decide_eq_false (fun a => c (a.1 w (Nat.le_refl _) (by omega)))]
      exact Ev.now _
theorem spec_l01Is.ev_1 (n : Int) (rows : List Int) (hn1 : n ≤ 62) (hl : (rows.length : Int) = n) (d : Nat) : ∀ v : Nat, v + d = rows.length →
    Ev (fun q => spec_l01Is.l1 q (v : Int) n rows) (decide (∀ k : Nat, v ≤ k → k < rows.length → ∀ w : Nat, 0 ≤ w → w < k → dig (rd rows k) w = dig (rd rows w) k)) := by
  induction d with
  | zero =>
    intro v e
    refine Ev.step (fun k => spec_l01Is.l1.eq_2 ..) ?_
    simp only [if_neg (show ¬ ((v : Int) < n) by omega)]
    rw [decide_eq_true (scan_end (by omega))]
    exact Ev.now _
  | succ d ih =>
    intro v e
    refine Ev.step (fun k => spec_l01Is.l1.eq_2 ..) ?_
    simp only [if_pos (show (v : Int) < n by omega)]
    refine ev_cast (spec_l01Is.ev_2 n rows hn1 hl v (by omega) _ (ih (v + 1) (by omega)) v 0 (by omega)) ?_
    refine dec_congr ?_
    constructor
    · rintro ⟨a1, a2⟩
      exact (scan_step (P := fun k : Nat => ∀ w : Nat, 0 ≤ w → w < k → dig (rd rows k) w = dig (rd rows w) k) (i := v) a1).2 a2
    · intro a
      exact ⟨a v (Nat.le_refl _) (by omega), fun k hk hk1 => a k (by omega) hk1⟩
theorem spec_l01Is.ev_0 (n : Int) (rows : List Int) (hn : 1 ≤ n) (hn1 : n ≤ 62) (hl : (rows.length : Int) = n) (d : Nat) : ∀ v : Nat, v + d = rows.length →
    Ev (fun q => spec_l01Is.l0 q (v : Int) n rows) (decide ((∀ k : Nat, v ≤ k → k < rows.length → 0 ≤ rd rows k ∧ rd rows k < ((2 ^ n.toNat : Nat) : Int) ∧ dig (rd rows k) k = false) ∧
      ∀ k : Nat, 0 ≤ k → k < rows.length → ∀ w : Nat, 0 ≤ w → w < k → dig (rd rows k) w = dig (rd rows w) k)) := by
  have hp : 1 ≤ 2 ^ n.toNat := Nat.one_le_two_pow
  have hq := pow62 (n := n.toNat) (by omega)
  induction d with
  | zero =>
    intro v e
    refine Ev.step (fun k => spec_l01Is.l0.eq_2 ..) ?_
    simp only [if_neg (show ¬ ((v : Int) < n) by omega)]
    refine ev_cast (spec_l01Is.ev_1 n rows hn1 hl rows.length 0 (by omega)) ?_
    refine dec_congr ?_
    exact ⟨fun a => ⟨scan_end (by omega), a⟩, fun a => a.2⟩
  | succ d ih =>
    intro v e
    refine Ev.step (fun k => spec_l01Is.l0.eq_2 ..) ?_
    rw [u64 (by omega) (by omega), shl_one (by omega) hn1, w64 (by omega) (by omega), w64 (n := (v : Int) + 1) (by omega) (by omega), spec_l01Has.sp n rows v v (by omega) (by omega) (by omega) (by omega), Int.toNat_natCast]
    simp only [if_pos (show (v : Int) < n by omega), if_pos (show (0 : Int) ≤ (v : Int) by omega), if_pos (show (v : Int) < (rows.length : Int) by omega), if_pos (show 0 ≤ n by omega), spec_l01In.sp, Option.bind_some, decide_eq_true_eq]
    by_cases c1 : 0 ≤ rd rows v ∧ rd rows v ≤ ((2 ^ n.toNat : Nat) : Int) - 1
    · simp only [if_pos c1]
      by_cases c2 : dig (rd rows v) v = true
      · simp only [if_pos c2]
        rw [decide_eq_false (fun a => by have := (a.1 v (Nat.le_refl _) (by omega)).2.2; rw [c2] at this; cases this)]
        exact Ev.now _
      · simp only [if_neg c2]
        refine ev_cast (ih (v + 1) (by omega)) ?_
        refine dec_congr ?_
        rw [scan_step (P := fun k : Nat => 0 ≤ rd rows k ∧ rd rows k < ((2 ^ n.toNat : Nat) : Int) ∧ dig (rd rows k) k = false) (i := v) ⟨c1.1, by omega, by simpa using c2⟩]
    · simp only [if_neg c1]
      rw [decide_eq_false (fun a => by have := a.1 v (Nat.le_refl _) (by omega); omega)]
      exact Ev.now _
theorem isG_iff' (n : Int) (rows : List Int) (hn : 1 ≤ n) (hn1 : n ≤ 62) (hl : (rows.length : Int) = n) :
    ((∀ k : Nat, 0 ≤ k → k < rows.length → 0 ≤ rd rows k ∧ rd rows k < ((2 ^ n.toNat : Nat) : Int) ∧ dig (rd rows k) k = false) ∧
      ∀ k : Nat, 0 ≤ k → k < rows.length → ∀ w : Nat, 0 ≤ w → w < k → dig (rd rows k) w = dig (rd rows w) k) ↔ IsG n rows := by
  constructor
  · rintro ⟨a, b⟩
    refine ⟨hn, hn1, hl, fun v hv => a v (by omega) (by omega), fun v w hv hw => ?_⟩
    rcases Nat.lt_trichotomy v w with h | h | h
    · exact (b w (by omega) (by omega) v (by omega) h).symm
    · rw [h]
    · exact b v (by omega) (by omega) w (by omega) h
  · intro a
    exact ⟨fun k _ hk => a.2.2.2.1 k (by omega), fun k _ hk w _ hw => a.2.2.2.2 k w (by omega) (by omega)⟩
theorem spec_l01Is.ev (n : Int) (rows : List Int) : Ev (fun q => spec_l01Is.f q n rows) (decide (IsG n rows)) := by
  unfold spec_l01Is.f
  simp only [spec_l01In.sp, Option.bind_some, decide_eq_true_eq]
  by_cases h1 : 1 ≤ n ∧ n ≤ 62
  · simp only [if_pos h1]
    refine Ev.step (fun k => spec_l01Is.j0.eq_2 ..) ?_
    by_cases h3 : (rows.length : Int) = n
    · simp only [h3, bne_self_eq_false, Bool.false_eq_true, if_false]
      refine ev_cast (spec_l01Is.ev_0 n rows h1.1 h1.2 h3 rows.length 0 (by omega)) ?_
      refine dec_congr ?_
      exact isG_iff' n rows h1.1 h1.2 h3
    · simp only [bne_iff_ne, ne_eq, h3, not_false_eq_true, if_true]
      rw [decide_eq_false (fun a => h3 a.2.2.1)]
      exact Ev.now _
  · simp only [if_neg h1]
    refine Ev.step (fun k => spec_l01Is.j0.eq_2 ..) ?_
    simp only [if_true]
    rw [decide_eq_false (fun a => h1 ⟨a.1, a.2.1⟩)]
    exact Ev.now _

/-! ### texts as lists of bytes -/
def mkB (l : List UInt8) : ByteArray := ⟨l.toArray⟩
theorem mkB_app (l m : List UInt8) : mkB l ++ mkB m = mkB (l ++ m) := by
  apply ByteArray.ext
  show (mkB l ++ mkB m).data = (l ++ m).toArray
  rw [ByteArray.data_append]
  simp [mkB]
theorem mkB_size (l : List UInt8) : (mkB l).size = l.length := by simp [mkB, ByteArray.size]
theorem mkB_data (l : List UInt8) : (mkB l).data.toList = l := by simp [mkB]
theorem mkB_data' : (fun b : ByteArray => b.data.toList) ∘ mkB = id := by funext l; exact mkB_data l
theorem bl_loop_ (b : ByteArray) (d : Nat) : ∀ (i : Nat) (r : List UInt8), i + d = b.size → ByteArray.toList.loop b i r = r.reverse ++ b.data.toList.drop i := by
  induction d with
  | zero =>
    intro i r h
    rw [ByteArray.toList.loop, if_neg (by omega), List.drop_eq_nil_of_le (by rw [Array.length_toList]; show b.size ≤ i; omega), List.append_nil]
  | succ d ih =>
    intro i r h
    have hi : i < b.data.toList.length := by rw [Array.length_toList]; show i < b.size; omega
    rw [ByteArray.toList.loop, if_pos (by omega), ih (i + 1) _ (by omega), List.reverse_cons, List.append_assoc, List.singleton_append, List.drop_eq_getElem_cons hi]
    congr 2
    have : i < b.data.size := by simpa using hi
    cases b with
    | mk data => simp [ByteArray.get!, this]
theorem bl_ (b : ByteArray) : b.toList = b.data.toList := by
  unfold ByteArray.toList
  rw [bl_loop_ b b.size 0 [] (by omega)]; simp
theorem mkB_toList (l : List UInt8) : (mkB l).toList = l := by rw [bl_, mkB_data]
/-- A number below 100 in decimal. -/
def dgt (n : Nat) : List UInt8 := if n < 10 then [UInt8.ofNat (48 + n)] else [UInt8.ofNat (48 + n / 10), UInt8.ofNat (48 + n % 10)]
theorem dgt_dec {n : Nat} (h : n < 100) : Lib.decDigits n = dgt n := by
  unfold dgt
  rw [Lib.decDigits]
  by_cases c : n < 10
  · rw [dif_pos c, if_pos c]
  · rw [dif_neg c, if_neg c, Lib.decDigits, dif_pos (by omega)]
    rfl
theorem dgt_len (n : Nat) : (dgt n).length ≤ 2 := by unfold dgt; split <;> simp
/-- A pair's text. -/
def ptx (e : List Int) : List UInt8 := dgt (rd e 0).toNat ++ ([45] ++ dgt (rd e 1).toNat)
theorem ptx_len (e : List Int) : (ptx e).length ≤ 5 := by
  unfold ptx
  have h1 := dgt_len (rd e 0).toNat
  have h2 := dgt_len (rd e 1).toNat
  simp
  omega
theorem tail_cons (e : List Int) (r : List (List Int)) : Lib.joinTail [44] ((e :: r).map ptx) = [44] ++ ptx e ++ Lib.joinTail [44] (r.map ptx) := by simp [Lib.joinTail]
theorem tail_len (r : List (List Int)) : (Lib.joinTail [44] (r.map ptx)).length ≤ 6 * r.length := by
  induction r with
  | nil => simp [Lib.joinTail]
  | cons e r ih =>
    have h := ptx_len e
    rw [tail_cons, List.length_append, List.length_append, List.length_cons, List.length_cons, List.length_nil]
    omega
theorem join_len (r : List (List Int)) : (Lib.join (r.map ptx) [44]).length ≤ 6 * r.length := by
  cases r with
  | nil => simp [Lib.join_nil]
  | cons e r =>
    rw [List.map_cons, Lib.join_cons, List.length_append, List.length_cons]
    have := ptx_len e
    have := tail_len r
    omega
/-- An edge's form. -/
def EdgeOk (e : List Int) : Prop := ∃ a b : Nat, e = [(a : Int), (b : Int)] ∧ a < 100 ∧ b < 100
theorem gt_rd {E : List (List Int)} {i : Nat} (h : i < E.length) : rd_L2 E (i : Int) = E[i] := by simp [rd_L2, h]

theorem spec_l01Dec.all : ∀ n : Fin 100, spec_l01Dec.f 3 (n.val : Int) = some (mkB (dgt n.val)) := by decide +kernel
theorem spec_l01Dec.ev {n : Nat} (h : n < 100) : Ev (fun q => spec_l01Dec.f q (n : Int)) (mkB (dgt n)) := Ev.of (k := 3) (fun k => spec_l01Dec.mono _ k) (spec_l01Dec.all ⟨n, h⟩)

/-! ### ways in a graph -/
inductive Way (rows : List Int) (n : Nat) (u : Nat) : Nat → Prop
  | refl : Way rows n u u
  | step {v w : Nat} : Way rows n u v → v < n → w < n → Adj rows v w → Way rows n u w
theorem Way.lt {rows : List Int} {n u w : Nat} (h : Way rows n u w) (hu : u < n) : w < n := by
  cases h with
  | refl => exact hu
  | step _ _ b _ => exact b
theorem Way.trans {rows : List Int} {n u v w : Nat} (h : Way rows n u v) (k : Way rows n v w) : Way rows n u w := by
  induction k with
  | refl => exact h
  | step _ a b c ih => exact .step ih a b c
theorem Way.symm {rows : List Int} {n : Int} (g : IsG n rows) {u v : Nat} (h : Way rows n.toNat u v) : Way rows n.toNat v u := by
  induction h with
  | refl => exact .refl
  | step _ a b c ih => exact (Way.step .refl b a ((g.symm a b).1 c)).trans ih
theorem IsG_row {n : Int} {rows : List Int} (h : IsG n rows) {v : Int} (h0 : 0 ≤ v) (h1 : v < n) : ∃ x : Nat, rd rows v = (x : Int) ∧ x < 2 ^ n.toNat := by
  obtain ⟨u, rfl⟩ := Int.eq_ofNat_of_zero_le h0
  obtain ⟨a, b, _⟩ := h.2.2.2.1 u h1
  obtain ⟨x, hx⟩ := Int.eq_ofNat_of_zero_le a
  exact ⟨x, hx, by rw [hx] at b; exact_mod_cast b⟩
/-- A set that holds v, is closed, and holds none but what v reaches, is what v reaches. -/
theorem closed_way {rows : List Int} {n v : Nat} {P : Nat → Prop} (h0 : P v) (h1 : ∀ x y, x < n → y < n → P x → Adj rows x y → P y) : ∀ w, Way rows n v w → P w := by
  intro w h
  induction h with
  | refl => exact h0
  | step _ a b c ih => exact h1 _ _ a b ih c

/-! ### the set bits of a number, in order -/
theorem bits_TrailingZeros64.sp {x : Nat} (h : x < 2 ^ 63) : bits_TrailingZeros64.f (IntKind.u64.wrap (x : Int)) = some ((Lib.ctz 64 x : Nat) : Int) := by
  unfold bits_TrailingZeros64.f
  rw [u64 (by omega) (by omega), if_pos (by omega), if_pos (by omega), Int.toNat_natCast]
def bitsFrom : Nat → Nat → Int → List Int
  | 0, _, _ => []
  | d + 1, i, r => if dig r i = true then (i : Int) :: bitsFrom d (i + 1) r else bitsFrom d (i + 1) r
theorem bitsFrom_length (r : Int) (d : Nat) : ∀ i, (bitsFrom d i r).length ≤ d := by
  induction d with
  | zero => intro i; simp [bitsFrom]
  | succ d ih =>
    intro i
    have := ih (i + 1)
    simp only [bitsFrom]
    split
    · simp only [List.length_cons]; omega
    · omega
theorem mem_bitsFrom {r : Int} {d : Nat} : ∀ {i : Nat} {x : Int}, x ∈ bitsFrom d i r ↔ ∃ j : Nat, x = (j : Int) ∧ i ≤ j ∧ j < i + d ∧ dig r j = true := by
  induction d with
  | zero =>
    intro i x
    simp only [bitsFrom, List.not_mem_nil, false_iff]
    rintro ⟨j, _, a, b, _⟩; omega
  | succ d ih =>
    intro i x
    simp only [bitsFrom]
    split
    · rename_i c
      rw [List.mem_cons, ih]
      constructor
      · rintro (rfl | ⟨j, a, b, e, g⟩)
        · exact ⟨i, rfl, by omega, by omega, c⟩
        · exact ⟨j, a, by omega, by omega, g⟩
      · rintro ⟨j, a, b, e, g⟩
        by_cases h : j = i
        · exact .inl (by rw [a, h])
        · exact .inr ⟨j, a, by omega, by omega, g⟩
    · rename_i c
      rw [ih]
      constructor
      · rintro ⟨j, a, b, e, g⟩; exact ⟨j, a, by omega, by omega, g⟩
      · rintro ⟨j, a, b, e, g⟩
        refine ⟨j, a, ?_, by omega, g⟩
        rcases Nat.lt_or_ge i j with h | h
        · omega
        · exact absurd (show dig r i = true by rw [show i = j by omega]; exact g) c
theorem bitsFrom_congr {r s : Int} {d : Nat} : ∀ {i : Nat}, (∀ j, i ≤ j → j < i + d → dig r j = dig s j) → bitsFrom d i r = bitsFrom d i s := by
  induction d with
  | zero => intro i _; rfl
  | succ d ih =>
    intro i h
    simp only [bitsFrom]
    rw [h i (by omega) (by omega), ih (i := i + 1) fun j a b => h j (by omega) (by omega)]
/-- The lowest bit struck. -/
theorem low_bit {x i : Nat} (h1 : x.testBit i = true) (h0 : ∀ j, j < i → x.testBit j = false) (hx : x < 2 ^ 63) : Lib.ctz 64 x = i ∧ ∀ j, (x &&& (x - 1)).testBit j = (x.testBit j && decide (j ≠ i)) := by
  have x0 : x ≠ 0 := fun a => by rw [a] at h1; simp at h1
  obtain ⟨m, hm, hk⟩ := Lib.ctzFrom_spec 64 x (by omega) (by omega)
  have e : Lib.ctz 64 x = Lib.ctzFrom 64 x := by unfold Lib.ctz; rw [if_neg x0]
  generalize Lib.ctzFrom 64 x = k at hm hk e
  have hp := Nat.two_pow_pos k
  have ex : x = 2 ^ (k + 1) * m + 2 ^ k := by rw [hm, Nat.pow_succ, Nat.mul_add, Nat.mul_one, Nat.mul_assoc]
  have hlt : 2 ^ k < 2 ^ (k + 1) := Nat.pow_lt_pow_right (by decide) (by omega)
  have ex1 : x - 1 = 2 ^ (k + 1) * m + (2 ^ k - 1) := by rw [ex]; omega
  have b : ∀ j, x.testBit j = if j < k + 1 then decide (k = j) else m.testBit (j - (k + 1)) := fun j => by
    rw [ex, Nat.testBit_two_pow_mul_add _ hlt, Nat.testBit_two_pow]
  have b1 : ∀ j, (x - 1).testBit j = if j < k + 1 then decide (j < k) else m.testBit (j - (k + 1)) := fun j => by
    rw [ex1, Nat.testBit_two_pow_mul_add _ (by omega), Nat.testBit_two_pow_sub_one]
  have ik : k = i := by
    rcases Nat.lt_trichotomy k i with h | h | h
    · have := h0 k h
      rw [b k, if_pos (by omega)] at this
      simp at this
    · exact h
    · have := h1
      rw [b i, if_pos (by omega)] at this
      simp at this
      omega
  subst ik
  refine ⟨e, fun j => ?_⟩
  rw [Nat.testBit_and, b j, b1 j]
  by_cases c : j < k + 1
  · rw [if_pos c, if_pos c]
    by_cases d : k = j
    · subst d; simp
    · simp [d]
  · rw [if_neg c, if_neg c]
    have : j ≠ k := by omega
    simp [this]

theorem impl_list.ev_l (n : Nat) (hn : n ≤ 62) (d : Nat) : ∀ (i x : Nat) (acc : List Int), i + d = n → x < 2 ^ n → acc.length ≤ i → (∀ j, j < i → x.testBit j = false) →
    Ev (fun q => impl_list.l0 q (x : Int) acc) (acc ++ bitsFrom d i (x : Int)) := by
  have hp := pow62 hn
  induction d with
  | zero =>
    intro i x acc e hx ha h
    have x0 : x = 0 := by
      refine Nat.eq_of_testBit_eq fun j => ?_
      rw [Nat.zero_testBit]
      rcases Nat.lt_or_ge j n with c | c
      · exact h j (by omega)
      · exact Nat.testBit_lt_two_pow (Nat.lt_of_lt_of_le hx (Nat.pow_le_pow_right (by decide) c))
    refine Ev.step (fun k => impl_list.l0.eq_2 ..) ?_
    rw [x0]
    simp only [if_pos (show ((0 : Nat) : Int) = 0 from rfl), bitsFrom, List.append_nil]
    exact Ev.now _
  | succ d ih =>
    intro i x acc e hx ha h
    by_cases c : x.testBit i = true
    · obtain ⟨h1, h2⟩ := low_bit c h (by omega)
      have x0 : x ≠ 0 := fun a => by rw [a] at c; simp at c
      refine Ev.step (fun k => impl_list.l0.eq_2 ..) ?_
      rw [bits_TrailingZeros64.sp (by omega), h1, w64 (by omega) (by omega), show (x : Int) - 1 = ((x - 1 : Nat) : Int) by omega, bit_and _ _ (by omega) (by omega)]
      simp only [if_neg (show ¬ ((x : Int) = 0) by omega), Option.bind_some, if_pos (show acc.length < 17592186044416 by omega)]
      have := ih (i + 1) (x &&& (x - 1)) (acc ++ [(i : Int)]) (by omega) (Nat.lt_of_le_of_lt Nat.and_le_left hx) (by rw [List.length_append]; simp only [List.length_cons, List.length_nil]; omega) (fun j hj => by
        rw [h2 j]
        rcases Nat.lt_succ_iff_lt_or_eq.1 hj with a | rfl
        · rw [h j a]; rfl
        · simp)
      refine ev_cast this ?_
      have cd : dig (x : Int) i = true := by rw [dig_nat]; exact c
      simp only [bitsFrom, if_pos cd, List.append_assoc, List.singleton_append]
      rw [bitsFrom_congr fun j a b => ?_]
      rw [dig_nat, dig_nat, h2 j]
      simp [show j ≠ i by omega]
    · have cd : ¬ dig (x : Int) i = true := by rw [dig_nat]; exact c
      simp only [bitsFrom, if_neg cd]
      refine ih (i + 1) x acc (by omega) hx (by omega) fun j hj => ?_
      rcases Nat.lt_succ_iff_lt_or_eq.1 hj with a | rfl
      · exact h j a
      · simpa using c
theorem impl_list.ev {n : Nat} (hn : n ≤ 62) {x : Nat} (hx : x < 2 ^ n) : Ev (fun q => impl_list.f q (x : Int)) (bitsFrom n 0 (x : Int)) := by
  unfold impl_list.f
  exact impl_list.ev_l n hn n 0 x [] (by omega) hx (by simp) (fun j hj => by omega)

/-- The edges of the vertices from v on, smaller end first. -/
def edgesFrom (rows : List Int) (n : Nat) : Nat → Nat → List (List Int)
  | 0, _ => []
  | d + 1, v => ((bitsFrom n 0 (rd rows (v : Int))).filter fun x => decide ((v : Int) < x)).map (fun x => [(v : Int), x]) ++ edgesFrom rows n d (v + 1)
theorem impl_Graph_edges.ev_1 {n : Int} {rows : List Int} (v : Nat) (hv : v ≤ 62) (T : List Int) (hT : T.length ≤ 62) (R : List (List Int)) (d : Nat) : ∀ (i : Nat) (acc : List (List Int)), i + d = T.length → acc.length ≤ 62 * v + i →
    (∀ acc', acc' = acc ++ ((T.drop i).filter fun x => decide ((v : Int) < x)).map (fun x => [(v : Int), x]) → acc'.length ≤ 62 * (v + 1) → Ev (fun q => impl_Graph_edges.l0 q acc' n ((v : Int) + 1) n rows) R) →
    Ev (fun q => impl_Graph_edges.l1 q acc (v : Int) n (v : Int) T (T.length : Int) (i : Int) n rows) R := by
  induction d with
  | zero =>
    intro i acc e ha next
    refine Ev.step (fun k => impl_Graph_edges.l1.eq_2 ..) ?_
    simp only [if_neg (show ¬ ((i : Int) < (T.length : Int)) by omega)]
    rw [w64 (by omega) (by omega)]
    refine next acc ?_ (by omega)
    rw [List.drop_eq_nil_of_le (by omega)]; simp
  | succ d ih =>
    intro i acc e ha next
    refine Ev.step (fun k => impl_Graph_edges.l1.eq_2 ..) ?_
    simp only [if_pos (show (i : Int) < (T.length : Int) by omega), if_pos (show (0 : Int) ≤ (i : Int) by omega)]
    rw [w64 (by omega) (by omega)]
    by_cases c : rd T (i : Int) > (v : Int)
    · simp only [if_pos c, if_pos (show acc.length < 5864062014805 by omega)]
      refine ih (i + 1) _ (by omega) (by rw [List.length_append]; simp only [List.length_cons, List.length_nil]; omega) fun acc' h1 h2 => next acc' ?_ h2
      rw [h1, drop_rd T i (by omega), List.filter_cons, if_pos (by simpa using c), List.map_cons, List.append_assoc, List.singleton_append]
    · simp only [if_neg c]
      refine ih (i + 1) _ (by omega) (by omega) fun acc' h1 h2 => next acc' ?_ h2
      rw [h1, drop_rd T i (by omega), List.filter_cons, if_neg (by simpa using c)]
theorem impl_Graph_edges.ev_0 {n : Int} {rows : List Int} (g : IsG n rows) (d : Nat) : ∀ (v : Nat) (acc : List (List Int)), v + d = n.toNat → acc.length ≤ 62 * v →
    Ev (fun q => impl_Graph_edges.l0 q acc n (v : Int) n rows) (acc ++ edgesFrom rows n.toNat d v) := by
  have hn := g.le
  have h1 := g.1
  have hl := g.len
  induction d with
  | zero =>
    intro v acc e ha
    refine Ev.step (fun k => impl_Graph_edges.l0.eq_2 ..) ?_
    simp only [if_neg (show ¬ ((v : Int) < n) by omega), edgesFrom, List.append_nil]
    exact Ev.now _
  | succ d ih =>
    intro v acc e ha
    refine Ev.step (fun k => impl_Graph_edges.l0.eq_2 ..) ?_
    simp only [if_pos (show (v : Int) < n by omega), if_pos (show (0 : Int) ≤ (v : Int) by omega), if_pos (show (v : Int) < (rows.length : Int) by omega)]
    obtain ⟨x, hx, hx1⟩ := IsG_row g (v := (v : Int)) (by omega) (by omega)
    rw [hx]
    refine Ev.bind (impl_list.ev hn hx1) ?_
    have hb := bitsFrom_length (x : Int) n.toNat 0
    refine impl_Graph_edges.ev_1 v (by omega) (bitsFrom n.toNat 0 (x : Int)) (by omega) _ (bitsFrom n.toNat 0 (x : Int)).length 0 acc (by omega) (by omega) fun acc' e1 e2 => ?_
    refine ev_cast (ih (v + 1) acc' (by omega) e2) ?_
    rw [e1, edgesFrom, hx, List.drop_zero, List.append_assoc]
theorem impl_Graph_edges.ev {n : Int} {rows : List Int} (g : IsG n rows) : Ev (fun q => impl_Graph_edges.f q n rows) (edgesFrom rows n.toNat n.toNat 0) := by
  unfold impl_Graph_edges.f
  exact impl_Graph_edges.ev_0 g n.toNat 0 [] (by omega) (by simp)
/-! ### the number of edges -/
def sumF : Nat → Nat → (Nat → Nat) → Nat
  | 0, _, _ => 0
  | d + 1, i, f => f i + sumF d (i + 1) f
theorem sumF_congr {f g : Nat → Nat} (d : Nat) : ∀ {i : Nat}, (∀ j, i ≤ j → j < i + d → f j = g j) → sumF d i f = sumF d i g := by
  induction d with
  | zero => intro i _; rfl
  | succ d ih =>
    intro i h
    simp only [sumF]
    rw [h i (by omega) (by omega), ih (i := i + 1) fun j a b => h j (by omega) (by omega)]
theorem sumF_one {f g : Nat → Nat} {x : Nat} (hx : g x = f x + 1) (d : Nat) : ∀ {i : Nat}, i ≤ x → x < i + d → (∀ j, i ≤ j → j < i + d → j ≠ x → f j = g j) → sumF d i g = sumF d i f + 1 := by
  induction d with
  | zero => intro i a b; omega
  | succ d ih =>
    intro i a b h
    simp only [sumF]
    by_cases c : i = x
    · subst c
      rw [hx, sumF_congr d (f := f) (g := g) (i := i + 1) fun j p q => h j (by omega) (by omega) (by omega)]
      omega
    · rw [h i (by omega) (by omega) c, ih (i := i + 1) (by omega) (by omega) fun j p q r => h j (by omega) (by omega) r]
      omega
theorem sumF_zero {f : Nat → Nat} (d : Nat) : ∀ {i : Nat}, (∀ j, i ≤ j → j < i + d → f j = 0) → sumF d i f = 0 := by
  induction d with
  | zero => intro i _; rfl
  | succ d ih =>
    intro i h
    simp only [sumF]
    rw [h i (by omega) (by omega), ih (i := i + 1) fun j a b => h j (by omega) (by omega)]
/-- Is the edge v, w there, v the smaller end? -/
def one (rows : List Int) (v w : Nat) : Nat := if dig (rd rows (v : Int)) w = true ∧ v < w then 1 else 0
def ecnt (rows : List Int) (n : Nat) : Nat := sumF n 0 fun v => sumF n 0 (one rows v)
theorem filter_sum (rows : List Int) (v : Nat) (d : Nat) : ∀ i, ((bitsFrom d i (rd rows (v : Int))).filter fun x => decide ((v : Int) < x)).length = sumF d i (one rows v) := by
  induction d with
  | zero => intro i; rfl
  | succ d ih =>
    intro i
    simp only [bitsFrom, sumF, one]
    by_cases c : dig (rd rows (v : Int)) i = true
    · by_cases e : v < i
      · rw [if_pos c, if_pos ⟨c, e⟩, List.filter_cons, if_pos (by simp; omega), List.length_cons, ih]
        omega
      · rw [if_pos c, if_neg (fun a => e a.2), List.filter_cons, if_neg (by simp; omega), ih]
        omega
    · rw [if_neg c, if_neg (fun a => c a.1), ih]
      omega
theorem edgesFrom_length (rows : List Int) (n : Nat) (d : Nat) : ∀ v, (edgesFrom rows n d v).length = sumF d v fun v => sumF n 0 (one rows v) := by
  induction d with
  | zero => intro v; rfl
  | succ d ih =>
    intro v
    simp only [edgesFrom, sumF, List.length_append, List.length_map, filter_sum, ih]

theorem filt_ge {v : Nat} {r : Int} (d : Nat) : ∀ i, v < i → (bitsFrom d i r).filter (fun x => decide ((v : Int) < x)) = bitsFrom d i r := by
  induction d with
  | zero => intro i _; rfl
  | succ d ih =>
    intro i h
    rw [bitsFrom]
    split
    · rw [List.filter_cons, if_pos (by simp; omega), ih (i + 1) (by omega)]
    · exact ih (i + 1) (by omega)
theorem filt_lt {v : Nat} {r : Int} (d : Nat) : ∀ i, i ≤ v + 1 → v + 1 ≤ i + d → (bitsFrom d i r).filter (fun x => decide ((v : Int) < x)) = bitsFrom (i + d - (v + 1)) (v + 1) r := by
  induction d with
  | zero =>
    intro i h k
    have : i = v + 1 := by omega
    subst this
    rw [Nat.add_zero, Nat.sub_self]; rfl
  | succ d ih =>
    intro i h k
    by_cases c : i = v + 1
    · subst c
      rw [filt_ge (d + 1) (v + 1) (by omega), show v + 1 + (d + 1) - (v + 1) = d + 1 by omega]
    · have e := ih (i + 1) (by omega) (by omega)
      rw [show i + 1 + d - (v + 1) = i + (d + 1) - (v + 1) by omega] at e
      rw [bitsFrom]
      split
      · rw [List.filter_cons, if_neg (by simp; omega), e]
      · exact e
theorem edgesFrom_step {n : Int} {rows : List Int} (g : IsG n rows) {d v : Nat} (h : v < n.toNat) : edgesFrom rows n.toNat (d + 1) v = (bitsFrom (n.toNat - (v + 1)) (v + 1) (rd rows (v : Int))).map (fun x => [(v : Int), x]) ++ edgesFrom rows n.toNat d (v + 1) := by
  rw [edgesFrom, filt_lt n.toNat 0 (by omega) (by omega), Nat.zero_add]
theorem mem_edgesFrom {n : Int} {rows : List Int} (g : IsG n rows) (d : Nat) : ∀ v e, v + d = n.toNat → e ∈ edgesFrom rows n.toNat d v → ∃ a b : Nat, e = [(a : Int), (b : Int)] ∧ a < b ∧ b < n.toNat ∧ Adj rows a b := by
  induction d with
  | zero => intro v e _ h; rw [edgesFrom] at h; cases h
  | succ d ih =>
    intro v e hv h
    rw [edgesFrom_step g (by omega), List.mem_append] at h
    rcases h with h | h
    · obtain ⟨x, hx, rfl⟩ := List.mem_map.1 h
      obtain ⟨j, rfl, h1, h2, h3⟩ := mem_bitsFrom.1 hx
      exact ⟨v, j, rfl, by omega, by omega, h3⟩
    · exact ih (v + 1) e (by omega) h
theorem edgesFrom_le (rows : List Int) (n : Nat) (d : Nat) : ∀ v, (edgesFrom rows n d v).length ≤ d * n := by
  induction d with
  | zero => intro v; simp [edgesFrom]
  | succ d ih =>
    intro v
    have h1 := ih (v + 1)
    have h2 := List.length_filter_le (fun x => decide ((v : Int) < x)) (bitsFrom n 0 (rd rows (v : Int)))
    have h3 := bitsFrom_length (rd rows (v : Int)) n 0
    rw [edgesFrom, List.length_append, List.length_map, Nat.succ_mul]
    omega
theorem edge_mem {n : Int} {rows : List Int} (g : IsG n rows) {a b : Nat} (hab : a < b) (hb : b < n.toNat) (hA : Adj rows a b) : [(a : Int), (b : Int)] ∈ edgesFrom rows n.toNat n.toNat 0 := by
  have key : ∀ d v, v + d = n.toNat → v ≤ a → [(a : Int), (b : Int)] ∈ edgesFrom rows n.toNat d v := by
    intro d
    induction d with
    | zero => intro v h1 h2; omega
    | succ d ih =>
      intro v h1 h2
      rw [edgesFrom_step g (by omega), List.mem_append]
      by_cases c : v = a
      · subst c
        exact .inl (List.mem_map.2 ⟨(b : Int), mem_bitsFrom.2 ⟨b, rfl, by omega, by omega, hA⟩, rfl⟩)
      · exact .inr (ih (v + 1) (by omega) (by omega))
  exact key n.toNat 0 (by omega) (by omega)

theorem spec_l01Edges.ev_1 {n : Int} {rows : List Int} (g : IsG n rows) {v : Nat} (hv : v < n.toNat) {R : List (List Int)} (d : Nat) : ∀ (j : Nat) (acc : List (List Int)), j + d = n.toNat → acc.length ≤ 62 * v + j →
    (∀ acc', acc' = acc ++ (bitsFrom d j (rd rows (v : Int))).map (fun x => [(v : Int), x]) → acc'.length ≤ 62 * v + n.toNat → Ev (fun q => spec_l01Edges.l0 q acc' (((v + 1 : Nat) : Nat) : Int) n rows) R) →
    Ev (fun q => spec_l01Edges.l1 q acc (v : Int) (j : Int) n rows) R := by
  have hn := g.le
  have hl := g.len
  induction d with
  | zero =>
    intro j acc e ha next
    refine Ev.step (fun k => spec_l01Edges.l1.eq_2 ..) ?_
    simp only [if_neg (show ¬ ((j : Int) < n) by omega)]
    rw [show wrap64 ((v : Int) + 1) = ((v + 1 : Nat) : Int) by rw [w64 (by omega) (by omega)]; omega]
    exact next acc (by simp [bitsFrom]) (by omega)
  | succ d ih =>
    intro j acc e ha next
    refine Ev.step (fun k => spec_l01Edges.l1.eq_2 ..) ?_
    simp only [if_pos (show (j : Int) < n by omega), spec_l01Has.sp n rows (v : Int) (j : Int) (by omega) (by omega) (by omega) (by omega), Option.bind_some, Int.toNat_natCast]
    rw [show wrap64 ((j : Int) + 1) = ((j + 1 : Nat) : Int) by rw [w64 (by omega) (by omega)]; omega]
    rw [bitsFrom] at next
    by_cases c : dig (rd rows (v : Int)) j = true
    · simp only [if_pos c, if_pos (show acc.length < 5864062014805 by omega)]
      rw [if_pos c] at next
      refine ih (j + 1) _ (by omega) (by rw [List.length_append]; simp only [List.length_cons, List.length_nil]; omega) fun acc' h1 h2 => next acc' ?_ h2
      rw [h1, List.map_cons, List.append_assoc, List.singleton_append]
    · simp only [if_neg c]
      rw [if_neg c] at next
      exact ih (j + 1) acc (by omega) (by omega) next
theorem spec_l01Edges.ev_0 {n : Int} {rows : List Int} (g : IsG n rows) (d : Nat) : ∀ (v : Nat) (acc : List (List Int)), v + d = n.toNat → acc.length ≤ 62 * v →
    Ev (fun q => spec_l01Edges.l0 q acc (v : Int) n rows) (acc ++ edgesFrom rows n.toNat d v) := by
  have hn := g.le
  induction d with
  | zero =>
    intro v acc e ha
    refine Ev.step (fun k => spec_l01Edges.l0.eq_2 ..) ?_
    simp only [if_neg (show ¬ ((v : Int) < n) by omega), edgesFrom, List.append_nil]
    exact Ev.now _
  | succ d ih =>
    intro v acc e ha
    refine Ev.step (fun k => spec_l01Edges.l0.eq_2 ..) ?_
    simp only [if_pos (show (v : Int) < n by omega)]
    rw [show wrap64 ((v : Int) + 1) = ((v + 1 : Nat) : Int) by rw [w64 (by omega) (by omega)]; omega]
    refine spec_l01Edges.ev_1 g (by omega) (n.toNat - (v + 1)) (v + 1) acc (by omega) (by omega) fun acc' h1 h2 => ?_
    refine ev_cast (ih (v + 1) acc' (by omega) (by omega)) ?_
    rw [h1, edgesFrom_step g (by omega), List.append_assoc]
theorem spec_l01Edges.ev {n : Int} {rows : List Int} (g : IsG n rows) : Ev (fun q => spec_l01Edges.f q n rows) (edgesFrom rows n.toNat n.toNat 0) := by
  unfold spec_l01Edges.f
  exact spec_l01Edges.ev_0 g n.toNat 0 [] (by omega) (by simp)

theorem spec_l01Text.ev_t {E : List (List Int)} (hE : ∀ e ∈ E, EdgeOk e) (hn : E.length ≤ 100000) (d : Nat) : ∀ (i : Nat) (acc : List UInt8), i + d = E.length → 0 < i → acc.length + 6 * d ≤ 10000000 →
    Ev (fun k => spec_l01Text.l0 k (mkB acc) E (i : Int)) (mkB (acc ++ Lib.joinTail [44] ((E.drop i).map ptx))) := by
  induction d with
  | zero =>
    intro i acc h h0 hl
    refine Ev.step (fun k => spec_l01Text.l0.eq_2 ..) ?_
    simp only [if_neg (show ¬ ((i : Int) < (E.length : Int)) by omega)]
    rw [List.drop_eq_nil_of_le (by omega)]
    refine ev_some ?_
    simp [Lib.joinTail]
  | succ d ih =>
    intro i acc h h0 hl
    have hi : i < E.length := by omega
    obtain ⟨a, b, e1, ha, hb⟩ := hE _ (List.getElem_mem hi)
    have h2 := dgt_len a
    have h3 := dgt_len b
    refine Ev.step (fun k => spec_l01Text.l0.eq_2 ..) ?_
    simp only [if_pos (show (i : Int) < (E.length : Int) by omega), if_pos (show (i : Int) > 0 by omega), if_pos (show (0 : Int) ≤ (i : Int) by omega), gt_rd hi, e1]
    rw [show (⟨#[44]⟩ : ByteArray) = mkB [44] from rfl, show (⟨#[45]⟩ : ByteArray) = mkB [45] from rfl]
    simp only [mkB_app, mkB_size, if_pos (show acc.length + 1 ≤ 9223372036854775807 by omega), if_pos (show (0 : Int) < (([(a : Int), (b : Int)] : List Int).length : Int) by simp), if_pos (show (1 : Int) < (([(a : Int), (b : Int)] : List Int).length : Int) by simp)]
    rw [show rd ([(a : Int), (b : Int)] : List Int) 0 = (a : Int) from rfl, show rd ([(a : Int), (b : Int)] : List Int) 1 = (b : Int) from rfl]
    refine Ev.bind (spec_l01Dec.ev ha) ?_
    simp only [mkB_app, mkB_size, List.length_append, List.length_cons, List.length_nil, if_pos (show acc.length + (0 + 1) + (dgt a).length ≤ 9223372036854775807 by omega), if_pos (show acc.length + (0 + 1) + (dgt a).length + 1 ≤ 9223372036854775807 by omega)]
    refine Ev.bind (spec_l01Dec.ev hb) ?_
    simp only [mkB_app, mkB_size, List.length_append, List.length_cons, List.length_nil, if_pos (show acc.length + (0 + 1) + (dgt a).length + (0 + 1) + (dgt b).length ≤ 9223372036854775807 by omega)]
    rw [show wrap64 ((i : Int) + 1) = ((i + 1 : Nat) : Int) by unfold wrap64; omega]
    refine ev_cast (ih (i + 1) _ (by omega) (by omega) (by simp; omega)) ?_
    rw [List.drop_eq_getElem_cons hi, e1]
    simp [Lib.joinTail, ptx, rd]
theorem spec_l01Text.ev_l {E : List (List Int)} (hE : ∀ e ∈ E, EdgeOk e) (hn : E.length ≤ 100000) (acc : List UInt8) (ha_ : acc.length ≤ 100) :
    Ev (fun k => spec_l01Text.l0 k (mkB acc) E 0) (mkB (acc ++ Lib.join (E.map ptx) [44])) := by
  cases E with
  | nil =>
    refine Ev.step (fun k => spec_l01Text.l0.eq_2 ..) ?_
    simp only [List.length_nil, if_neg (show ¬ ((0 : Int) < ((0 : Nat) : Int)) by omega)]
    refine ev_some ?_
    simp [Lib.join_nil]
  | cons e r =>
    obtain ⟨a, b, e1, ha, hb⟩ := hE e List.mem_cons_self
    subst e1
    have h2 := dgt_len a
    have h3 := dgt_len b
    have hl : (([(a : Int), (b : Int)] :: r).length : Int) = (r.length : Int) + 1 := by simp
    refine Ev.step (fun k => spec_l01Text.l0.eq_2 ..) ?_
    have hr0 : rd_L2 ([(a : Int), (b : Int)] :: r) 0 = [(a : Int), (b : Int)] := rfl
    simp only [if_pos (show (0 : Int) < (([(a : Int), (b : Int)] :: r).length : Int) by omega), if_neg (show ¬ ((0 : Int) > 0) by omega), if_pos (show (0 : Int) ≤ 0 by omega), hr0]
    rw [show (⟨#[45]⟩ : ByteArray) = mkB [45] from rfl]
    simp only [mkB_app, mkB_size, if_pos (show (0 : Int) < (([(a : Int), (b : Int)] : List Int).length : Int) by simp), if_pos (show (1 : Int) < (([(a : Int), (b : Int)] : List Int).length : Int) by simp)]
    rw [show rd ([(a : Int), (b : Int)] : List Int) 0 = (a : Int) from rfl, show rd ([(a : Int), (b : Int)] : List Int) 1 = (b : Int) from rfl]
    refine Ev.bind (spec_l01Dec.ev ha) ?_
    simp only [mkB_app, mkB_size, List.length_append, List.length_cons, List.length_nil, if_pos (show acc.length + (dgt a).length ≤ 9223372036854775807 by omega), if_pos (show acc.length + (dgt a).length + 1 ≤ 9223372036854775807 by omega)]
    refine Ev.bind (spec_l01Dec.ev hb) ?_
    simp only [mkB_app, mkB_size, List.length_append, List.length_cons, List.length_nil, if_pos (show acc.length + (dgt a).length + (0 + 1) + (dgt b).length ≤ 9223372036854775807 by omega)]
    rw [show wrap64 ((0 : Int) + 1) = ((1 : Nat) : Int) by unfold wrap64; omega]
    refine ev_cast (spec_l01Text.ev_t hE hn r.length 1 _ (by simp; omega) (by omega) (by simp at hn ⊢; omega)) ?_
    rw [List.map_cons, Lib.join_cons]
    simp [ptx, rd]
/-- A graph's text. -/
def gtx (n : Int) (rows : List Int) : List UInt8 := dgt n.toNat ++ ([58] ++ Lib.join ((edgesFrom rows n.toNat n.toNat 0).map ptx) [44])
theorem edges_ok {n : Int} {rows : List Int} (g : IsG n rows) : ∀ e ∈ edgesFrom rows n.toNat n.toNat 0, EdgeOk e := by
  intro e he
  obtain ⟨a, b, h1, h2, h3, _⟩ := mem_edgesFrom g n.toNat 0 e (by omega) he
  have := g.le
  exact ⟨a, b, h1, by omega, by omega⟩
theorem edges_few {n : Int} {rows : List Int} (g : IsG n rows) : (edgesFrom rows n.toNat n.toNat 0).length ≤ 4000 := by
  have h1 := edgesFrom_le rows n.toNat n.toNat 0
  have := g.le
  have := Nat.mul_le_mul this this
  omega
theorem spec_l01Text.ev {n : Int} {rows : List Int} (g : IsG n rows) : Ev (fun q => spec_l01Text.f q n rows) (mkB (gtx n rows)) := by
  have hle := g.le
  have h1 := g.1
  obtain ⟨m, rfl⟩ := Int.eq_ofNat_of_zero_le (show 0 ≤ n by omega)
  have hm : m < 100 := by simp at hle; omega
  have hd := dgt_len m
  unfold spec_l01Text.f
  refine Ev.bind (spec_l01Dec.ev hm) ?_
  simp only [mkB_size, if_pos (show (dgt m).length + 1 ≤ 9223372036854775807 by omega)]
  refine Ev.bind (spec_l01Edges.ev g) ?_
  rw [show (⟨#[58]⟩ : ByteArray) = mkB [58] from rfl]
  simp only [mkB_app]
  refine ev_cast (spec_l01Text.ev_l (edges_ok g) (Nat.le_trans (edges_few g) (by omega)) _ (by simp; omega)) ?_
  unfold gtx
  rw [Int.toNat_natCast, List.append_assoc]

noncomputable def gtxR (n : Int) (rows : List Int) : ByteArray × Int := if IsG n rows then (mkB (gtx n rows), 0) else (mkB [], 1)
theorem spec_GraphText.ev (n : Int) (rows : List Int) : Ev (fun q => spec_GraphText.f q n rows) (gtxR n rows) := by
  unfold spec_GraphText.f gtxR
  refine Ev.bind (spec_l01Is.ev n rows) ?_
  by_cases g : IsG n rows
  · simp only [decide_eq_true g, if_true, if_pos g]
    exact Ev.bind (spec_l01Text.ev g) (Ev.now _)
  · simp only [decide_eq_false g, Bool.false_eq_true, if_false, if_neg g]
    exact Ev.now _

theorem laws_toInt64S.ev_l (l : List Int) (hl : l.length ≤ 281474976710656) (d : Nat) : ∀ (i : Nat) (acc : List Int), acc.length = l.length → (∀ j, j < i → acc[j]? = l[j]?) → i + d = l.length →
    Ev (fun k => laws_toInt64S.l0 k l acc (i : Int)) l := by
  induction d with
  | zero =>
    intro i acc h1 h2 h3
    refine Ev.step (fun k => laws_toInt64S.l0.eq_2 ..) ?_
    simp only [if_neg (show ¬ ((i : Int) < (l.length : Int)) by omega)]
    refine ev_some (List.ext_getElem? fun j => ?_)
    by_cases hj : j < i
    · exact h2 j hj
    · rw [List.getElem?_eq_none (by omega), List.getElem?_eq_none (by omega)]
  | succ d ih =>
    intro i acc h1 h2 h3
    refine Ev.step (fun k => laws_toInt64S.l0.eq_2 ..) ?_
    simp only [if_pos (show (i : Int) < (l.length : Int) by omega), if_pos (show (0 : Int) ≤ (i : Int) by omega), if_pos (show (i : Int) < (acc.length : Int) by omega)]
    rw [w64 (by omega) (by omega)]
    have := ih (i + 1) (acc.set ((i : Int)).toNat (rd l i)) (by simp [h1]) (fun j hj => by
      rw [Int.toNat_natCast]
      by_cases e : i = j
      · subst e
        rw [List.getElem?_set_self (by omega), rd_get l i (by omega)]
        simp
      · rw [List.getElem?_set_ne e]
        exact h2 j (by omega)) (by omega)
    exact this
theorem laws_toInt64S.ev (l : List Int) (hl : l.length ≤ 35184372088832) : Ev (fun k => laws_toInt64S.f k l) l := by
  unfold laws_toInt64S.f
  simp only [if_pos (show (0 : Int) ≤ (l.length : Int) by omega), if_pos (show ((l.length : Int)).toNat ≤ 35184372088832 by omega)]
  exact laws_toInt64S.ev_l l (by omega) l.length 0 _ (by simp) (fun j hj => by omega) (by omega)

theorem laws_toGraph.ev (n : Int) (l : List Int) (hl : l.length ≤ 35184372088832) : Ev (fun k => laws_toGraph.f k n l) (n, l) := by
  unfold laws_toGraph.f
  exact Ev.bind (laws_toInt64S.ev l hl) (Ev.now _)

/-! impl.IsGraph -/
theorem impl_IsGraph.ev_1 (n : Int) (rows : List Int) (hn : 1 ≤ n) (hn1 : n ≤ 62) (hl : (rows.length : Int) = n) (v : Nat) (hv : (v : Int) < n)
    (F : Prop) (hF : Ev (fun q => impl_IsGraph.l0 q n rows (rows.length : Int) ((v + 1 : Nat) : Int) n rows) (decide F)) (d : Nat) : ∀ w : Nat, w + d = rows.length →
    Ev (fun q => impl_IsGraph.l1 q n (v : Int) (rd rows v) rows (rows.length : Int) (v : Int) n (w : Int) n rows) (decide ((∀ k : Nat, w ≤ k → k < rows.length → dig (rd rows v) k = dig (rd rows k) v) ∧ F)) := by
  induction d with
  | zero =>
    intro w e
    refine Ev.step (fun k => impl_IsGraph.l1.eq_2 ..) ?_
    simp only [if_neg (show ¬ ((w : Int) < n) by omega)]
    rw [w64 (by omega) (by omega)]
    refine ev_cast hF ?_
    refine dec_congr ?_
    exact ⟨fun a => ⟨scan_end (by omega), a⟩, fun a => a.2⟩
  | succ d ih =>
    intro w e
    refine Ev.step (fun k => impl_IsGraph.l1.eq_2 ..) ?_
    simp only [if_pos (show (w : Int) < n by omega), if_pos (show (0 : Int) ≤ (w : Int) by omega), if_pos (show (w : Int) < (rows.length : Int) by omega), if_pos (show (0 : Int) ≤ (v : Int) by omega)]
    rw [bit_val (v := (w : Int)) (by omega) (by omega), bit_val (v := (v : Int)) (by omega) (by omega), w64 (n := (w : Int) + 1) (by omega) (by omega)]
    simp only [Int.toNat_natCast]
    by_cases c : dig (rd rows v) w = dig (rd rows w) v
    · simp only [c, if_true]
      refine ev_cast (ih (w + 1) (by omega)) ?_
      refine dec_congr ?_
      rw [scan_step (P := fun k : Nat => dig (rd rows v) k = dig (rd rows k) v) c]
    · rw [decide_eq_false (fun a => c (a.1 w (Nat.le_refl _) (by omega)))]
      have : ¬ ((if dig (rd rows v) w = true then (1 : Int) else 0) = if dig (rd rows w) v = true then 1 else 0) := by
        intro h
        apply c
        cases h1 : dig (rd rows v) w <;> cases h2 : dig (rd rows w) v <;> simp [h1, h2] at h ⊢
      simp only [if_neg this]
      exact Ev.now _
theorem impl_IsGraph.ev_0 (n : Int) (rows : List Int) (hn : 1 ≤ n) (hn1 : n ≤ 62) (hl : (rows.length : Int) = n) (d : Nat) : ∀ v : Nat, v + d = rows.length →
    Ev (fun q => impl_IsGraph.l0 q n rows (rows.length : Int) (v : Int) n rows)
      (decide (∀ k : Nat, v ≤ k → k < rows.length → (0 ≤ rd rows k ∧ rd rows k < ((2 ^ n.toNat : Nat) : Int) ∧ dig (rd rows k) k = false) ∧ ∀ w : Nat, 0 ≤ w → w < rows.length → dig (rd rows k) w = dig (rd rows w) k)) := by
  induction d with
  | zero =>
    intro v e
    refine Ev.step (fun k => impl_IsGraph.l0.eq_2 ..) ?_
    simp only [if_neg (show ¬ ((v : Int) < (rows.length : Int)) by omega)]
    rw [decide_eq_true (scan_end (by omega))]
    exact Ev.now _
  | succ d ih =>
    intro v e
    refine Ev.step (fun k => impl_IsGraph.l0.eq_2 ..) ?_
    simp only [if_pos (show (v : Int) < (rows.length : Int) by omega), if_pos (show (0 : Int) ≤ (v : Int) by omega), if_pos (show 0 ≤ n by omega)]
    rw [shl_one (by omega) hn1, bit_dig (by omega) (by omega), Int.toNat_natCast]
    have key : ∀ g : Bool, (g = true ↔ ¬ (0 ≤ rd rows v ∧ rd rows v < ((2 ^ n.toNat : Nat) : Int) ∧ dig (rd rows v) v = false)) → Ev (fun q => impl_IsGraph.j2 q n (v : Int) (rd rows v) rows (rows.length : Int) (v : Int) g n rows)
        (decide (∀ k : Nat, v ≤ k → k < rows.length → (0 ≤ rd rows k ∧ rd rows k < ((2 ^ n.toNat : Nat) : Int) ∧ dig (rd rows k) k = false) ∧ ∀ w : Nat, 0 ≤ w → w < rows.length → dig (rd rows k) w = dig (rd rows w) k)) := by
      intro g hg
      refine Ev.step (fun k => impl_IsGraph.j2.eq_2 ..) ?_
      by_cases c : g = true
      · simp only [if_pos c]
        rw [decide_eq_false (fun a => hg.1 c (a v (Nat.le_refl _) (by omega)).1)]
        exact Ev.now _
      · simp only [if_neg c]
        have c2 : 0 ≤ rd rows v ∧ rd rows v < ((2 ^ n.toNat : Nat) : Int) ∧ dig (rd rows v) v = false := Classical.not_not.1 fun a => c (hg.2 a)
        refine ev_cast (impl_IsGraph.ev_1 n rows hn hn1 hl v (by omega) _ (ih (v + 1) (by omega)) rows.length 0 (by omega)) ?_
        refine dec_congr ?_
        constructor
        · rintro ⟨a1, a2⟩
          exact (scan_step (P := fun k : Nat => (0 ≤ rd rows k ∧ rd rows k < ((2 ^ n.toNat : Nat) : Int) ∧ dig (rd rows k) k = false) ∧ ∀ w : Nat, 0 ≤ w → w < rows.length → dig (rd rows k) w = dig (rd rows w) k) (i := v) ⟨c2, a1⟩).2 a2
        · intro a
          exact ⟨(a v (Nat.le_refl _) (by omega)).2, fun k hk hk1 => a k (by omega) hk1⟩
    by_cases c1 : rd rows v < 0
    · simp only [if_pos c1]
      exact key true ⟨fun _ a => by omega, fun _ => rfl⟩
    · simp only [if_neg c1]
      by_cases c2 : rd rows v ≥ ((2 ^ n.toNat : Nat) : Int)
      · simp only [if_pos c2]
        exact key true ⟨fun _ a => by omega, fun _ => rfl⟩
      · simp only [if_neg c2]
        exact key _ ⟨fun g a => by rw [a.2.2] at g; exact Bool.false_ne_true g, fun g => by
          by_cases h : dig (rd rows v) v = true
          · exact h
          · exact (g ⟨by omega, by omega, by simpa using h⟩).elim⟩
theorem isG_iff (n : Int) (rows : List Int) (hn : 1 ≤ n) (hn1 : n ≤ 62) (hl : (rows.length : Int) = n) :
    (∀ k : Nat, 0 ≤ k → k < rows.length → (0 ≤ rd rows k ∧ rd rows k < ((2 ^ n.toNat : Nat) : Int) ∧ dig (rd rows k) k = false) ∧ ∀ w : Nat, 0 ≤ w → w < rows.length → dig (rd rows k) w = dig (rd rows w) k) ↔ IsG n rows :=
  ⟨fun a => ⟨hn, hn1, hl, fun v hv => (a v (by omega) (by omega)).1, fun v w hv hw => (a v (by omega) (by omega)).2 w (by omega) (by omega)⟩,
    fun a k _ hk => ⟨a.2.2.2.1 k (by omega), fun w _ hw => a.2.2.2.2 k w (by omega) (by omega)⟩⟩
theorem impl_IsGraph.ev (n : Int) (rows : List Int) : Ev (fun q => impl_IsGraph.f q n rows) (decide (IsG n rows)) := by
  unfold impl_IsGraph.f
  by_cases h1 : n < 1
  · simp only [if_pos h1]
    refine Ev.step (fun k => impl_IsGraph.j0.eq_2 ..) ?_
    simp only [if_true]; rw [decide_eq_false (fun a => by have := a.1; omega)]; exact Ev.now _
  by_cases h2 : n > 62
  · simp only [if_neg h1, if_pos h2]
    refine Ev.step (fun k => impl_IsGraph.j0.eq_2 ..) ?_
    simp only [if_true]; rw [decide_eq_false (fun a => by have := a.2.1; omega)]; exact Ev.now _
  simp only [if_neg h1, if_neg h2]
  refine Ev.step (fun k => impl_IsGraph.j0.eq_2 ..) ?_
  by_cases h3 : (rows.length : Int) = n
  · simp only [h3, bne_self_eq_false, Bool.false_eq_true, if_false]
    have := impl_IsGraph.ev_0 n rows (by omega) (by omega) h3 rows.length 0 (by omega)
    rw [h3] at this
    refine ev_cast this ?_
    refine dec_congr ?_
    exact isG_iff n rows (by omega) (by omega) h3
  · simp only [bne_iff_ne, ne_eq, h3, not_false_eq_true, if_true]
    rw [decide_eq_false (fun a => h3 a.2.2.1)]
    exact Ev.now _

theorem impl_decimal.sp {n : Nat} (h : n < 100) : impl_decimal.f (n : Int) = some (mkB (dgt n)) := by
  unfold impl_decimal.f strconv_FormatInt.f
  rw [if_pos (by omega), if_pos (by omega), if_pos rfl, Int.toNat_natCast, dgt_dec h]
  rfl

theorem impl_pairsText.ev_l {E : List (List Int)} (hE : ∀ e ∈ E, EdgeOk e) (hn : E.length ≤ 100000) (d : Nat) : ∀ (i : Nat), i + d = E.length →
    Ev (fun k => impl_pairsText.l0 k (mkB [45]) ((E.take i).map fun e => mkB (ptx e)) E (E.length : Int) (i : Int)) (mkB (Lib.join (E.map ptx) [44])) := by
  induction d with
  | zero =>
    intro i h
    refine Ev.step (fun k => impl_pairsText.l0.eq_2 ..) ?_
    simp only [if_neg (show ¬ ((i : Int) < (E.length : Int)) by omega)]
    rw [List.take_of_length_le (by omega)]
    have hj := join_len E
    have hm : (E.map fun e => mkB (ptx e)).map (fun b : ByteArray => b.data.toList) = E.map ptx := by
      rw [List.map_map]; exact List.map_congr_left fun e _ => mkB_data _
    refine Ev.bind (ev_eq (r := mkB (Lib.join (E.map ptx) [44])) fun _ => ?_) (Ev.now _)
    unfold strings_Join.f
    rw [if_pos (by rw [List.length_map]; exact hn)]
    rw [hm, show ((⟨#[44]⟩ : ByteArray).data.toList) = [44] from rfl, if_pos (by omega)]
    rfl
  | succ d ih =>
    intro i h
    have hi : i < E.length := by omega
    obtain ⟨a, b, e1, ha, hb⟩ := hE _ (List.getElem_mem hi)
    have h2 := dgt_len a
    have h3 := dgt_len b
    refine Ev.step (fun k => impl_pairsText.l0.eq_2 ..) ?_
    simp only [if_pos (show (i : Int) < (E.length : Int) by omega), if_pos (show (0 : Int) ≤ (i : Int) by omega), gt_rd hi, e1, if_pos (show (0 : Int) < (([(a : Int), (b : Int)] : List Int).length : Int) by simp), if_pos (show (1 : Int) < (([(a : Int), (b : Int)] : List Int).length : Int) by simp)]
    rw [show rd ([(a : Int), (b : Int)] : List Int) 0 = (a : Int) from rfl, show rd ([(a : Int), (b : Int)] : List Int) 1 = (b : Int) from rfl]
    refine Ev.bind (ev_eq fun _ => impl_decimal.sp ha) ?_
    simp only [mkB_app, mkB_size, List.length_append, List.length_cons, List.length_nil, if_pos (show (dgt a).length + (0 + 1) ≤ 9223372036854775807 by omega)]
    refine Ev.bind (ev_eq fun _ => impl_decimal.sp hb) ?_
    simp only [mkB_app, mkB_size, List.length_append, List.length_cons, List.length_nil, List.length_map, List.length_take, if_pos (show (dgt a).length + (0 + 1) + (dgt b).length ≤ 9223372036854775807 by omega), if_pos (show min i E.length < 8796093022208 by omega)]
    rw [show wrap64 ((i : Int) + 1) = ((i + 1 : Nat) : Int) by unfold wrap64; omega]
    have ht : ((E.take (i + 1)).map fun e => mkB (ptx e)) = ((E.take i).map fun e => mkB (ptx e)) ++ [mkB (dgt a ++ [45] ++ dgt b)] := by
      rw [List.take_succ_eq_append_getElem hi, List.map_append, e1]
      simp [ptx, rd]
    rw [← ht]
    exact ih (i + 1) (by omega)
theorem impl_pairsText.ev {E : List (List Int)} (hE : ∀ e ∈ E, EdgeOk e) (hn : E.length ≤ 100000) : Ev (fun q => impl_pairsText.f q E (mkB [45])) (mkB (Lib.join (E.map ptx) [44])) := by
  unfold impl_pairsText.f
  exact impl_pairsText.ev_l hE hn E.length 0 (by omega)

theorem impl_graphText.ev {n : Int} {rows : List Int} (g : IsG n rows) : Ev (fun q => impl_graphText.f q n rows) (mkB (gtx n rows)) := by
  have hle := g.le
  have h1 := g.1
  obtain ⟨m, rfl⟩ := Int.eq_ofNat_of_zero_le (show 0 ≤ n by omega)
  have hm : m < 100 := by simp at hle; omega
  have hd := dgt_len m
  have hj := join_len (edgesFrom rows (m : Int).toNat (m : Int).toNat 0)
  have hf := edges_few g
  unfold impl_graphText.f
  refine Ev.bind (ev_eq fun _ => impl_decimal.sp hm) ?_
  simp only [mkB_size, if_pos (show (dgt m).length + 1 ≤ 9223372036854775807 by omega)]
  refine Ev.bind (impl_Graph_edges.ev g) ?_
  refine Ev.bind (impl_pairsText.ev (edges_ok g) (by omega)) ?_
  rw [show (⟨#[58]⟩ : ByteArray) = mkB [58] from rfl]
  simp only [mkB_app, mkB_size, List.length_append, List.length_cons, List.length_nil]
  rw [if_pos (by omega)]
  refine ev_some ?_
  unfold gtx
  rw [Int.toNat_natCast, List.append_assoc]

theorem impl_GraphText.ev (n : Int) (rows : List Int) : Ev (fun q => impl_GraphText.f q n rows) (gtxR n rows) := by
  unfold impl_GraphText.f gtxR
  refine Ev.bind (impl_IsGraph.ev n rows) ?_
  by_cases g : IsG n rows
  · simp only [decide_eq_true g, if_true, if_pos g]
    exact Ev.bind (impl_graphText.ev g) (Ev.now _)
  · simp only [decide_eq_false g, Bool.false_eq_true, if_false, if_neg g]
    exact Ev.now _

end Go.Proofs.YtockngphfpedkaaDoor.XFnExactGraphText
