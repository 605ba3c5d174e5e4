/- What the functions that FnExactCountShortest reaches compute. -/
import Derived.Test.YtggbhpjakakgeaaDoorXFnExactCountShortestx0
import Derived.Test.YtggbhpjakakgeaaDoorXFnExactCountShortestx1
import Derived.Test.YtggbhpjakakgeaaDoorXFnExactCountShortestx2
import Derived.Test.YtggbhpjakakgeaaDoorXFnExactCountShortestx3
import Derived.Test.YtggbhpjakakgeaaDoorXFnExactCountShortestx4
import Derived.Test.YtggbhpjakakgeaaDoorXFnExactCountShortestx5
import Derived.Test.YtggbhpjakakgeaaDoorXFnExactCountShortestx6
import Derived.Test.YtggbhpjakakgeaaDoorXFnExactCountShortestx7
import Derived.Test.YtggbhpjakakgeaaDoorXFnExactCountShortestx8
import Derived.Test.YtggbhpjakakgeaaDoorXFnExactCountShortestx9
import Derived.Test.YtggbhpjakakgeaaDoorXFnExactCountShortestx10
import Derived.Test.YtggbhpjakakgeaaDoorXFnExactCountShortestx11
import Derived.Test.YtggbhpjakakgeaaDoorGr
namespace Go.Proofs.YtggbhpjakakgeaaDoor.XFnExactCountShortest
open Go.RowKit Go.Proofs.YtggbhpjakakgeaaDoorW.PrintWords Go.Proofs.YtggbhpjakakgeaaDoorW.PrintLast Go.Proofs.YtggbhpjakakgeaaDoor.B
open Classical
set_option linter.unusedVariables false
set_option linter.unusedSimpArgs false
set_option linter.unusedSectionVars false

theorem laws_szInt64S.sp {l : List Int} {a : Int} (h : l.length ≤ 9223372036854775807) (ha : a ≤ 1048576) (ha0 : 0 ≤ a) :
    (laws_szInt64S.f l a = some (-1) ∧ a < l.length) ∨ (laws_szInt64S.f l a = some (a - l.length) ∧ (l.length : Int) ≤ a) := by
  unfold laws_szInt64S.f
  rw [w64 (by omega) (by omega)]
  by_cases c : a - (l.length : Int) < 0
  · rw [if_pos c]; exact .inl ⟨rfl, by omega⟩
  · rw [if_neg c]; exact .inr ⟨rfl, by omega⟩

theorem laws_szGraph.sp {n : Int} {l : List Int} {a : Int} (h : l.length ≤ 9223372036854775807) (ha : a ≤ 1048576) (ha0 : 0 ≤ a) :
    (laws_szGraph.f n l a = some (-1) ∧ a < l.length) ∨ (laws_szGraph.f n l a = some (a - l.length) ∧ (l.length : Int) ≤ a) := by
  unfold laws_szGraph.f
  rcases laws_szInt64S.sp h ha ha0 with ⟨e, c⟩ | ⟨e, c⟩
  · rw [e]; exact .inl ⟨by simp, c⟩
  · rw [e]
    refine .inr ⟨?_, c⟩
    simp only [Option.bind_some]
    rw [if_neg (by omega)]

theorem laws_toInt64S.ev_l (l : List Int) (hl : l.length ≤ 281474976710656) (d : Nat) : ∀ (i : Nat) (acc : List Int), acc.length = l.length → (∀ j, j < i → acc[j]? = l[j]?) → i + d = l.length →
    Ev (fun k => laws_toInt64S.l0 k l acc (i : Int)) l := by
  induction d with
  | zero =>
    intro i acc h1 h2 h3
    refine Ev.step (fun k => laws_toInt64S.l0.eq_2 ..) ?_
    simp only [if_neg (show ¬ ((i : Int) < (l.length : Int)) by omega)]
    refine ev_some (List.ext_getElem? fun j => ?_)
    by_cases hj : j < i
    · exact h2 j hj
    · rw [List.getElem?_eq_none (by omega), List.getElem?_eq_none (by omega)]
  | succ d ih =>
    intro i acc h1 h2 h3
    refine Ev.step (fun k => laws_toInt64S.l0.eq_2 ..) ?_
    simp only [if_pos (show (i : Int) < (l.length : Int) by omega), if_pos (show (0 : Int) ≤ (i : Int) by omega), if_pos (show (i : Int) < (acc.length : Int) by omega)]
    rw [w64 (by omega) (by omega)]
    have := ih (i + 1) (acc.set ((i : Int)).toNat (rd l i)) (by simp [h1]) (fun j hj => by
      rw [Int.toNat_natCast]
      by_cases e : i = j
      · subst e
        rw [List.getElem?_set_self (by omega), rd_get l i (by omega)]
        simp
      · rw [List.getElem?_set_ne e]
        exact h2 j (by omega)) (by omega)
    exact this
theorem laws_toInt64S.ev (l : List Int) (hl : l.length ≤ 35184372088832) : Ev (fun k => laws_toInt64S.f k l) l := by
  unfold laws_toInt64S.f
  simp only [if_pos (show (0 : Int) ≤ (l.length : Int) by omega), if_pos (show ((l.length : Int)).toNat ≤ 35184372088832 by omega)]
  exact laws_toInt64S.ev_l l (by omega) l.length 0 _ (by simp) (fun j hj => by omega) (by omega)

theorem laws_toGraph.ev (n : Int) (l : List Int) (hl : l.length ≤ 35184372088832) : Ev (fun k => laws_toGraph.f k n l) (n, l) := by
  unfold laws_toGraph.f
  exact Ev.bind (laws_toInt64S.ev l hl) (Ev.now _)

theorem laws_eqInt64S.ev_l (l : List Int) (hl : l.length ≤ 281474976710656) (d : Nat) : ∀ (i : Nat), i + d = l.length → Ev (fun k => laws_eqInt64S.l0 k l l (i : Int)) true := by
  induction d with
  | zero =>
    intro i h3
    refine Ev.step (fun k => laws_eqInt64S.l0.eq_2 ..) ?_
    simp only [if_neg (show ¬ ((i : Int) < (l.length : Int)) by omega)]
    exact Ev.now _
  | succ d ih =>
    intro i h3
    refine Ev.step (fun k => laws_eqInt64S.l0.eq_2 ..) ?_
    simp only [if_pos (show (i : Int) < (l.length : Int) by omega), if_pos (show (0 : Int) ≤ (i : Int) by omega), if_true]
    rw [w64 (by omega) (by omega)]
    exact ih (i + 1) (by omega)
theorem laws_eqInt64S.ev (l : List Int) (hl : l.length ≤ 281474976710656) : Ev (fun k => laws_eqInt64S.f k l l) true := by
  unfold laws_eqInt64S.f
  simp only [if_true]
  exact laws_eqInt64S.ev_l l hl l.length 0 (by omega)

theorem laws_eqGraph.ev (n : Int) (l : List Int) (hl : l.length ≤ 281474976710656) : Ev (fun k => laws_eqGraph.f k n l n l) true := by
  unfold laws_eqGraph.f
  simp only [if_true]
  exact Ev.bind (laws_eqInt64S.ev l hl) (Ev.now _)

theorem spec_l01In.sp (a b c : Int) : spec_l01In.f a b c = some (decide (b ≤ a ∧ a ≤ c)) := by
  unfold spec_l01In.f
  by_cases h : b ≤ a <;> simp [h]

theorem spec_l01Has.sp (n : Int) (rows : List Int) (a b : Int) (ha : 0 ≤ a) (ha1 : a < rows.length) (hb : 0 ≤ b) (hb1 : b ≤ 62) : spec_l01Has.f n rows a b = some (dig (rd rows a) b.toNat) := by
  unfold spec_l01Has.f
  rw [u64 hb (by omega), if_pos ha, if_pos ha1, if_pos hb, bit_dig hb (by omega)]

/-! spec.IsGraph -/
theorem spec_l01Is.ev_2 (n : Int) (rows : List Int) (hn1 : n ≤ 62) (hl : (rows.length : Int) = n) (v : Nat) (hv : (v : Int) < n)
    (F : Prop) (hF : Ev (fun q => spec_l01Is.l1 q ((v + 1 : Nat) : Int) n rows) (decide F)) (d : Nat) : ∀ w : Nat, w + d = v →
    Ev (fun q => spec_l01Is.l2 q (v : Int) (w : Int) n rows) (decide ((∀ k : Nat, w ≤ k → k < v → dig (rd rows v) k = dig (rd rows k) v) ∧ F)) := by
  induction d with
  | zero =>
    intro w e
    refine Ev.step (fun k => spec_l01Is.l2.eq_2 ..) ?_
    simp only [if_neg (show ¬ ((w : Int) < (v : Int)) by omega)]
    rw [w64 (by omega) (by omega)]
    refine ev_cast hF ?_
    refine dec_congr ?_
    exact ⟨fun a => ⟨scan_end (by omega), a⟩, fun a => a.2⟩
  | succ d ih =>
    intro w e
    refine Ev.step (fun k => spec_l01Is.l2.eq_2 ..) ?_
    rw [spec_l01Has.sp n rows v w (by omega) (by omega) (by omega) (by omega), spec_l01Has.sp n rows w v (by omega) (by omega) (by omega) (by omega), w64 (n := (w : Int) + 1) (by omega) (by omega)]
    simp only [if_pos (show (w : Int) < (v : Int) by omega), Option.bind_some, Int.toNat_natCast]
    by_cases c : dig (rd rows v) w = dig (rd rows w) v
    · simp only [c, bne_self_eq_false, Bool.false_eq_true, if_false]
      refine ev_cast (ih (w + 1) (by omega)) ?_
      refine dec_congr ?_
      rw [scan_step (P := fun k : Nat => dig (rd rows v) k = dig (rd rows k) v) c]
    · simp only [bne_iff_ne, ne_eq, c, not_false_eq_true, if_true]
      rw [decide_eq_false (fun a => c (a.1 w (Nat.le_refl _) (by omega)))]
      exact Ev.now _
theorem spec_l01Is.ev_1 (n : Int) (rows : List Int) (hn1 : n ≤ 62) (hl : (rows.length : Int) = n) (d : Nat) : ∀ v : Nat, v + d = rows.length →
    Ev (fun q => spec_l01Is.l1 q (v : Int) n rows) (decide (∀ k : Nat, v ≤ k → k < rows.length → ∀ w : Nat, 0 ≤ w → w < k → dig (rd rows k) w = dig (rd rows w) k)) := by
  induction d with
  | zero =>
    intro v e
    refine Ev.step (fun k => spec_l01Is.l1.eq_2 ..) ?_
    simp only [if_neg (show ¬ ((v : Int) < n) by omega)]
    rw [decide_eq_true (scan_end (by omega))]
    exact Ev.now _
  | succ d ih =>
    intro v e
    refine Ev.step (fun k => spec_l01Is.l1.eq_2 ..) ?_
    simp only [if_pos (show (v : Int) < n by omega)]
    refine ev_cast (spec_l01Is.ev_2 n rows hn1 hl v (by omega) _ (ih (v + 1) (by omega)) v 0 (by omega)) ?_
    refine dec_congr ?_
    constructor
    · rintro ⟨a1, a2⟩
      exact (scan_step (P := fun k : Nat => ∀ w : Nat, 0 ≤ w → w < k → dig (rd rows k) w = dig (rd rows w) k) (i := v) a1).2 a2
    · intro a
      exact ⟨a v (Nat.le_refl _) (by omega), fun k hk hk1 => a k (by omega) hk1⟩
theorem spec_l01Is.ev_0 (n : Int) (rows : List Int) (hn : 1 ≤ n) (hn1 : n ≤ 62) (hl : (rows.length : Int) = n) (d : Nat) : ∀ v : Nat, v + d = rows.length →
    Ev (fun q => spec_l01Is.l0 q (v : Int) n rows) (decide ((∀ k : Nat, v ≤ k → k < rows.length → 0 ≤ rd rows k ∧ rd rows k < ((2 ^ n.toNat : Nat) : Int) ∧ dig (rd rows k) k = false) ∧
      ∀ k : Nat, 0 ≤ k → k < rows.length → ∀ w : Nat, 0 ≤ w → w < k → dig (rd rows k) w = dig (rd rows w) k)) := by
  have hp : 1 ≤ 2 ^ n.toNat := Nat.one_le_two_pow
  have hq := pow62 (n := n.toNat) (by omega)
  induction d with
  | zero =>
    intro v e
    refine Ev.step (fun k => spec_l01Is.l0.eq_2 ..) ?_
    simp only [if_neg (show ¬ ((v : Int) < n) by omega)]
    refine ev_cast (spec_l01Is.ev_1 n rows hn1 hl rows.length 0 (by omega)) ?_
    refine dec_congr ?_
    exact ⟨fun a => ⟨scan_end (by omega), a⟩, fun a => a.2⟩
  | succ d ih =>
    intro v e
    refine Ev.step (fun k => spec_l01Is.l0.eq_2 ..) ?_
    rw [u64 (by omega) (by omega), shl_one (by omega) hn1, w64 (by omega) (by omega), w64 (n := (v : Int) + 1) (by omega) (by omega), spec_l01Has.sp n rows v v (by omega) (by omega) (by omega) (by omega), Int.toNat_natCast]
    simp only [if_pos (show (v : Int) < n by omega), if_pos (show (0 : Int) ≤ (v : Int) by omega), if_pos (show (v : Int) < (rows.length : Int) by omega), if_pos (show 0 ≤ n by omega), spec_l01In.sp, Option.bind_some, decide_eq_true_eq]
    by_cases c1 : 0 ≤ rd rows v ∧ rd rows v ≤ ((2 ^ n.toNat : Nat) : Int) - 1
    · simp only [if_pos c1]
      by_cases c2 : dig (rd rows v) v = true
      · simp only [if_pos c2]
        rw [decide_eq_false (fun a => by have := (a.1 v (Nat.le_refl _) (by omega)).2.2; rw [c2] at this; cases this)]
        exact Ev.now _
      · simp only [if_neg c2]
        refine ev_cast (ih (v + 1) (by omega)) ?_
        refine dec_congr ?_
        rw [scan_step (P := fun k : Nat => 0 ≤ rd rows k ∧ rd rows k < ((2 ^ n.toNat : Nat) : Int) ∧ dig (rd rows k) k = false) (i := v) ⟨c1.1, by omega, by simpa using c2⟩]
    · simp only [if_neg c1]
      rw [decide_eq_false (fun a => by have := a.1 v (Nat.le_refl _) (by omega); omega)]
      exact Ev.now _
theorem isG_iff' (n : Int) (rows : List Int) (hn : 1 ≤ n) (hn1 : n ≤ 62) (hl : (rows.length : Int) = n) :
    ((∀ k : Nat, 0 ≤ k → k < rows.length → 0 ≤ rd rows k ∧ rd rows k < ((2 ^ n.toNat : Nat) : Int) ∧ dig (rd rows k) k = false) ∧
      ∀ k : Nat, 0 ≤ k → k < rows.length → ∀ w : Nat, 0 ≤ w → w < k → dig (rd rows k) w = dig (rd rows w) k) ↔ IsG n rows := by
  constructor
  · rintro ⟨a, b⟩
    refine ⟨hn, hn1, hl, fun v hv => a v (by omega) (by omega), fun v w hv hw => ?_⟩
    rcases Nat.lt_trichotomy v w with h | h | h
    · exact (b w (by omega) (by omega) v (by omega) h).symm
    · rw [h]
    · exact b v (by omega) (by omega) w (by omega) h
  · intro a
    exact ⟨fun k _ hk => a.2.2.2.1 k (by omega), fun k _ hk w _ hw => a.2.2.2.2 k w (by omega) (by omega)⟩
theorem spec_l01Is.ev (n : Int) (rows : List Int) : Ev (fun q => spec_l01Is.f q n rows) (decide (IsG n rows)) := by
  unfold spec_l01Is.f
  simp only [spec_l01In.sp, Option.bind_some, decide_eq_true_eq]
  by_cases h1 : 1 ≤ n ∧ n ≤ 62
  · simp only [if_pos h1]
    refine Ev.step (fun k => spec_l01Is.j0.eq_2 ..) ?_
    by_cases h3 : (rows.length : Int) = n
    · simp only [h3, bne_self_eq_false, Bool.false_eq_true, if_false]
      refine ev_cast (spec_l01Is.ev_0 n rows h1.1 h1.2 h3 rows.length 0 (by omega)) ?_
      refine dec_congr ?_
      exact isG_iff' n rows h1.1 h1.2 h3
    · simp only [bne_iff_ne, ne_eq, h3, not_false_eq_true, if_true]
      rw [decide_eq_false (fun a => h3 a.2.2.1)]
      exact Ev.now _
  · simp only [if_neg h1]
    refine Ev.step (fun k => spec_l01Is.j0.eq_2 ..) ?_
    simp only [if_true]
    rw [decide_eq_false (fun a => h1 ⟨a.1, a.2.1⟩)]
    exact Ev.now _

/-! ### ways in a graph -/
inductive Way (rows : List Int) (n : Nat) (u : Nat) : Nat → Prop
  | refl : Way rows n u u
  | step {v w : Nat} : Way rows n u v → v < n → w < n → Adj rows v w → Way rows n u w
theorem Way.lt {rows : List Int} {n u w : Nat} (h : Way rows n u w) (hu : u < n) : w < n := by
  cases h with
  | refl => exact hu
  | step _ _ b _ => exact b
theorem Way.trans {rows : List Int} {n u v w : Nat} (h : Way rows n u v) (k : Way rows n v w) : Way rows n u w := by
  induction k with
  | refl => exact h
  | step _ a b c ih => exact .step ih a b c
theorem Way.symm {rows : List Int} {n : Int} (g : IsG n rows) {u v : Nat} (h : Way rows n.toNat u v) : Way rows n.toNat v u := by
  induction h with
  | refl => exact .refl
  | step _ a b c ih => exact (Way.step .refl b a ((g.symm a b).1 c)).trans ih
theorem IsG_row {n : Int} {rows : List Int} (h : IsG n rows) {v : Int} (h0 : 0 ≤ v) (h1 : v < n) : ∃ x : Nat, rd rows v = (x : Int) ∧ x < 2 ^ n.toNat := by
  obtain ⟨u, rfl⟩ := Int.eq_ofNat_of_zero_le h0
  obtain ⟨a, b, _⟩ := h.2.2.2.1 u h1
  obtain ⟨x, hx⟩ := Int.eq_ofNat_of_zero_le a
  exact ⟨x, hx, by rw [hx] at b; exact_mod_cast b⟩
/-- A set that holds v, is closed, and holds none but what v reaches, is what v reaches. -/
theorem closed_way {rows : List Int} {n v : Nat} {P : Nat → Prop} (h0 : P v) (h1 : ∀ x y, x < n → y < n → P x → Adj rows x y → P y) : ∀ w, Way rows n v w → P w := by
  intro w h
  induction h with
  | refl => exact h0
  | step _ a b c ih => exact h1 _ _ a b ih c

/-! ### walks by their lengths -/
def Wk (E : Nat → Nat → Prop) (n v : Nat) : Nat → Nat → Prop
  | 0, w => w = v
  | d + 1, w => w < n ∧ ∃ u, u < n ∧ Wk E n v d u ∧ E u w
theorem Wk.lt {E : Nat → Nat → Prop} {n v d w : Nat} (hv : v < n) (h : Wk E n v d w) : w < n := by
  cases d with
  | zero => rw [Wk] at h; rw [h]; exact hv
  | succ d => exact h.1
/-- w lies d steps from v, not fewer. -/
def AtD (E : Nat → Nat → Prop) (n v d w : Nat) : Prop := Wk E n v d w ∧ ∀ e, e < d → ¬ Wk E n v e w
theorem least_of {P : Nat → Prop} (d : Nat) (h : P d) : ∃ e, e ≤ d ∧ P e ∧ ∀ x, x < e → ¬ P x := by
  induction d using Nat.strongRecOn with
  | _ d ih =>
    by_cases c : ∃ e, e < d ∧ P e
    · obtain ⟨e, a, b⟩ := c
      obtain ⟨x, p, q, r⟩ := ih e a b
      exact ⟨x, by omega, q, r⟩
    · exact ⟨d, Nat.le_refl _, h, fun x hx p => c ⟨x, hx, p⟩⟩
theorem AtD.pred {E : Nat → Nat → Prop} {n v d w : Nat} (h : AtD E n v (d + 1) w) : w < n ∧ ∃ u, u < n ∧ AtD E n v d u ∧ E u w := by
  obtain ⟨⟨a, u, b, c, e⟩, f⟩ := h
  exact ⟨a, u, b, ⟨c, fun x hx p => f (x + 1) (by omega) ⟨a, u, b, p, e⟩⟩, e⟩
theorem AtD.down {E : Nat → Nat → Prop} {n v d : Nat} (k : Nat) : ∀ {w : Nat}, AtD E n v (d + k) w → ∃ u, AtD E n v d u := by
  induction k with
  | zero => intro w h; exact ⟨w, h⟩
  | succ k ih => intro w h; obtain ⟨_, u, _, b, _⟩ := AtD.pred (d := d + k) h; exact ih b
/-- x is the distance of w from v, -1 if there is no way. -/
def DistIs (E : Nat → Nat → Prop) (n v w : Nat) (x : Int) : Prop := (x = -1 ∧ ∀ d, ¬ Wk E n v d w) ∨ ∃ d : Nat, x = (d : Int) ∧ AtD E n v d w
theorem DistIs.uniq {E : Nat → Nat → Prop} {n v w : Nat} {x y : Int} (h : DistIs E n v w x) (k : DistIs E n v w y) : x = y := by
  rcases h with ⟨a, b⟩ | ⟨d, a, b⟩
  · rcases k with ⟨c, _⟩ | ⟨e, _, f⟩
    · rw [a, c]
    · exact absurd f.1 (b e)
  · rcases k with ⟨_, c⟩ | ⟨e, c, f⟩
    · exact absurd b.1 (c d)
    · rcases Nat.lt_trichotomy d e with g | g | g
      · exact absurd b.1 (f.2 d g)
      · rw [a, c, g]
      · exact absurd f.1 (b.2 e g)
theorem dist_exists (E : Nat → Nat → Prop) (n v w : Nat) : ∃ x, DistIs E n v w x := by
  by_cases c : ∃ d, Wk E n v d w
  · obtain ⟨d, h⟩ := c
    obtain ⟨e, _, a, b⟩ := least_of (P := fun d => Wk E n v d w) d h
    exact ⟨e, .inr ⟨e, rfl, a, b⟩⟩
  · exact ⟨-1, .inl ⟨rfl, fun d h => c ⟨d, h⟩⟩⟩
noncomputable def distL (E : Nat → Nat → Prop) (n v : Nat) : List Int := (List.range n).map fun w => Classical.choose (dist_exists E n v w)
theorem distL_length (E : Nat → Nat → Prop) (n v : Nat) : (distL E n v).length = n := by simp [distL]
theorem distL_at (E : Nat → Nat → Prop) {n w : Nat} (v : Nat) (hw : w < n) : DistIs E n v w (rd (distL E n v) (w : Int)) := by
  have : rd (distL E n v) (w : Int) = Classical.choose (dist_exists E n v w) := by rw [rd_nat]; simp [distL, hw]
  rw [this]
  exact Classical.choose_spec (dist_exists E n v w)
theorem distL_eq {E : Nat → Nat → Prop} {n v : Nat} {L : List Int} (hl : L.length = n) (h : ∀ w, w < n → DistIs E n v w (rd L (w : Int))) : L = distL E n v :=
  list_ext_rd (by rw [hl, distL_length]) fun w hw => (h w (by omega)).uniq (distL_at E v (by omega))

/-- The edges of rows, less the one between a and b. -/
def AdjX (rows : List Int) (a b : Int) (u w : Nat) : Prop := Adj rows u w ∧ ¬ (((u : Int) = a ∧ (w : Int) = b) ∨ ((u : Int) = b ∧ (w : Int) = a))
/-- The breadth-first search from v: entries L, queue Q; the queue's first i elements are done. -/
structure Bf (E : Nat → Nat → Prop) (n v : Nat) (L Q : List Int) (i : Nat) : Prop where
  len : L.length = n
  elem : ∀ j : Nat, j < Q.length → ∃ u : Nat, rd Q (j : Int) = (u : Int) ∧ u < n ∧ ∃ d : Nat, rd L (u : Int) = (d : Int) ∧ Wk E n v d u
  out : ∀ w : Nat, w < n → (w : Int) ∈ Q ∨ rd L (w : Int) = -1
  mono : ∀ j k : Nat, j ≤ k → k < Q.length → rd L (rd Q (j : Int)) ≤ rd L (rd Q (k : Int))
  cap : ∀ j : Nat, j < Q.length → i < Q.length → rd L (rd Q (j : Int)) ≤ rd L (rd Q (i : Int)) + 1
  done : ∀ j : Nat, j < i → j < Q.length → ∀ u : Nat, rd Q (j : Int) = (u : Int) → ∀ w, w < n → E u w → (w : Int) ∈ Q ∧ rd L (w : Int) ≤ rd L (u : Int) + 1
  first : (v : Int) ∈ Q ∧ rd L (v : Int) = 0
  size : Q.length + L.countP (fun x => decide (x < 0)) ≤ n
  bd : ∀ w : Nat, w < n → rd L (w : Int) ≤ Q.length
theorem rd_app {l m : List Int} {k : Nat} (h : k < l.length) : rd (l ++ m) (k : Int) = rd l (k : Int) := by
  rw [rd_nat, rd_nat, List.getD_eq_getElem?_getD, List.getD_eq_getElem?_getD, List.getElem?_append_left h]
theorem rd_last (l : List Int) (x : Int) : rd (l ++ [x]) (l.length : Int) = x := by
  rw [rd_nat]; simp
/-- One vertex more in the queue. -/
theorem Bf.push {E : Nat → Nat → Prop} {n v : Nat} {L Q : List Int} {i : Nat} (h : Bf E n v L Q i) (hi : i < Q.length) {u w : Nat} (hu : rd Q (i : Int) = (u : Int)) (hw : w < n) (hE : E u w) (hL : rd L (w : Int) < 0) :
    Bf E n v (L.set w (rd L (u : Int) + 1)) (Q ++ [(w : Int)]) i := by
  have hlen := h.len
  have hwl : w < L.length := by omega
  have notin : (w : Int) ∉ Q := fun a => by
    obtain ⟨k, hk, hr⟩ := mem_rd.1 a
    obtain ⟨x, a, _, d, b, _⟩ := h.elem k hk
    have : x = w := by omega
    subst this
    omega
  have hLw : rd L (w : Int) = -1 := (h.out w hw).resolve_left notin
  obtain ⟨u', a1, hun, du, hdu, hWu⟩ := h.elem i hi
  have : u' = u := by omega
  subst this
  have old : ∀ j : Nat, j < Q.length → rd (L.set w (rd L (u' : Int) + 1)) (rd Q (j : Int)) = rd L (rd Q (j : Int)) := fun j hj => by
    obtain ⟨x, a, _, _⟩ := h.elem j hj
    rw [a]
    refine rd_set_ne _ _ _ (fun e => notin ?_) _
    rw [show (w : Int) = rd Q (j : Int) by rw [a, e]]
    exact rd_mem (by omega) (by omega)
  have self := rd_set_self L w hwl (rd L (u' : Int) + 1)
  have ui : rd L (rd Q (i : Int)) = rd L (u' : Int) := by rw [a1]
  have val : ∀ j : Nat, j < (Q ++ [(w : Int)]).length → rd (L.set w (rd L (u' : Int) + 1)) (rd (Q ++ [(w : Int)]) (j : Int)) = if j < Q.length then rd L (rd Q (j : Int)) else rd L (u' : Int) + 1 := fun j hj => by
    by_cases c : j < Q.length
    · rw [if_pos c, rd_app c, old j c]
    · have : j = Q.length := by rw [List.length_append] at hj; simp only [List.length_cons, List.length_nil] at hj; omega
      subst this
      rw [if_neg c, rd_last, self]
  refine ⟨by rw [List.length_set]; exact hlen, fun j hj => ?_, fun x hx => ?_, fun j k hjk hk => ?_, fun j hj _ => ?_, fun j hj hj2 x hx y hy hxy => ?_, ⟨List.mem_append_left _ h.first.1, ?_⟩, ?_, fun x hx => ?_⟩
  · by_cases c : j < Q.length
    · obtain ⟨x, a, b, d, e, f⟩ := h.elem j c
      refine ⟨x, by rw [rd_app c]; exact a, b, d, ?_, f⟩
      have := old j c
      rw [a] at this
      rw [this, e]
    · have : j = Q.length := by rw [List.length_append] at hj; simp only [List.length_cons, List.length_nil] at hj; omega
      subst this
      exact ⟨w, rd_last _ _, hw, du + 1, by rw [self, hdu]; omega, hw, u', hun, hWu, hE⟩
  · by_cases c : x = w
    · subst c; exact .inl (by simp)
    · rcases h.out x hx with a | a
      · exact .inl (List.mem_append_left _ a)
      · exact .inr (by rw [rd_set_ne _ _ _ (fun e => c e.symm)]; exact a)
  · rw [val j (by omega), val k hk]
    by_cases c : k < Q.length
    · rw [if_pos c, if_pos (by omega)]; exact h.mono j k hjk c
    · rw [if_neg c]
      by_cases c2 : j < Q.length
      · rw [if_pos c2]; have := h.cap j c2 hi; omega
      · rw [if_neg c2]; exact Int.le_refl _
  · have e : rd (Q ++ [(w : Int)]) (i : Int) = rd Q (i : Int) := rd_app hi
    rw [val j hj, e, old i hi]
    by_cases c : j < Q.length
    · rw [if_pos c]; exact h.cap j c hi
    · rw [if_neg c]; omega
  · have hjQ : j < Q.length := by omega
    rw [rd_app hjQ] at hx
    obtain ⟨a, b⟩ := h.done j hj hjQ x hx y hy hxy
    have xo := old j hjQ
    rw [hx] at xo
    have yw : y ≠ w := fun e => notin (e ▸ a)
    exact ⟨List.mem_append_left _ a, by rw [xo, rd_set_ne _ _ _ (fun e => yw e.symm)]; exact b⟩
  · have vw : v ≠ w := fun e => notin (e ▸ h.first.1)
    rw [rd_set_ne _ _ _ (fun e => vw e.symm)]; exact h.first.2
  · have hs := h.size
    rw [List.countP_set hwl, List.length_append]
    have ly : L[w] = -1 := by rw [← rd_get L w hwl]; exact hLw
    have cp : 1 ≤ L.countP (fun x => decide (x < 0)) := List.countP_pos_iff.2 ⟨L[w], List.getElem_mem hwl, by rw [ly]; rfl⟩
    rw [ly, if_pos (by decide), if_neg (by simp; omega)]
    simp only [List.length_cons, List.length_nil]
    omega
  · rw [List.length_append]
    simp only [List.length_cons, List.length_nil]
    by_cases c : x = w
    · subst c
      rw [self]
      have := h.bd u' hun
      omega
    · rw [rd_set_ne _ _ _ (fun e => c e.symm)]
      have := h.bd x hx
      omega
/-- At the end the entries are the distances. -/
theorem Bf.fin {E : Nat → Nat → Prop} {n v : Nat} (hv : v < n) {L Q : List Int} (h : Bf E n v L Q Q.length) : L = distL E n v := by
  have reach : ∀ d w, Wk E n v d w → (w : Int) ∈ Q ∧ rd L (w : Int) ≤ d := by
    intro d
    induction d with
    | zero => intro w hw; rw [Wk] at hw; subst hw; exact ⟨h.first.1, by rw [h.first.2]; omega⟩
    | succ d ih =>
      rintro w ⟨hw, u, hu, hWu, hE⟩
      obtain ⟨a, b⟩ := ih u hWu
      obtain ⟨k, hk, hr⟩ := mem_rd.1 a
      obtain ⟨c, e⟩ := h.done k hk hk u hr w hw hE
      exact ⟨c, by omega⟩
  refine distL_eq h.len fun w hw => ?_
  rcases h.out w hw with a | a
  · obtain ⟨k, hk, hr⟩ := mem_rd.1 a
    obtain ⟨u, b, _, d, c, e⟩ := h.elem k hk
    have : u = w := by omega
    subst this
    refine .inr ⟨d, c, e, fun x hx p => ?_⟩
    have := (reach x u p).2
    omega
  · refine .inl ⟨a, fun d p => ?_⟩
    obtain ⟨b, _⟩ := reach d w p
    obtain ⟨k, hk, hr⟩ := mem_rd.1 b
    obtain ⟨u, e, _, x, c, _⟩ := h.elem k hk
    have : u = w := by omega
    subst this
    omega
section
variable {n : Int} {rows : List Int} (g : IsG n rows) (a b : Int) {v : Nat} (hv : v < n.toNat)
include g hv
theorem spec_l02From.ev_2 {i u : Nat} (hun : u < n.toNat) (R : List Int)
    (next : ∀ L Q, Bf (AdjX rows a b) n.toNat v L Q i → i < Q.length → rd Q (i : Int) = (u : Int) → (∀ w, w < n.toNat → AdjX rows a b u w → (w : Int) ∈ Q ∧ rd L (w : Int) ≤ rd L (u : Int) + 1) → Ev (fun q => spec_l02From.l1 q a b L Q ((i : Int) + 1) n rows) R) (d : Nat) :
    ∀ (j : Nat) (L Q : List Int), j + d = n.toNat → Bf (AdjX rows a b) n.toNat v L Q i → i < Q.length → rd Q (i : Int) = (u : Int) → (∀ w, w < j → AdjX rows a b u w → (w : Int) ∈ Q ∧ rd L (w : Int) ≤ rd L (u : Int) + 1) →
      Ev (fun q => spec_l02From.l2 q a b L Q (i : Int) (u : Int) (j : Int) n rows) R := by
  have hn := g.le
  have h1 := g.1
  have hrl := g.len
  induction d with
  | zero =>
    intro j L Q e h hi hu hj
    refine Ev.step (fun k => spec_l02From.l2.eq_2 ..) ?_
    have hs := h.size
    simp only [if_neg (show ¬ ((j : Int) < n) by omega)]
    rw [w64 (by omega) (by omega)]
    exact next L Q h hi hu fun w hw => hj w (by omega)
  | succ d ih =>
    intro j L Q e h hi hu hj
    refine Ev.step (fun k => spec_l02From.l2.eq_2 ..) ?_
    have hlen := h.len
    have hs := h.size
    have hbd := h.bd u hun
    have hjn : j < n.toNat := by omega
    obtain ⟨u', a1, _, du, hdu, _⟩ := h.elem i hi
    have : u' = u := by omega
    subst this
    have hbit := bit_dig (r := rd rows (u' : Int)) (v := (j : Int)) (by omega) (by omega)
    rw [Int.toNat_natCast] at hbit
    have hval := bit_val (r := rd rows (u' : Int)) (v := (j : Int)) (by omega) (by omega)
    rw [Int.toNat_natCast] at hval
    rw [u64 (by omega) (by omega), w64 (n := (j : Int) + 1) (by omega) (by omega), w64 (n := rd L (u' : Int) + 1) (by omega) (by omega), hval]
    simp only [if_pos (show (j : Int) < n by omega), if_pos (show (0 : Int) ≤ (u' : Int) by omega), if_pos (show (u' : Int) < (rows.length : Int) by omega), if_pos (show (0 : Int) ≤ (j : Int) by omega), if_pos (show (j : Int) < (L.length : Int) by omega), if_pos (show (u' : Int) < (L.length : Int) by omega), if_pos (show Q.length < 17592186044416 by omega), Int.toNat_natCast]
    have skip : ¬ (AdjX rows a b u' j ∧ rd L (j : Int) < 0) → Ev (fun q => spec_l02From.l2 q a b L Q (i : Int) (u' : Int) ((j : Int) + 1) n rows) R := fun no =>
      ih (j + 1) L Q (by omega) h hi hu fun w hw hE => by
        rcases Nat.lt_succ_iff_lt_or_eq.1 hw with x | rfl
        · exact hj w x hE
        · have hin : (w : Int) ∈ Q := (h.out w hjn).resolve_right fun z => no ⟨hE, by omega⟩
          obtain ⟨k, hk, hr⟩ := mem_rd.1 hin
          have := h.cap k hk hi
          rw [hr, hu] at this
          exact ⟨hin, this⟩
    have push : AdjX rows a b u' j → rd L (j : Int) < 0 → Ev (fun q => spec_l02From.l2 q a b (L.set j (rd L (u' : Int) + 1)) (Q ++ [(j : Int)]) (i : Int) (u' : Int) ((j : Int) + 1) n rows) R := fun hE hneg => by
      have hp := h.push hi hu hjn hE hneg
      have ju : u' ≠ j := fun z => by rw [z] at hdu; omega
      have us : rd (L.set j (rd L (u' : Int) + 1)) (u' : Int) = rd L (u' : Int) := rd_set_ne _ _ _ (fun z => ju z.symm) _
      refine ih (j + 1) _ _ (by omega) hp (by rw [List.length_append]; omega) (by rw [rd_app hi]; exact hu) fun w hw hEw => ?_
      rw [us]
      rcases Nat.lt_succ_iff_lt_or_eq.1 hw with x | rfl
      · obtain ⟨p, q⟩ := hj w x hEw
        exact ⟨List.mem_append_left _ p, by rw [rd_set_ne _ _ _ (by omega)]; exact q⟩
      · exact ⟨by simp, by rw [rd_set_self _ _ (by omega)]; exact Int.le_refl _⟩
    by_cases c0 : dig (rd rows (u' : Int)) j = true
    · simp only [if_pos c0, if_neg (show ¬ ((1 : Int) = 0) by decide)]
      by_cases c1 : rd L (j : Int) ≥ 0
      · simp only [if_pos c1]
        exact skip fun z => by omega
      · simp only [if_neg c1]
        by_cases c2 : (u' : Int) = a
        · simp only [if_pos c2]
          by_cases c3 : (j : Int) = b
          · simp only [if_pos c3]
            exact skip fun z => z.1.2 (.inl ⟨c2, c3⟩)
          · simp only [if_neg c3]
            by_cases c4 : (u' : Int) = b
            · simp only [if_pos c4]
              by_cases c5 : (j : Int) = a
              · simp only [if_pos c5]
                exact skip fun z => z.1.2 (.inr ⟨c4, c5⟩)
              · simp only [if_neg c5]
                exact push ⟨c0, fun z => z.elim (fun z => c3 z.2) fun z => c5 z.2⟩ (by omega)
            · simp only [if_neg c4]
              exact push ⟨c0, fun z => z.elim (fun z => c3 z.2) fun z => c4 z.1⟩ (by omega)
        · simp only [if_neg c2]
          by_cases c4 : (u' : Int) = b
          · simp only [if_pos c4]
            by_cases c5 : (j : Int) = a
            · simp only [if_pos c5]
              exact skip fun z => z.1.2 (.inr ⟨c4, c5⟩)
            · simp only [if_neg c5]
              exact push ⟨c0, fun z => z.elim (fun z => c2 z.1) fun z => c5 z.2⟩ (by omega)
          · simp only [if_neg c4]
            exact push ⟨c0, fun z => z.elim (fun z => c2 z.1) fun z => c4 z.1⟩ (by omega)
    · simp only [if_neg c0, if_pos (show (0 : Int) = 0 from rfl)]
      exact skip fun z => c0 z.1.1
theorem spec_l02From.ev_1 (d : Nat) : ∀ (i : Nat) (L Q : List Int), n.toNat ≤ i + d → Bf (AdjX rows a b) n.toNat v L Q i → i ≤ Q.length → Ev (fun q => spec_l02From.l1 q a b L Q (i : Int) n rows) (distL (AdjX rows a b) n.toNat v) := by
  have hn := g.le
  have fin : ∀ (L Q : List Int), Bf (AdjX rows a b) n.toNat v L Q Q.length → Ev (fun q => spec_l02From.l1 q a b L Q (Q.length : Int) n rows) (distL (AdjX rows a b) n.toNat v) := by
    intro L Q h
    refine Ev.step (fun k => spec_l02From.l1.eq_2 ..) ?_
    simp only [if_neg (show ¬ ((Q.length : Int) < (Q.length : Int)) by omega)]
    exact ev_some (h.fin hv)
  induction d with
  | zero =>
    intro i L Q e h hi
    have := h.size
    have : i = Q.length := by omega
    subst this
    exact fin L Q h
  | succ d ih =>
    intro i L Q e h hi
    by_cases c : i = Q.length
    · subst c; exact fin L Q h
    · have hs := h.size
      refine Ev.step (fun k => spec_l02From.l1.eq_2 ..) ?_
      obtain ⟨u, hu, hun, _⟩ := h.elem i (by omega)
      simp only [if_pos (show (i : Int) < (Q.length : Int) by omega), if_pos (show (0 : Int) ≤ (i : Int) by omega), hu]
      refine spec_l02From.ev_2 g a b hv hun _ (fun L' Q' h' hi' hu' hd => ?_) n.toNat 0 L Q (by omega) h (by omega) hu (fun w hw => by omega)
      refine ih (i + 1) L' Q' (by omega) ⟨h'.len, h'.elem, h'.out, h'.mono, fun j hj hi2 => ?_, fun j hj hj2 x hx w hw hE => ?_, h'.first, h'.size, h'.bd⟩ (by omega)
      · have p := h'.cap j hj hi'
        have q := h'.mono i (i + 1) (by omega) hi2
        omega
      · rcases Nat.lt_succ_iff_lt_or_eq.1 hj with y | rfl
        · exact h'.done j y hj2 x hx w hw hE
        · have : x = u := by omega
          subst this
          exact hd w hw hE
theorem spec_l02From.ev_0 (d : Nat) : ∀ (i : Nat), i + d = n.toNat → Ev (fun q => spec_l02From.l0 q (v : Int) a b (List.replicate i (-1)) (i : Int) n rows) (distL (AdjX rows a b) n.toNat v) := by
  have hn := g.le
  have h1 := g.1
  induction d with
  | zero =>
    intro i e
    have : i = n.toNat := by omega
    subst this
    refine Ev.step (fun k => spec_l02From.l0.eq_2 ..) ?_
    simp only [if_neg (show ¬ ((n.toNat : Int) < n) by omega), if_pos (show (0 : Int) ≤ (v : Int) by omega), List.length_replicate, if_pos (show (v : Int) < (n.toNat : Int) by omega), Int.toNat_natCast]
    have hvl : v < (List.replicate n.toNat (-1 : Int)).length := by simpa using hv
    have self := rd_set_self (List.replicate n.toNat (-1 : Int)) v hvl 0
    refine spec_l02From.ev_1 g a b hv n.toNat 0 _ [(v : Int)] (by omega) ⟨by simp, fun j hj => ?_, fun w hw => ?_, fun j k hjk hk => ?_, fun j hj _ => ?_, fun j hj => by omega, ⟨by simp, self⟩, ?_, fun w hw => ?_⟩ (by simp)
    · have : j = 0 := by simp only [List.length_cons, List.length_nil] at hj; omega
      subst this
      exact ⟨v, rfl, hv, 0, self, rfl⟩
    · by_cases c : w = v
      · subst c; exact .inl (by simp)
      · refine .inr ?_
        rw [rd_set_ne _ _ _ (fun z => c z.symm), rd_nat]; simp [hw]
    · have hj0 : j = 0 := by simp only [List.length_cons, List.length_nil] at hk; omega
      have hk0 : k = 0 := by simp only [List.length_cons, List.length_nil] at hk; omega
      subst hj0; subst hk0; exact Int.le_refl _
    · have hj0 : j = 0 := by simp only [List.length_cons, List.length_nil] at hj; omega
      subst hj0; omega
    · have cl := List.countP_le_length (p := fun x : Int => decide (x < 0)) (l := List.replicate n.toNat (-1 : Int))
      rw [List.countP_set hvl]
      have ly : (List.replicate n.toNat (-1 : Int))[v] = -1 := by simp
      rw [ly, if_pos (by decide), if_neg (by decide)]
      simp only [List.length_cons, List.length_nil, List.length_replicate] at cl ⊢
      omega
    · by_cases c : w = v
      · subst c; rw [self]; omega
      · rw [rd_set_ne _ _ _ (fun z => c z.symm), rd_nat]; simp [hw]
  | succ d ih =>
    intro i e
    refine Ev.step (fun k => spec_l02From.l0.eq_2 ..) ?_
    simp only [if_pos (show (i : Int) < n by omega), List.length_replicate, if_pos (show i < 17592186044416 by omega)]
    rw [w64 (by omega) (by omega), ← List.replicate_succ']
    exact ih (i + 1) (by omega)
theorem spec_l02From.ev : Ev (fun q => spec_l02From.f q n rows (v : Int) a b) (distL (AdjX rows a b) n.toNat v) := by
  unfold spec_l02From.f
  exact spec_l02From.ev_0 g a b hv n.toNat 0 (by omega)
end
theorem AdjX_none {rows : List Int} : AdjX rows (-1) (-1) = Adj rows := by
  funext u w
  refine propext ⟨fun h => h.1, fun h => ⟨h, fun z => ?_⟩⟩
  rcases z with z | z <;> omega

theorem pigeon (n : Nat) : ∀ (d : Nat) (f : Nat → Nat), (∀ e, e ≤ d → f e < n) → (∀ a b, a ≤ d → b ≤ d → f a = f b → a = b) → d < n := by
  induction n with
  | zero => intro d f h _; exact absurd (h 0 (Nat.zero_le _)) (by omega)
  | succ n ih =>
    intro d f h k
    cases d with
    | zero => omega
    | succ d =>
      have := ih d (fun e => if f e = n then f (d + 1) else f e) (fun e he => by
        have a := h e (by omega)
        have b := h (d + 1) (by omega)
        by_cases c : f e = n
        · simp only [if_pos c]
          by_cases x : f (d + 1) = n
          · have := k e (d + 1) (by omega) (by omega) (by rw [c, x]); omega
          · omega
        · simp only [if_neg c]; omega) (fun a b ha hb he => by
        by_cases c : f a = n
        · by_cases x : f b = n
          · exact k a b (by omega) (by omega) (by rw [c, x])
          · simp only [if_pos c, if_neg x] at he
            have := k (d + 1) b (by omega) (by omega) he; omega
        · by_cases x : f b = n
          · simp only [if_neg c, if_pos x] at he
            have := k a (d + 1) (by omega) (by omega) he; omega
          · simp only [if_neg c, if_neg x] at he
            exact k a b (by omega) (by omega) he)
      omega
theorem AtD.uniq {E : Nat → Nat → Prop} {n v d e w : Nat} (h : AtD E n v d w) (k : AtD E n v e w) : d = e := by
  rcases Nat.lt_trichotomy d e with a | a | a
  · exact absurd h.1 (k.2 d a)
  · exact a
  · exact absurd k.1 (h.2 e a)
theorem AtD.bound {E : Nat → Nat → Prop} {n v d w : Nat} (hv : v < n) (h : AtD E n v d w) : d < n := by
  have ex : ∀ e, e ≤ d → ∃ u, AtD E n v e u := fun e he => AtD.down (d := e) (d - e) (w := w) (by rw [show e + (d - e) = d by omega]; exact h)
  refine pigeon n d (fun e => if c : e ≤ d then Classical.choose (ex e c) else 0) (fun e he => ?_) fun a b ha hb he => ?_
  · simp only [dif_pos he]; exact (Classical.choose_spec (ex e he)).1.lt hv
  · simp only [dif_pos ha, dif_pos hb] at he
    have p := Classical.choose_spec (ex a ha)
    have q := Classical.choose_spec (ex b hb)
    rw [he] at p
    exact p.uniq q
theorem distL_bd (E : Nat → Nat → Prop) {n v w : Nat} (hv : v < n) (hw : w < n) : -1 ≤ rd (distL E n v) (w : Int) ∧ rd (distL E n v) (w : Int) < (n : Int) := by
  rcases distL_at E v hw with ⟨a, _⟩ | ⟨d, a, b⟩
  · rw [a]; omega
  · have := b.bound hv
    rw [a]; omega
theorem distL_self (E : Nat → Nat → Prop) {n v : Nat} (hv : v < n) : rd (distL E n v) (v : Int) = 0 :=
  (distL_at E v hv).uniq (.inr ⟨0, rfl, rfl, fun e he => by omega⟩)

/-! ### numbers of walks -/
def sumU : Nat → (Nat → Nat) → Nat
  | 0, _ => 0
  | n + 1, f => sumU n f + f n
theorem sumU_congr {f g : Nat → Nat} {n : Nat} (h : ∀ u, u < n → f u = g u) : sumU n f = sumU n g := by
  induction n with
  | zero => rfl
  | succ n ih => rw [sumU, sumU, ih fun u hu => h u (by omega), h n (by omega)]
theorem sumU_pos {f : Nat → Nat} {n : Nat} (h : sumU n f ≠ 0) : ∃ u, u < n ∧ f u ≠ 0 := by
  induction n with
  | zero => exact absurd rfl h
  | succ n ih =>
    rw [sumU] at h
    by_cases c : f n = 0
    · obtain ⟨u, a, b⟩ := ih (by omega)
      exact ⟨u, by omega, b⟩
    · exact ⟨n, by omega, c⟩
/-- The number of walks of d steps from v to w. -/
noncomputable def cW (E : Nat → Nat → Prop) (n v : Nat) : Nat → Nat → Nat
  | 0, w => if w = v then 1 else 0
  | d + 1, w => sumU n fun u => if E u w then cW E n v d u else 0
theorem cW_wk {E : Nat → Nat → Prop} {n v : Nat} (d : Nat) : ∀ w, w < n → cW E n v d w ≠ 0 → Wk E n v d w := by
  induction d with
  | zero =>
    intro w _ h
    by_cases c : w = v
    · exact c
    · rw [cW, if_neg c] at h; exact absurd rfl h
  | succ d ih =>
    intro w hw h
    rw [cW] at h
    obtain ⟨u, a, b⟩ := sumU_pos h
    by_cases c : E u w
    · rw [if_pos c] at b
      exact ⟨hw, u, a, ih u a b, c⟩
    · rw [if_neg c] at b; exact absurd rfl b
theorem cW_congr {E F : Nat → Nat → Prop} {n : Nat} (h : ∀ u w, u < n → w < n → (E u w ↔ F u w)) (v d : Nat) : ∀ w, w < n → cW E n v d w = cW F n v d w := by
  induction d with
  | zero => intro w _; rfl
  | succ d ih =>
    intro w hw
    rw [cW, cW]
    refine sumU_congr fun u hu => ?_
    by_cases c : E u w
    · rw [if_pos c, if_pos ((h u w hu hw).1 c), ih u hu]
    · rw [if_neg c, if_neg fun a => c ((h u w hu hw).2 a)]
theorem Wk_congr {E F : Nat → Nat → Prop} {n v : Nat} (h : ∀ u w, u < n → w < n → (E u w ↔ F u w)) (d : Nat) : ∀ w, Wk E n v d w → Wk F n v d w := by
  induction d with
  | zero => intro w a; exact a
  | succ d ih => rintro w ⟨a, u, b, c, e⟩; exact ⟨a, u, b, ih u c, (h u w b a).1 e⟩
theorem distL_congr {E F : Nat → Nat → Prop} {n : Nat} (h : ∀ u w, u < n → w < n → (E u w ↔ F u w)) (v : Nat) : distL E n v = distL F n v := by
  have k : ∀ u w, u < n → w < n → (F u w ↔ E u w) := fun u w a b => (h u w a b).symm
  refine distL_eq (distL_length ..) fun w hw => ?_
  rcases distL_at E v hw with ⟨a, b⟩ | ⟨d, a, b, c⟩
  · exact .inl ⟨a, fun d z => b d (Wk_congr k d w z)⟩
  · exact .inr ⟨d, a, Wk_congr h d w b, fun e he z => c e he (Wk_congr k e w z)⟩
theorem distL_iff {E : Nat → Nat → Prop} {n v w d : Nat} (hw : w < n) : rd (distL E n v) (w : Int) = (d : Int) ↔ AtD E n v d w := by
  constructor
  · intro h
    rcases distL_at E v hw with ⟨a, b⟩ | ⟨e, a, b⟩
    · omega
    · have : e = d := by omega
      subst this; exact b
  · intro h; exact (distL_at E v hw).uniq (.inr ⟨d, rfl, h⟩)
/-! ### walks turned round -/
theorem Wk.cons {E : Nat → Nat → Prop} {n v u : Nat} (hv : v < n) (hu : u < n) (h : E v u) (d : Nat) : ∀ w, Wk E n u d w → Wk E n v (d + 1) w := by
  induction d with
  | zero => intro w a; rw [Wk] at a; subst a; exact ⟨hu, v, hv, rfl, h⟩
  | succ d ih => rintro w ⟨a, x, b, c, e⟩; exact ⟨a, x, b, ih x c, e⟩
theorem Wk.rev {E : Nat → Nat → Prop} {n v : Nat} (hs : ∀ u w, u < n → w < n → (E u w → E w u)) (hv : v < n) (d : Nat) : ∀ w, Wk E n v d w → Wk E n w d v := by
  induction d with
  | zero => intro w a; rw [Wk] at a ⊢; exact a.symm
  | succ d ih => rintro w ⟨a, x, b, c, e⟩; exact Wk.cons a b (hs x w b a e) d v (ih x c)
theorem dist_symm {E : Nat → Nat → Prop} {n v w : Nat} (hs : ∀ u w, u < n → w < n → (E u w → E w u)) (hv : v < n) (hw : w < n) : rd (distL E n v) (w : Int) = rd (distL E n w) (v : Int) := by
  refine (distL_at E v hw).uniq ?_
  rcases distL_at E w hv with ⟨a, b⟩ | ⟨d, a, b, c⟩
  · exact .inl ⟨a, fun d z => b d (Wk.rev hs hv d w z)⟩
  · exact .inr ⟨d, a, Wk.rev hs hw d v b, fun e he z => c e he (Wk.rev hs hv e w z)⟩
theorem AdjX_swap {rows : List Int} {a b : Int} : AdjX rows a b = AdjX rows b a := by
  funext u w
  refine propext ⟨fun h => ⟨h.1, fun z => h.2 z.symm⟩, fun h => ⟨h.1, fun z => h.2 z.symm⟩⟩
theorem AdjX_symm {n : Int} {rows : List Int} (g : IsG n rows) {a b : Int} : ∀ u w, u < n.toNat → w < n.toNat → (AdjX rows a b u w → AdjX rows a b w u) := fun u w hu hw h =>
  ⟨(g.symm hu hw).1 h.1, fun z => h.2 (by omega)⟩
/-- The least length of a cycle with the edge of a and b, 0 if there is none. -/
noncomputable def arV (rows : List Int) (n a b : Nat) : Int := rd (distL (AdjX rows a b) n a) (b : Int) + 1
theorem arV_bd {rows : List Int} {n a b : Nat} (ha : a < n) (hb : b < n) : 0 ≤ arV rows n a b ∧ arV rows n a b ≤ (n : Int) := by
  have := distL_bd (AdjX rows a b) ha hb
  unfold arV
  omega
theorem arV_swap {n : Int} {rows : List Int} (g : IsG n rows) {a b : Nat} (ha : a < n.toNat) (hb : b < n.toNat) : arV rows n.toNat a b = arV rows n.toNat b a := by
  unfold arV
  rw [dist_symm (AdjX_symm g) ha hb, AdjX_swap]
/-! ### the graph less an edge -/
theorem taken_row {n x k : Nat} (hn : n ≤ 62) (hx : x < 2 ^ n) (hk : k < n) : Go.bits .andNot .i64 (x : Int) ((2 ^ k : Nat) : Int) = ((bsum n fun w => x.testBit w && !decide (w = k) : Nat) : Int) := by
  have h2 := pow62 hn
  have h3 : 2 ^ k < 2 ^ n := Nat.pow_lt_pow_right (by decide) hk
  obtain ⟨c, h, hb⟩ := bit_andNot x (2 ^ k) (by omega) (by omega)
  rw [h]
  congr 1
  refine Nat.eq_of_testBit_eq fun i => ?_
  rw [hb, bsum_bit, Nat.testBit_two_pow]
  by_cases hi : i < n
  · by_cases e : k = i
    · subst e; simp
    · have : ¬ i = k := fun a => e a.symm
      simp [hi, e, this]
  · rw [Nat.testBit_lt_two_pow (Nat.lt_of_lt_of_le hx (Nat.pow_le_pow_right (by decide) (by omega)))]
    simp
theorem taken {n : Int} {rows : List Int} (g : IsG n rows) {a b : Nat} (ha : a < n.toNat) (hb : b < n.toNat) (hab : a ≠ b) :
    (rows.set a (Go.bits .andNot .i64 (rd rows (a : Int)) ((2 ^ b : Nat) : Int))).set b (Go.bits .andNot .i64 (rd rows (b : Int)) ((2 ^ a : Nat) : Int)) = gr n.toNat (AdjX rows a b) := by
  have hl := g.len
  have one : ∀ i k : Nat, i < n.toNat → k < n.toNat → Go.bits .andNot .i64 (rd rows (i : Int)) ((2 ^ k : Nat) : Int) = ((bsum n.toNat fun w => decide (Adj rows i w ∧ w ≠ k) : Nat) : Int) := fun i k hi hk => by
    obtain ⟨x, hx, hx1⟩ := IsG_row g (v := (i : Int)) (by omega) (by omega)
    rw [hx, taken_row g.le hx1 hk]
    congr 1
    refine bsum_eq fun w _ => ?_
    have e : Adj rows i w ↔ x.testBit w = true := by unfold Adj; rw [hx, dig_nat]
    by_cases c : x.testBit w = true
    · by_cases d : w = k
      · simp [c, d]
      · simp [c, d, e.2 c]
    · have ne : ¬ Adj rows i w := fun z => c (e.1 z)
      simp [c, ne]
  refine list_ext_rd (by simp [gr_length, hl]) fun i hi => ?_
  simp only [List.length_set] at hi
  rw [gr_rd (by omega)]
  by_cases c : i = b
  · subst c
    rw [rd_set_self _ _ (by simpa using hi), one i a hb ha]
    congr 1
    refine bsum_eq fun w _ => decide_eq_decide.2 ⟨fun z => ⟨z.1, fun y => z.2 (by omega)⟩, fun z => ⟨z.1, fun y => z.2 (by omega)⟩⟩
  · rw [rd_set_ne _ _ _ (fun z => c z.symm)]
    by_cases d : i = a
    · subst d
      rw [rd_set_self _ _ hi, one i b ha hb]
      congr 1
      refine bsum_eq fun w _ => decide_eq_decide.2 ⟨fun z => ⟨z.1, fun y => z.2 (by omega)⟩, fun z => ⟨z.1, fun y => z.2 (by omega)⟩⟩
    · rw [rd_set_ne _ _ _ (fun z => d z.symm)]
      obtain ⟨x, hx, hx1⟩ := IsG_row g (v := (i : Int)) (by omega) (by omega)
      rw [hx]
      congr 1
      rw [← bsum_of n.toNat x hx1]
      refine bsum_eq fun w _ => ?_
      have e : Adj rows i w ↔ x.testBit w = true := by unfold Adj; rw [hx, dig_nat]
      have : AdjX rows a b i w ↔ x.testBit w = true := ⟨fun z => e.1 z.1, fun z => ⟨e.2 z, fun y => by omega⟩⟩
      by_cases c : x.testBit w = true
      · simp [c, this.2 c]
      · have ne : ¬ AdjX rows a b i w := fun z => c (this.1 z)
        simp [c, ne]
theorem taken_G {n : Int} {rows : List Int} (g : IsG n rows) {a b : Int} : IsG n (gr n.toNat (AdjX rows a b)) := by
  have h1 := g.1
  have : n = ((n.toNat : Nat) : Int) := by omega
  have h := IsG.of_gr (n := n.toNat) (E := AdjX rows a b) (by omega) g.le (fun u w hu hw => ⟨AdjX_symm g u w hu hw, AdjX_symm g w u hw hu⟩) (fun u hu z => g.irrefl hu z.1)
  rw [← this] at h
  exact h
theorem taken_adj {n : Nat} {E : Nat → Nat → Prop} : ∀ u w, u < n → w < n → (Adj (gr n E) u w ↔ E u w) := fun u w hu hw => by
  unfold Adj; rw [gr_dig hu hw]; simp
/-- The lengths of the cycles at v, edge by edge. -/
def SAt (rows : List Int) (n v : Nat) (y : Int) : Prop := ∃ w, w < n ∧ Adj rows v w ∧ y = arV rows n v w
/-- The lengths of all cycles, edge by edge. -/
def SAll (rows : List Int) (n : Nat) (y : Int) : Prop := ∃ a b, a < n ∧ b < n ∧ a < b ∧ Adj rows a b ∧ y = arV rows n a b

/-! ### the least positive one -/
/-- x is the least positive number of S, 0 if there is none. -/
def GirIs (S : Int → Prop) (x : Int) : Prop := (x = 0 ∧ ∀ y, S y → y ≤ 0) ∨ (0 < x ∧ S x ∧ ∀ y, S y → 0 < y → x ≤ y)
theorem GirIs.uniq {S : Int → Prop} {x y : Int} (h : GirIs S x) (k : GirIs S y) : x = y := by
  rcases h with ⟨a, b⟩ | ⟨a, b, c⟩
  · rcases k with ⟨d, _⟩ | ⟨d, e, _⟩
    · omega
    · have := b y e; omega
  · rcases k with ⟨_, e⟩ | ⟨d, e, f⟩
    · have := e x b; omega
    · have := c y e d; have := f x b a; omega
theorem GirIs.congr {S T : Int → Prop} {x : Int} (h : GirIs S x) (e : ∀ y, 0 < y → (S y ↔ T y)) : GirIs T x := by
  rcases h with ⟨a, b⟩ | ⟨a, b, c⟩
  · refine .inl ⟨a, fun y hy => ?_⟩
    by_cases z : 0 < y
    · exact b y ((e y z).2 hy)
    · omega
  · exact .inr ⟨a, (e x a).1 b, fun y hy hp => c y ((e y hp).2 hy) hp⟩
theorem GirIs.none : GirIs (fun _ => False) 0 := .inl ⟨rfl, fun _ h => h.elim⟩
theorem GirIs.nonneg {S : Int → Prop} {x : Int} (h : GirIs S x) : 0 ≤ x := by
  rcases h with ⟨a, _⟩ | ⟨a, _⟩ <;> omega
/-- One more set with its least one. -/
theorem GirIs.join {S T : Int → Prop} {x t : Int} (h : GirIs S x) (k : GirIs T t) : (t ≤ 0 → GirIs (fun y => S y ∨ T y) x) ∧ (0 < t → (x = 0 ∨ t < x) → GirIs (fun y => S y ∨ T y) t) ∧ (0 < t → ¬ (x = 0) → ¬ (t < x) → GirIs (fun y => S y ∨ T y) x) := by
  have hx := h.nonneg
  refine ⟨fun a => ?_, fun a b => ?_, fun a b c => ?_⟩
  · rcases k with ⟨_, e⟩ | ⟨d, _, _⟩
    · exact h.congr fun y hy => ⟨.inl, fun z => z.resolve_right fun w => by have := e y w; omega⟩
    · omega
  · rcases k with ⟨d, _⟩ | ⟨_, e, f⟩
    · omega
    · refine .inr ⟨a, .inr e, fun y hy hp => ?_⟩
      rcases hy with hy | hy
      · rcases h with ⟨_, g⟩ | ⟨_, _, g⟩
        · have := g y hy; omega
        · have := g y hy hp; omega
      · exact f y hy hp
  · rcases h with ⟨d, _⟩ | ⟨p, q, r⟩
    · omega
    · refine .inr ⟨p, .inl q, fun y hy hp => ?_⟩
      rcases hy with hy | hy
      · exact r y hy hp
      · rcases k with ⟨d, _⟩ | ⟨_, _, f⟩
        · omega
        · have := f y hy hp; omega
theorem GirIs.single {t : Int} (h : 0 ≤ t) : GirIs (fun y => y = t) t := by
  by_cases c : t = 0
  · exact .inl ⟨c, fun y hy => by omega⟩
  · exact .inr ⟨by omega, rfl, fun y hy _ => by omega⟩
/-- The girth, and the girth at v. -/
noncomputable def girS (S : Int → Prop) : Int := if h : ∃ z, GirIs S z then Classical.choose h else 0
theorem girS_eq {S : Int → Prop} {z : Int} (h : GirIs S z) : girS S = z := by
  unfold girS
  have e : ∃ z, GirIs S z := ⟨z, h⟩
  rw [dif_pos e]
  exact (Classical.choose_spec e).uniq h

theorem wadd (s t : Int) : wrap64 (wrap64 s + wrap64 t) = wrap64 (s + t) := by unfold wrap64; omega
theorem wz : wrap64 ((0 : Nat) : Int) = 0 := w64 (by omega) (by omega)
theorem wo : wrap64 ((1 : Nat) : Int) = 1 := w64 (by omega) (by omega)

section
variable {n : Int} {rows : List Int} (g : IsG n rows) {a b : Nat} (ha : a < n.toNat) (hb : b < n.toNat)
/-- What u adds to y at level d. -/
noncomputable def cA (rows : List Int) (n a b d u y : Nat) : Nat :=
  if Adj rows u y ∧ rd (distL (AdjX rows a b) n a) (u : Int) = (d : Int) ∧ rd (distL (AdjX rows a b) n a) (y : Int) = (d : Int) + 1 ∧ ¬ (u = a ∧ y = b) then cW (AdjX rows a b) n a d u else 0
theorem cA_sum {n : Nat} {rows : List Int} {a b d y : Nat} (ha : a < n) (hy : y < n) (h : rd (distL (AdjX rows a b) n a) (y : Int) = (d : Int) + 1) : sumU n (fun u => cA rows n a b d u y) = cW (AdjX rows a b) n a (d + 1) y := by
  have hA := (distL_iff (E := AdjX rows a b) (v := a) (d := d + 1) hy).1 (by rw [h]; omega)
  have h0 := distL_self (AdjX rows a b) ha
  rw [cW]
  refine sumU_congr fun u hu => ?_
  unfold cA
  by_cases c : AdjX rows a b u y
  · rw [if_pos c]
    by_cases e : rd (distL (AdjX rows a b) n a) (u : Int) = (d : Int)
    · rw [if_pos ⟨c.1, e, h, fun z => c.2 (by omega)⟩]
    · rw [if_neg fun z => e z.2.1]
      by_cases z : cW (AdjX rows a b) n a d u = 0
      · exact z.symm
      · have w := cW_wk d u hu z
        obtain ⟨x, hx, p, q⟩ := least_of (P := fun d => Wk (AdjX rows a b) n a d u) d w
        have y1 : AtD (AdjX rows a b) n a x u := ⟨p, q⟩
        have y2 := (distL_iff (E := AdjX rows a b) (v := a) hu).2 y1
        exact absurd ⟨hy, u, hu, p, c⟩ (hA.2 (x + 1) (by omega))
  · rw [if_neg c]
    by_cases e : Adj rows u y ∧ rd (distL (AdjX rows a b) n a) (u : Int) = (d : Int) ∧ rd (distL (AdjX rows a b) n a) (y : Int) = (d : Int) + 1 ∧ ¬ (u = a ∧ y = b)
    · refine absurd ⟨e.1, fun z => ?_⟩ c
      rcases z with ⟨z1, z2⟩ | ⟨z1, z2⟩
      · exact e.2.2.2 ⟨by omega, by omega⟩
      · have : y = a := by omega
        subst this
        omega
    · rw [if_neg e]
/-- At level d, the rows up to x are done, of row x the entries up to j. -/
def LvJ (rows : List Int) (n a b d x j : Nat) (W0 W : List Int) : Prop :=
  W.length = n ∧ ∀ y, y < n → rd W (y : Int) = if rd (distL (AdjX rows a b) n a) (y : Int) = (d : Int) + 1 then wrap64 ((sumU (if y < j then x + 1 else x) (fun u => cA rows n a b d u y) : Nat) : Int) else rd W0 (y : Int)
include g ha hb
theorem spec_l02Around.ev_2 {R : Int × Int} {d x : Nat} {W0 : List Int} (hd : d ≤ 62) (hx : x < n.toNat) (hW0 : ∀ u, u < n.toNat → rd (distL (AdjX rows a b) n.toNat a) (u : Int) = (d : Int) → rd W0 (u : Int) = wrap64 ((cW (AdjX rows a b) n.toNat a d u : Nat) : Int))
    (next : ∀ W, LvJ rows n.toNat a b d (x + 1) 0 W0 W → Ev (fun q => spec_l02Around.l1 q (a : Int) (b : Int) (distL (AdjX rows a b) n.toNat a) W (d : Int) ((x + 1 : Nat) : Int) n rows) R) (e : Nat) :
    ∀ (j : Nat) (W : List Int), j + e = n.toNat → LvJ rows n.toNat a b d x j W0 W → Ev (fun q => spec_l02Around.l2 q (a : Int) (b : Int) (distL (AdjX rows a b) n.toNat a) W (d : Int) (x : Int) (j : Int) n rows) R := by
  have hn := g.le
  have hl := g.len
  have hDl := distL_length (AdjX rows a b) n.toNat a
  have hw : wrap64 ((x : Int) + 1) = ((x + 1 : Nat) : Int) := by rw [w64 (by omega) (by omega)]; omega
  have hd1 : wrap64 ((d : Int) + 1) = (d : Int) + 1 := w64 (by omega) (by omega)
  induction e with
  | zero =>
    intro j W he h
    refine Ev.step (fun k => spec_l02Around.l2.eq_2 ..) ?_
    simp only [if_neg (show ¬ ((j : Int) < n) by omega)]
    refine Ev.step (fun k => spec_l02Around.j3.eq_2 ..) ?_
    simp only [Bool.false_eq_true, if_false]
    rw [hw]
    refine next W ⟨h.1, fun y hy => ?_⟩
    rw [h.2 y hy, if_pos (show y < j by omega), if_neg (show ¬ y < 0 by omega)]
  | succ e ih =>
    intro j W he h
    refine Ev.step (fun k => spec_l02Around.l2.eq_2 ..) ?_
    have hj : j < n.toNat := by omega
    simp only [if_pos (show (j : Int) < n by omega), if_pos (show (0 : Int) ≤ (x : Int) by omega), if_pos (show (x : Int) < ((distL (AdjX rows a b) n.toNat a).length : Int) by omega)]
    by_cases hxd : rd (distL (AdjX rows a b) n.toNat a) (x : Int) = (d : Int)
    · have skip : cA rows n.toNat a b d x j = 0 → Ev (fun q => spec_l02Around.l2 q (a : Int) (b : Int) (distL (AdjX rows a b) n.toNat a) W (d : Int) (x : Int) (wrap64 ((j : Int) + 1)) n rows) R := fun c0 => by
        rw [w64 (by omega) (by omega)]
        refine ih (j + 1) W (by omega) ⟨h.1, fun y hy => ?_⟩
        rw [h.2 y hy]
        by_cases c : y = j
        · subst c
          rw [if_neg (show ¬ y < y by omega), if_pos (show y < y + 1 by omega), sumU, c0, Nat.add_zero]
        · by_cases z : y < j
          · rw [if_pos z, if_pos (show y < j + 1 by omega)]
          · rw [if_neg z, if_neg (show ¬ y < j + 1 by omega)]
      have upd : rd (distL (AdjX rows a b) n.toNat a) (j : Int) = (d : Int) + 1 → cA rows n.toNat a b d x j = cW (AdjX rows a b) n.toNat a d x → Ev (fun q => spec_l02Around.l2 q (a : Int) (b : Int) (distL (AdjX rows a b) n.toNat a) (W.set j (wrap64 (rd W (j : Int) + rd W (x : Int)))) (d : Int) (x : Int) (wrap64 ((j : Int) + 1)) n rows) R := fun hjd c0 => by
        rw [w64 (n := (j : Int) + 1) (by omega) (by omega)]
        refine ih (j + 1) _ (by omega) ⟨by rw [List.length_set]; exact h.1, fun y hy => ?_⟩
        have hWl := h.1
        by_cases c : j = y
        · subst c
          rw [rd_set_self _ _ (by omega), if_pos hjd, if_pos (show j < j + 1 by omega), h.2 j hj, if_pos hjd, if_neg (show ¬ j < j by omega), h.2 x hx, if_neg (show ¬ rd (distL (AdjX rows a b) n.toNat a) (x : Int) = (d : Int) + 1 by omega), hW0 x hx hxd, wadd, sumU, c0]
          congr 1
        · rw [rd_set_ne _ _ _ c, h.2 y hy]
          by_cases z : y < j
          · rw [if_pos z, if_pos (show y < j + 1 by omega)]
          · rw [if_neg z, if_neg (show ¬ y < j + 1 by omega)]
      have hWl := h.1
      refine Ev.step (fun k => spec_l02Around.j3.eq_2 ..) ?_
      rw [u64 (n := (j : Int)) (by omega) (by omega), bit_val (v := (j : Int)) (by omega) (by omega), hd1, Int.toNat_natCast]
      simp only [hxd, beq_self_eq_true, if_true, if_pos (show (0 : Int) ≤ (x : Int) by omega), if_pos (show (x : Int) < (rows.length : Int) by omega), if_pos (show (0 : Int) ≤ (j : Int) by omega), if_pos (show (j : Int) < ((distL (AdjX rows a b) n.toNat a).length : Int) by omega), if_pos (show (j : Int) < (W.length : Int) by omega), if_pos (show (x : Int) < (W.length : Int) by omega)]
      by_cases hA : dig (rd rows (x : Int)) j = true
      · simp only [if_pos hA, if_true]
        by_cases hjd : rd (distL (AdjX rows a b) n.toNat a) (j : Int) = (d : Int) + 1
        · simp only [if_pos hjd]
          by_cases c1 : (x : Int) = (a : Int)
          · simp only [if_pos c1]
            by_cases c2 : (j : Int) = (b : Int)
            · simp only [if_pos c2]
              exact skip (if_neg fun z => z.2.2.2 ⟨by omega, by omega⟩)
            · simp only [if_neg c2]
              exact upd hjd (if_pos ⟨hA, hxd, hjd, fun z => by omega⟩)
          · simp only [if_neg c1]
            exact upd hjd (if_pos ⟨hA, hxd, hjd, fun z => by omega⟩)
        · simp only [if_neg hjd]
          exact skip (if_neg fun z => hjd z.2.2.1)
      · simp only [if_neg hA, if_neg (show ¬ ((0 : Int) = 1) by decide)]
        exact skip (if_neg fun z => hA z.1)
    · refine Ev.step (fun k => spec_l02Around.j3.eq_2 ..) ?_
      simp only [beq_eq_false_iff_ne.2 hxd, Bool.false_eq_true, if_false]
      rw [hw]
      refine next W ⟨h.1, fun y hy => ?_⟩
      rw [h.2 y hy, if_neg (show ¬ y < 0 by omega)]
      have c0 : cA rows n.toNat a b d x y = 0 := if_neg fun z => hxd z.2.1
      by_cases z : y < j
      · rw [if_pos z]
      · rw [if_neg z, sumU, c0, Nat.add_zero]
theorem spec_l02Around.ev_1 {R : Int × Int} {d : Nat} {W0 : List Int} (hd : d ≤ 62) (hW0 : ∀ u, u < n.toNat → rd (distL (AdjX rows a b) n.toNat a) (u : Int) = (d : Int) → rd W0 (u : Int) = wrap64 ((cW (AdjX rows a b) n.toNat a d u : Nat) : Int))
    (next : ∀ W, LvJ rows n.toNat a b d n.toNat 0 W0 W → Ev (fun q => spec_l02Around.l0 q (a : Int) (b : Int) (distL (AdjX rows a b) n.toNat a) W ((d + 1 : Nat) : Int) n rows) R) (e : Nat) :
    ∀ (x : Nat) (W : List Int), x + e = n.toNat → LvJ rows n.toNat a b d x 0 W0 W → Ev (fun q => spec_l02Around.l1 q (a : Int) (b : Int) (distL (AdjX rows a b) n.toNat a) W (d : Int) (x : Int) n rows) R := by
  have hn := g.le
  induction e with
  | zero =>
    intro x W he h
    refine Ev.step (fun k => spec_l02Around.l1.eq_2 ..) ?_
    simp only [if_neg (show ¬ ((x : Int) < n) by omega)]
    rw [w64 (by omega) (by omega)]
    have : x = n.toNat := by omega
    subst this
    exact next W h
  | succ e ih =>
    intro x W he h
    refine Ev.step (fun k => spec_l02Around.l1.eq_2 ..) ?_
    simp only [if_pos (show (x : Int) < n by omega)]
    exact spec_l02Around.ev_2 g ha hb hd (by omega) hW0 (fun W' h' => ih (x + 1) W' (by omega) h') n.toNat 0 W (by omega) h
theorem spec_l02Around.ev_0 {m : Nat} (hm : rd (distL (AdjX rows a b) n.toNat a) (b : Int) = (m : Int)) (e : Nat) : ∀ (d : Nat) (W : List Int), d + e = m → W.length = n.toNat →
    (∀ u, u < n.toNat → ∀ c : Nat, c ≤ d → rd (distL (AdjX rows a b) n.toNat a) (u : Int) = (c : Int) → rd W (u : Int) = wrap64 ((cW (AdjX rows a b) n.toNat a c u : Nat) : Int)) →
    (∀ u, u < n.toNat → rd (distL (AdjX rows a b) n.toNat a) (u : Int) > (d : Int) → rd W (u : Int) = 0) →
    Ev (fun q => spec_l02Around.l0 q (a : Int) (b : Int) (distL (AdjX rows a b) n.toNat a) W (d : Int) n rows) ((m : Int) + 1, wrap64 ((cW (AdjX rows a b) n.toNat a m b : Nat) : Int)) := by
  have hn := g.le
  have hDl := distL_length (AdjX rows a b) n.toNat a
  have hbd := distL_bd (AdjX rows a b) ha hb
  induction e with
  | zero =>
    intro d W he hWl h1 h2
    refine Ev.step (fun k => spec_l02Around.l0.eq_2 ..) ?_
    simp only [if_pos (show (0 : Int) ≤ (b : Int) by omega), if_pos (show (b : Int) < ((distL (AdjX rows a b) n.toNat a).length : Int) by omega), if_neg (show ¬ ((d : Int) < rd (distL (AdjX rows a b) n.toNat a) (b : Int)) by omega), if_pos (show (b : Int) < (W.length : Int) by omega)]
    rw [h1 b hb m (by omega) hm, hm, w64 (n := (m : Int) + 1) (by omega) (by omega)]
    exact Ev.now _
  | succ e ih =>
    intro d W he hWl h1 h2
    refine Ev.step (fun k => spec_l02Around.l0.eq_2 ..) ?_
    simp only [if_pos (show (0 : Int) ≤ (b : Int) by omega), if_pos (show (b : Int) < ((distL (AdjX rows a b) n.toNat a).length : Int) by omega), if_pos (show (d : Int) < rd (distL (AdjX rows a b) n.toNat a) (b : Int) by omega)]
    refine spec_l02Around.ev_1 g ha hb (W0 := W) (by omega) (fun u hu hd => h1 u hu d (Nat.le_refl _) hd) (fun W' h' => ih (d + 1) W' (by omega) h'.1 (fun u hu c hc hd => ?_) fun u hu hd => ?_) n.toNat 0 W (by omega) ⟨hWl, fun y hy => ?_⟩
    · rw [h'.2 u hu]
      by_cases z : c = d + 1
      · subst z
        have hd' : rd (distL (AdjX rows a b) n.toNat a) (u : Int) = (d : Int) + 1 := by omega
        rw [if_pos hd', if_neg (show ¬ u < 0 by omega), cA_sum ha hu hd']
      · rw [if_neg (by omega)]
        exact h1 u hu c (by omega) hd
    · rw [h'.2 u hu, if_neg (by omega)]
      exact h2 u hu (by omega)
    · by_cases z : rd (distL (AdjX rows a b) n.toNat a) (y : Int) = (d : Int) + 1
      · rw [if_pos z, if_neg (show ¬ y < 0 by omega), sumU, h2 y hy (by omega), wz]
      · rw [if_neg z]
theorem spec_l02Around.ev : ∃ c : Int, Ev (fun q => spec_l02Around.f q n rows (a : Int) (b : Int)) (arV rows n.toNat a b, c) ∧ (0 < arV rows n.toNat a b → c = wrap64 ((cW (AdjX rows a b) n.toNat a (arV rows n.toNat a b - 1).toNat b : Nat) : Int)) := by
  have hn := g.le
  have h1 := g.1
  have hDl := distL_length (AdjX rows a b) n.toNat a
  have hbd := distL_bd (AdjX rows a b) ha hb
  have hF := spec_l02From.ev g (a : Int) (b : Int) ha
  unfold arV
  by_cases c : rd (distL (AdjX rows a b) n.toNat a) (b : Int) < 0
  · refine ⟨0, ?_, fun z => by omega⟩
    unfold spec_l02Around.f
    refine Ev.bind hF ?_
    simp only [if_pos (show (0 : Int) ≤ (b : Int) by omega), if_pos (show (b : Int) < ((distL (AdjX rows a b) n.toNat a).length : Int) by omega), if_pos c]
    exact ev_some (by rw [show rd (distL (AdjX rows a b) n.toNat a) (b : Int) + 1 = 0 by omega])
  · obtain ⟨m, hm⟩ := Int.eq_ofNat_of_zero_le (show 0 ≤ rd (distL (AdjX rows a b) n.toNat a) (b : Int) by omega)
    refine ⟨_, ?_, fun _ => rfl⟩
    rw [hm, show ((m : Int) + 1 - 1).toNat = m by omega]
    unfold spec_l02Around.f
    refine Ev.bind hF ?_
    simp only [if_pos (show (0 : Int) ≤ (b : Int) by omega), if_pos (show (b : Int) < ((distL (AdjX rows a b) n.toNat a).length : Int) by omega), if_neg c, if_pos (show 0 ≤ n by omega), if_pos (show n.toNat ≤ 35184372088832 by omega)]
    refine Ev.bind (ev_eq fun _ => rfl) ?_
    simp only [if_pos (show (0 : Int) ≤ (a : Int) by omega), List.length_replicate, if_pos (show (a : Int) < ((n.toNat : Nat) : Int) by omega), Int.toNat_natCast]
    have h0 := distL_self (AdjX rows a b) ha
    refine spec_l02Around.ev_0 g ha hb hm m 0 _ (by omega) (by simp) (fun u hu c hc hd => ?_) fun u hu hd => ?_
    · have c0 : c = 0 := by omega
      subst c0
      have := (distL_iff (E := AdjX rows a b) (v := a) (d := 0) hu).1 hd
      have ua : u = a := this.1
      subst ua
      rw [rd_set_self _ _ (by simpa using hu), cW, if_pos rfl, wo]
    · have ua : ¬ a = u := fun z => by subst z; omega
      rw [rd_set_ne _ _ _ ua, rd_nat]
      simp [hu]
end

/-- The pairs of which the girth at v is taken (all of them where v is less than 0). -/
def SG (rows : List Int) (n : Nat) (v : Int) (y : Int) : Prop := ∃ a b, a < n ∧ b < n ∧ a < b ∧ Adj rows a b ∧ (v < 0 ∨ (a : Int) = v ∨ (b : Int) = v) ∧ y = arV rows n a b
/-- The pairs that come before (i, j). -/
def SGp (rows : List Int) (n : Nat) (v : Int) (i j : Nat) (y : Int) : Prop := ∃ a b, a < n ∧ b < n ∧ a < b ∧ Adj rows a b ∧ (v < 0 ∨ (a : Int) = v ∨ (b : Int) = v) ∧ (a < i ∨ (a = i ∧ b < j)) ∧ y = arV rows n a b
theorem spec_l02Girth.ev_1 {n : Int} {rows : List Int} (g : IsG n rows) {v : Int} {i : Nat} (hi : i < n.toNat)
    (next : ∀ x, GirIs (SGp rows n.toNat v (i + 1) (i + 2)) x → ∃ z, GirIs (SG rows n.toNat v) z ∧ Ev (fun q => spec_l02Girth.l0 q v x ((i + 1 : Nat) : Int) n rows) z) (d : Nat) :
    ∀ (j : Nat) (x : Int), j + d = n.toNat → i < j → GirIs (SGp rows n.toNat v i j) x →
    ∃ z, GirIs (SG rows n.toNat v) z ∧ Ev (fun q => spec_l02Girth.l1 q v x (i : Int) (j : Int) n rows) z := by
  have hn := g.le
  have hl := g.len
  induction d with
  | zero =>
    intro j x e hij h
    have hw : wrap64 ((i : Int) + 1) = ((i + 1 : Nat) : Int) := by rw [w64 (by omega) (by omega)]; omega
    obtain ⟨z, p, q⟩ := next x (h.congr fun y _ => ⟨fun ⟨a, b, h1, h2, h3, h4, h5, h6, h7⟩ => ⟨a, b, h1, h2, h3, h4, h5, by omega, h7⟩, fun ⟨a, b, h1, h2, h3, h4, h5, h6, h7⟩ => ⟨a, b, h1, h2, h3, h4, h5, by omega, h7⟩⟩)
    refine ⟨z, p, Ev.step (fun k => spec_l02Girth.l1.eq_2 ..) ?_⟩
    simp only [if_neg (show ¬ ((j : Int) < n) by omega)]
    rw [hw]; exact q
  | succ d ih =>
    intro j x e hij h
    have hw : wrap64 ((j : Int) + 1) = ((j + 1 : Nat) : Int) := by rw [w64 (by omega) (by omega)]; omega
    have hj : j < n.toNat := by omega
    have hb := arV_bd (rows := rows) hi hj
    obtain ⟨cc, hE, _⟩ := spec_l02Around.ev g hi hj
    -- the pair is not taken
    have skip : ¬ (Adj rows i j ∧ (v < 0 ∨ (i : Int) = v ∨ (j : Int) = v)) → GirIs (SGp rows n.toNat v i (j + 1)) x := fun hs => h.congr fun y _ => ⟨fun ⟨a, b, h1, h2, h3, h4, h5, h6, h7⟩ => ⟨a, b, h1, h2, h3, h4, h5, by omega, h7⟩, fun ⟨a, b, h1, h2, h3, h4, h5, h6, h7⟩ => ⟨a, b, h1, h2, h3, h4, h5, by
      by_cases z : a = i ∧ b = j
      · obtain ⟨rfl, rfl⟩ := z; exact absurd ⟨h4, h5⟩ hs
      · omega, h7⟩⟩
    have take : Adj rows i j → (v < 0 ∨ (i : Int) = v ∨ (j : Int) = v) → ∀ {z : Int}, GirIs (fun y => SGp rows n.toNat v i j y ∨ y = arV rows n.toNat i j) z → GirIs (SGp rows n.toNat v i (j + 1)) z := fun hA hv z hz => hz.congr fun y _ => ⟨fun k => by
      rcases k with ⟨a, b, h1, h2, h3, h4, h5, h6, h7⟩ | k
      · exact ⟨a, b, h1, h2, h3, h4, h5, by omega, h7⟩
      · exact ⟨i, j, hi, hj, hij, hA, hv, by omega, k⟩, fun ⟨a, b, h1, h2, h3, h4, h5, h6, h7⟩ => by
      by_cases z : a = i ∧ b = j
      · obtain ⟨rfl, rfl⟩ := z; exact .inr h7
      · exact .inl ⟨a, b, h1, h2, h3, h4, h5, by omega, h7⟩⟩
    have fl : ¬ (Adj rows i j ∧ (v < 0 ∨ (i : Int) = v ∨ (j : Int) = v)) → ∃ z, GirIs (SG rows n.toNat v) z ∧ Ev (fun q => spec_l02Girth.j2 q v x (i : Int) (j : Int) true n rows) z := fun hs => by
      obtain ⟨z, p, q⟩ := ih (j + 1) x (by omega) (by omega) (skip hs)
      refine ⟨z, p, Ev.step (fun k => spec_l02Girth.j2.eq_2 ..) ?_⟩
      simp only [if_true]; rw [hw]; exact q
    have tk : Adj rows i j → (v < 0 ∨ (i : Int) = v ∨ (j : Int) = v) → ∃ z, GirIs (SG rows n.toNat v) z ∧ Ev (fun q => spec_l02Girth.j2 q v x (i : Int) (j : Int) false n rows) z := fun hA hv => by
      obtain ⟨j1, j2, j3⟩ := h.join (GirIs.single hb.1)
      have st : ∀ {r : Int}, Ev (fun q => if arV rows n.toNat i j > 0 then (if x = 0 then spec_l02Girth.l1 q v (arV rows n.toNat i j) (i : Int) (wrap64 ((j : Int) + 1)) n rows else if arV rows n.toNat i j < x then spec_l02Girth.l1 q v (arV rows n.toNat i j) (i : Int) (wrap64 ((j : Int) + 1)) n rows else spec_l02Girth.l1 q v x (i : Int) (wrap64 ((j : Int) + 1)) n rows) else spec_l02Girth.l1 q v x (i : Int) (wrap64 ((j : Int) + 1)) n rows) r → Ev (fun q => spec_l02Girth.j2 q v x (i : Int) (j : Int) false n rows) r := fun k => by
        refine Ev.step (fun k => spec_l02Girth.j2.eq_2 ..) ?_
        simp only [Bool.false_eq_true, if_false]
        exact Ev.bind hE k
      by_cases c : arV rows n.toNat i j > 0
      · by_cases c1 : x = 0
        · obtain ⟨z, p, q⟩ := ih (j + 1) _ (by omega) (by omega) (take hA hv (j2 c (.inl c1)))
          refine ⟨z, p, st ?_⟩
          simp only [if_pos c, if_pos c1]; rw [hw]; exact q
        · by_cases c2 : arV rows n.toNat i j < x
          · obtain ⟨z, p, q⟩ := ih (j + 1) _ (by omega) (by omega) (take hA hv (j2 c (.inr c2)))
            refine ⟨z, p, st ?_⟩
            simp only [if_pos c, if_neg c1, if_pos c2]; rw [hw]; exact q
          · obtain ⟨z, p, q⟩ := ih (j + 1) _ (by omega) (by omega) (take hA hv (j3 c c1 c2))
            refine ⟨z, p, st ?_⟩
            simp only [if_pos c, if_neg c1, if_neg c2]; rw [hw]; exact q
      · obtain ⟨z, p, q⟩ := ih (j + 1) _ (by omega) (by omega) (take hA hv (j1 (by omega)))
        refine ⟨z, p, st ?_⟩
        simp only [if_neg c]; rw [hw]; exact q
    have go : ∀ {bb : Bool}, (∃ z, GirIs (SG rows n.toNat v) z ∧ Ev (fun q => spec_l02Girth.j2 q v x (i : Int) (j : Int) bb n rows) z) → (∀ q, (if (if dig (rd rows (i : Int)) j = true then (1 : Int) else 0) = 0 then (spec_l02Girth.j2 q v x (i : Int) (j : Int) true n rows) else (if v ≥ 0 then (if (i : Int) = v then (spec_l02Girth.j2 q v x (i : Int) (j : Int) false n rows) else (spec_l02Girth.j2 q v x (i : Int) (j : Int) ((j : Int) != v) n rows)) else (spec_l02Girth.j2 q v x (i : Int) (j : Int) false n rows))) = spec_l02Girth.j2 q v x (i : Int) (j : Int) bb n rows) → ∃ z, GirIs (SG rows n.toNat v) z ∧ Ev (fun q => spec_l02Girth.l1 q v x (i : Int) (j : Int) n rows) z := fun ⟨z, p, q⟩ heq => by
      refine ⟨z, p, Ev.step (fun k => spec_l02Girth.l1.eq_2 ..) ?_⟩
      rw [u64 (n := (j : Int)) (by omega) (by omega), bit_val (v := (j : Int)) (by omega) (by omega), Int.toNat_natCast]
      simp only [if_pos (show (j : Int) < n by omega), if_pos (show (0 : Int) ≤ (i : Int) by omega), if_pos (show (i : Int) < (rows.length : Int) by omega), if_pos (show (0 : Int) ≤ (j : Int) by omega)]
      exact evc heq q
    by_cases hA : dig (rd rows (i : Int)) j = true
    · by_cases hv : v ≥ 0
      · by_cases c1 : (i : Int) = v
        · exact go (tk hA (.inr (.inl c1))) fun q => by rw [if_pos hA, if_neg (by decide), if_pos hv, if_pos c1]
        · by_cases c2 : (j : Int) = v
          · refine go (tk hA (.inr (.inr c2))) fun q => ?_
            rw [if_pos hA, if_neg (by decide), if_pos hv, if_neg c1, show ((j : Int) != v) = false by simp [c2]]
          · refine go (fl fun z => by omega) fun q => ?_
            rw [if_pos hA, if_neg (by decide), if_pos hv, if_neg c1, show ((j : Int) != v) = true by simp [c2]]
      · exact go (tk hA (.inl (by omega))) fun q => by rw [if_pos hA, if_neg (by decide), if_neg hv]
    · exact go (fl fun z => hA z.1) fun q => by rw [if_neg hA, if_pos rfl]
theorem spec_l02Girth.ev_0 {n : Int} {rows : List Int} (g : IsG n rows) {v : Int} (d : Nat) : ∀ (i : Nat) (x : Int), i + d = n.toNat → GirIs (SGp rows n.toNat v i (i + 1)) x → ∃ z, GirIs (SG rows n.toNat v) z ∧ Ev (fun q => spec_l02Girth.l0 q v x (i : Int) n rows) z := by
  have hn := g.le
  induction d with
  | zero =>
    intro i x e h
    refine ⟨x, h.congr fun y _ => ⟨fun ⟨a, b, h1, h2, h3, h4, h5, h6, h7⟩ => ⟨a, b, h1, h2, h3, h4, h5, h7⟩, fun ⟨a, b, h1, h2, h3, h4, h5, h7⟩ => ⟨a, b, h1, h2, h3, h4, h5, by omega, h7⟩⟩, Ev.step (fun k => spec_l02Girth.l0.eq_2 ..) ?_⟩
    simp only [if_neg (show ¬ ((i : Int) < n) by omega)]
    exact Ev.now _
  | succ d ih =>
    intro i x e h
    have hw : wrap64 ((i : Int) + 1) = ((i + 1 : Nat) : Int) := by rw [w64 (by omega) (by omega)]; omega
    obtain ⟨z, p, q⟩ := spec_l02Girth.ev_1 g (v := v) (i := i) (by omega) (fun x hx => ih (i + 1) x (by omega) hx) (n.toNat - (i + 1)) (i + 1) x (by omega) (by omega) h
    refine ⟨z, p, Ev.step (fun k => spec_l02Girth.l0.eq_2 ..) ?_⟩
    simp only [if_pos (show (i : Int) < n by omega)]
    rw [hw]; exact q
theorem spec_l02Girth.ev {n : Int} {rows : List Int} (g : IsG n rows) (v : Int) : ∃ z, GirIs (SG rows n.toNat v) z ∧ Ev (fun q => spec_l02Girth.f q n rows v) z := by
  obtain ⟨z, p, q⟩ := spec_l02Girth.ev_0 g (v := v) n.toNat 0 0 (Nat.zero_add _) (GirIs.none.congr fun y _ => ⟨fun a => a.elim, fun ⟨a, b, h1, h2, h3, h4, h5, h6, h7⟩ => by omega⟩)
  refine ⟨z, p, ?_⟩
  unfold spec_l02Girth.f
  exact q
theorem SG_all {rows : List Int} {n : Nat} {v : Int} (hv : v < 0) (y : Int) : SG rows n v y ↔ SAll rows n y :=
  ⟨fun ⟨a, b, h1, h2, h3, h4, _, h7⟩ => ⟨a, b, h1, h2, h3, h4, h7⟩, fun ⟨a, b, h1, h2, h3, h4, h7⟩ => ⟨a, b, h1, h2, h3, h4, .inl hv, h7⟩⟩
theorem SG_at {n : Int} {rows : List Int} (g : IsG n rows) {v : Nat} (hv : v < n.toNat) (y : Int) : SG rows n.toNat (v : Int) y ↔ SAt rows n.toNat v y := by
  constructor
  · rintro ⟨a, b, h1, h2, h3, h4, h5, h7⟩
    by_cases c : a = v
    · subst c; exact ⟨b, h2, h4, h7⟩
    · have : b = v := by omega
      subst this
      exact ⟨a, h1, (g.symm h1 h2).1 h4, by rw [h7, arV_swap g h1 h2]⟩
  · rintro ⟨w, hw, h, e⟩
    have vw : v ≠ w := fun z => by subst z; exact g.irrefl hv h
    by_cases c : v < w
    · exact ⟨v, w, hv, hw, c, h, .inr (.inl rfl), e⟩
    · exact ⟨w, v, hw, hv, by omega, (g.symm hv hw).1 h, .inr (.inr rfl), by rw [e, arV_swap g hv hw]⟩
theorem spec_l02Girth.all {n : Int} {rows : List Int} (g : IsG n rows) : Ev (fun q => spec_l02Girth.f q n rows (-1)) (girS (SAll rows n.toNat)) := by
  obtain ⟨z, p, q⟩ := spec_l02Girth.ev g (-1)
  rw [girS_eq (p.congr fun y _ => SG_all (by decide) y)]
  exact q
theorem spec_l02Girth.at_ {n : Int} {rows : List Int} (g : IsG n rows) {v : Nat} (hv : v < n.toNat) : Ev (fun q => spec_l02Girth.f q n rows (v : Int)) (girS (SAt rows n.toNat v)) := by
  obtain ⟨z, p, q⟩ := spec_l02Girth.ev g (v : Int)
  rw [girS_eq (p.congr fun y _ => SG_at g hv y)]
  exact q

/-! ### the set bits of a number, in order -/
theorem bits_TrailingZeros64.sp {x : Nat} (h : x < 2 ^ 63) : bits_TrailingZeros64.f (IntKind.u64.wrap (x : Int)) = some ((Lib.ctz 64 x : Nat) : Int) := by
  unfold bits_TrailingZeros64.f
  rw [u64 (by omega) (by omega), if_pos (by omega), if_pos (by omega), Int.toNat_natCast]
def bitsFrom : Nat → Nat → Int → List Int
  | 0, _, _ => []
  | d + 1, i, r => if dig r i = true then (i : Int) :: bitsFrom d (i + 1) r else bitsFrom d (i + 1) r
theorem bitsFrom_length (r : Int) (d : Nat) : ∀ i, (bitsFrom d i r).length ≤ d := by
  induction d with
  | zero => intro i; simp [bitsFrom]
  | succ d ih =>
    intro i
    have := ih (i + 1)
    simp only [bitsFrom]
    split
    · simp only [List.length_cons]; omega
    · omega
theorem mem_bitsFrom {r : Int} {d : Nat} : ∀ {i : Nat} {x : Int}, x ∈ bitsFrom d i r ↔ ∃ j : Nat, x = (j : Int) ∧ i ≤ j ∧ j < i + d ∧ dig r j = true := by
  induction d with
  | zero =>
    intro i x
    simp only [bitsFrom, List.not_mem_nil, false_iff]
    rintro ⟨j, _, a, b, _⟩; omega
  | succ d ih =>
    intro i x
    simp only [bitsFrom]
    split
    · rename_i c
      rw [List.mem_cons, ih]
      constructor
      · rintro (rfl | ⟨j, a, b, e, g⟩)
        · exact ⟨i, rfl, by omega, by omega, c⟩
        · exact ⟨j, a, by omega, by omega, g⟩
      · rintro ⟨j, a, b, e, g⟩
        by_cases h : j = i
        · exact .inl (by rw [a, h])
        · exact .inr ⟨j, a, by omega, by omega, g⟩
    · rename_i c
      rw [ih]
      constructor
      · rintro ⟨j, a, b, e, g⟩; exact ⟨j, a, by omega, by omega, g⟩
      · rintro ⟨j, a, b, e, g⟩
        refine ⟨j, a, ?_, by omega, g⟩
        rcases Nat.lt_or_ge i j with h | h
        · omega
        · exact absurd (show dig r i = true by rw [show i = j by omega]; exact g) c
theorem bitsFrom_congr {r s : Int} {d : Nat} : ∀ {i : Nat}, (∀ j, i ≤ j → j < i + d → dig r j = dig s j) → bitsFrom d i r = bitsFrom d i s := by
  induction d with
  | zero => intro i _; rfl
  | succ d ih =>
    intro i h
    simp only [bitsFrom]
    rw [h i (by omega) (by omega), ih (i := i + 1) fun j a b => h j (by omega) (by omega)]
/-- The lowest bit struck. -/
theorem low_bit {x i : Nat} (h1 : x.testBit i = true) (h0 : ∀ j, j < i → x.testBit j = false) (hx : x < 2 ^ 63) : Lib.ctz 64 x = i ∧ ∀ j, (x &&& (x - 1)).testBit j = (x.testBit j && decide (j ≠ i)) := by
  have x0 : x ≠ 0 := fun a => by rw [a] at h1; simp at h1
  obtain ⟨m, hm, hk⟩ := Lib.ctzFrom_spec 64 x (by omega) (by omega)
  have e : Lib.ctz 64 x = Lib.ctzFrom 64 x := by unfold Lib.ctz; rw [if_neg x0]
  generalize Lib.ctzFrom 64 x = k at hm hk e
  have hp := Nat.two_pow_pos k
  have ex : x = 2 ^ (k + 1) * m + 2 ^ k := by rw [hm, Nat.pow_succ, Nat.mul_add, Nat.mul_one, Nat.mul_assoc]
  have hlt : 2 ^ k < 2 ^ (k + 1) := Nat.pow_lt_pow_right (by decide) (by omega)
  have ex1 : x - 1 = 2 ^ (k + 1) * m + (2 ^ k - 1) := by rw [ex]; omega
  have b : ∀ j, x.testBit j = if j < k + 1 then decide (k = j) else m.testBit (j - (k + 1)) := fun j => by
    rw [ex, Nat.testBit_two_pow_mul_add _ hlt, Nat.testBit_two_pow]
  have b1 : ∀ j, (x - 1).testBit j = if j < k + 1 then decide (j < k) else m.testBit (j - (k + 1)) := fun j => by
    rw [ex1, Nat.testBit_two_pow_mul_add _ (by omega), Nat.testBit_two_pow_sub_one]
  have ik : k = i := by
    rcases Nat.lt_trichotomy k i with h | h | h
    · have := h0 k h
      rw [b k, if_pos (by omega)] at this
      simp at this
    · exact h
    · have := h1
      rw [b i, if_pos (by omega)] at this
      simp at this
      omega
  subst ik
  refine ⟨e, fun j => ?_⟩
  rw [Nat.testBit_and, b j, b1 j]
  by_cases c : j < k + 1
  · rw [if_pos c, if_pos c]
    by_cases d : k = j
    · subst d; simp
    · simp [d]
  · rw [if_neg c, if_neg c]
    have : j ≠ k := by omega
    simp [this]

theorem impl_list.ev_l (n : Nat) (hn : n ≤ 62) (d : Nat) : ∀ (i x : Nat) (acc : List Int), i + d = n → x < 2 ^ n → acc.length ≤ i → (∀ j, j < i → x.testBit j = false) →
    Ev (fun q => impl_list.l0 q (x : Int) acc) (acc ++ bitsFrom d i (x : Int)) := by
  have hp := pow62 hn
  induction d with
  | zero =>
    intro i x acc e hx ha h
    have x0 : x = 0 := by
      refine Nat.eq_of_testBit_eq fun j => ?_
      rw [Nat.zero_testBit]
      rcases Nat.lt_or_ge j n with c | c
      · exact h j (by omega)
      · exact Nat.testBit_lt_two_pow (Nat.lt_of_lt_of_le hx (Nat.pow_le_pow_right (by decide) c))
    refine Ev.step (fun k => impl_list.l0.eq_2 ..) ?_
    rw [x0]
    simp only [if_pos (show ((0 : Nat) : Int) = 0 from rfl), bitsFrom, List.append_nil]
    exact Ev.now _
  | succ d ih =>
    intro i x acc e hx ha h
    by_cases c : x.testBit i = true
    · obtain ⟨h1, h2⟩ := low_bit c h (by omega)
      have x0 : x ≠ 0 := fun a => by rw [a] at c; simp at c
      refine Ev.step (fun k => impl_list.l0.eq_2 ..) ?_
      rw [bits_TrailingZeros64.sp (by omega), h1, w64 (by omega) (by omega), show (x : Int) - 1 = ((x - 1 : Nat) : Int) by omega, bit_and _ _ (by omega) (by omega)]
      simp only [if_neg (show ¬ ((x : Int) = 0) by omega), Option.bind_some, if_pos (show acc.length < 17592186044416 by omega)]
      have := ih (i + 1) (x &&& (x - 1)) (acc ++ [(i : Int)]) (by omega) (Nat.lt_of_le_of_lt Nat.and_le_left hx) (by rw [List.length_append]; simp only [List.length_cons, List.length_nil]; omega) (fun j hj => by
        rw [h2 j]
        rcases Nat.lt_succ_iff_lt_or_eq.1 hj with a | rfl
        · rw [h j a]; rfl
        · simp)
      refine ev_cast this ?_
      have cd : dig (x : Int) i = true := by rw [dig_nat]; exact c
      simp only [bitsFrom, if_pos cd, List.append_assoc, List.singleton_append]
      rw [bitsFrom_congr fun j a b => ?_]
      rw [dig_nat, dig_nat, h2 j]
      simp [show j ≠ i by omega]
    · have cd : ¬ dig (x : Int) i = true := by rw [dig_nat]; exact c
      simp only [bitsFrom, if_neg cd]
      refine ih (i + 1) x acc (by omega) hx (by omega) fun j hj => ?_
      rcases Nat.lt_succ_iff_lt_or_eq.1 hj with a | rfl
      · exact h j a
      · simpa using c
theorem impl_list.ev {n : Nat} (hn : n ≤ 62) {x : Nat} (hx : x < 2 ^ n) : Ev (fun q => impl_list.f q (x : Int)) (bitsFrom n 0 (x : Int)) := by
  unfold impl_list.f
  exact impl_list.ev_l n hn n 0 x [] (by omega) hx (by simp) (fun j hj => by omega)

/-- The edges of the vertices from v on, smaller end first. -/
def edgesFrom (rows : List Int) (n : Nat) : Nat → Nat → List (List Int)
  | 0, _ => []
  | d + 1, v => ((bitsFrom n 0 (rd rows (v : Int))).filter fun x => decide ((v : Int) < x)).map (fun x => [(v : Int), x]) ++ edgesFrom rows n d (v + 1)
theorem impl_Graph_edges.ev_1 {n : Int} {rows : List Int} (v : Nat) (hv : v ≤ 62) (T : List Int) (hT : T.length ≤ 62) (R : List (List Int)) (d : Nat) : ∀ (i : Nat) (acc : List (List Int)), i + d = T.length → acc.length ≤ 62 * v + i →
    (∀ acc', acc' = acc ++ ((T.drop i).filter fun x => decide ((v : Int) < x)).map (fun x => [(v : Int), x]) → acc'.length ≤ 62 * (v + 1) → Ev (fun q => impl_Graph_edges.l0 q acc' n ((v : Int) + 1) n rows) R) →
    Ev (fun q => impl_Graph_edges.l1 q acc (v : Int) n (v : Int) T (T.length : Int) (i : Int) n rows) R := by
  induction d with
  | zero =>
    intro i acc e ha next
    refine Ev.step (fun k => impl_Graph_edges.l1.eq_2 ..) ?_
    simp only [if_neg (show ¬ ((i : Int) < (T.length : Int)) by omega)]
    rw [w64 (by omega) (by omega)]
    refine next acc ?_ (by omega)
    rw [List.drop_eq_nil_of_le (by omega)]; simp
  | succ d ih =>
    intro i acc e ha next
    refine Ev.step (fun k => impl_Graph_edges.l1.eq_2 ..) ?_
    simp only [if_pos (show (i : Int) < (T.length : Int) by omega), if_pos (show (0 : Int) ≤ (i : Int) by omega)]
    rw [w64 (by omega) (by omega)]
    by_cases c : rd T (i : Int) > (v : Int)
    · simp only [if_pos c, if_pos (show acc.length < 5864062014805 by omega)]
      refine ih (i + 1) _ (by omega) (by rw [List.length_append]; simp only [List.length_cons, List.length_nil]; omega) fun acc' h1 h2 => next acc' ?_ h2
      rw [h1, drop_rd T i (by omega), List.filter_cons, if_pos (by simpa using c), List.map_cons, List.append_assoc, List.singleton_append]
    · simp only [if_neg c]
      refine ih (i + 1) _ (by omega) (by omega) fun acc' h1 h2 => next acc' ?_ h2
      rw [h1, drop_rd T i (by omega), List.filter_cons, if_neg (by simpa using c)]
theorem impl_Graph_edges.ev_0 {n : Int} {rows : List Int} (g : IsG n rows) (d : Nat) : ∀ (v : Nat) (acc : List (List Int)), v + d = n.toNat → acc.length ≤ 62 * v →
    Ev (fun q => impl_Graph_edges.l0 q acc n (v : Int) n rows) (acc ++ edgesFrom rows n.toNat d v) := by
  have hn := g.le
  have h1 := g.1
  have hl := g.len
  induction d with
  | zero =>
    intro v acc e ha
    refine Ev.step (fun k => impl_Graph_edges.l0.eq_2 ..) ?_
    simp only [if_neg (show ¬ ((v : Int) < n) by omega), edgesFrom, List.append_nil]
    exact Ev.now _
  | succ d ih =>
    intro v acc e ha
    refine Ev.step (fun k => impl_Graph_edges.l0.eq_2 ..) ?_
    simp only [if_pos (show (v : Int) < n by omega), if_pos (show (0 : Int) ≤ (v : Int) by omega), if_pos (show (v : Int) < (rows.length : Int) by omega)]
    obtain ⟨x, hx, hx1⟩ := IsG_row g (v := (v : Int)) (by omega) (by omega)
    rw [hx]
    refine Ev.bind (impl_list.ev hn hx1) ?_
    have hb := bitsFrom_length (x : Int) n.toNat 0
    refine impl_Graph_edges.ev_1 v (by omega) (bitsFrom n.toNat 0 (x : Int)) (by omega) _ (bitsFrom n.toNat 0 (x : Int)).length 0 acc (by omega) (by omega) fun acc' e1 e2 => ?_
    refine ev_cast (ih (v + 1) acc' (by omega) e2) ?_
    rw [e1, edgesFrom, hx, List.drop_zero, List.append_assoc]
theorem impl_Graph_edges.ev {n : Int} {rows : List Int} (g : IsG n rows) : Ev (fun q => impl_Graph_edges.f q n rows) (edgesFrom rows n.toNat n.toNat 0) := by
  unfold impl_Graph_edges.f
  exact impl_Graph_edges.ev_0 g n.toNat 0 [] (by omega) (by simp)
/-! ### the number of edges -/
def sumF : Nat → Nat → (Nat → Nat) → Nat
  | 0, _, _ => 0
  | d + 1, i, f => f i + sumF d (i + 1) f
theorem sumF_congr {f g : Nat → Nat} (d : Nat) : ∀ {i : Nat}, (∀ j, i ≤ j → j < i + d → f j = g j) → sumF d i f = sumF d i g := by
  induction d with
  | zero => intro i _; rfl
  | succ d ih =>
    intro i h
    simp only [sumF]
    rw [h i (by omega) (by omega), ih (i := i + 1) fun j a b => h j (by omega) (by omega)]
theorem sumF_one {f g : Nat → Nat} {x : Nat} (hx : g x = f x + 1) (d : Nat) : ∀ {i : Nat}, i ≤ x → x < i + d → (∀ j, i ≤ j → j < i + d → j ≠ x → f j = g j) → sumF d i g = sumF d i f + 1 := by
  induction d with
  | zero => intro i a b; omega
  | succ d ih =>
    intro i a b h
    simp only [sumF]
    by_cases c : i = x
    · subst c
      rw [hx, sumF_congr d (f := f) (g := g) (i := i + 1) fun j p q => h j (by omega) (by omega) (by omega)]
      omega
    · rw [h i (by omega) (by omega) c, ih (i := i + 1) (by omega) (by omega) fun j p q r => h j (by omega) (by omega) r]
      omega
theorem sumF_zero {f : Nat → Nat} (d : Nat) : ∀ {i : Nat}, (∀ j, i ≤ j → j < i + d → f j = 0) → sumF d i f = 0 := by
  induction d with
  | zero => intro i _; rfl
  | succ d ih =>
    intro i h
    simp only [sumF]
    rw [h i (by omega) (by omega), ih (i := i + 1) fun j a b => h j (by omega) (by omega)]
/-- Is the edge v, w there, v the smaller end? -/
def one (rows : List Int) (v w : Nat) : Nat := if dig (rd rows (v : Int)) w = true ∧ v < w then 1 else 0
def ecnt (rows : List Int) (n : Nat) : Nat := sumF n 0 fun v => sumF n 0 (one rows v)
theorem filter_sum (rows : List Int) (v : Nat) (d : Nat) : ∀ i, ((bitsFrom d i (rd rows (v : Int))).filter fun x => decide ((v : Int) < x)).length = sumF d i (one rows v) := by
  induction d with
  | zero => intro i; rfl
  | succ d ih =>
    intro i
    simp only [bitsFrom, sumF, one]
    by_cases c : dig (rd rows (v : Int)) i = true
    · by_cases e : v < i
      · rw [if_pos c, if_pos ⟨c, e⟩, List.filter_cons, if_pos (by simp; omega), List.length_cons, ih]
        omega
      · rw [if_pos c, if_neg (fun a => e a.2), List.filter_cons, if_neg (by simp; omega), ih]
        omega
    · rw [if_neg c, if_neg (fun a => c a.1), ih]
      omega
theorem edgesFrom_length (rows : List Int) (n : Nat) (d : Nat) : ∀ v, (edgesFrom rows n d v).length = sumF d v fun v => sumF n 0 (one rows v) := by
  induction d with
  | zero => intro v; rfl
  | succ d ih =>
    intro v
    simp only [edgesFrom, sumF, List.length_append, List.length_map, filter_sum, ih]

/-- The shortest cycles' count, taken along a list of edges. -/
noncomputable def shF (rows : List Int) (n : Nat) (t : Int) : List (List Int) → Int → Int
  | [], s => s
  | e :: es, s => shF rows n t es (if arV rows n (rd e 0).toNat (rd e 1).toNat = t then wrap64 (s + wrap64 ((cW (AdjX rows ((rd e 0).toNat : Int) ((rd e 1).toNat : Int)) n (rd e 0).toNat (t - 1).toNat (rd e 1).toNat : Nat) : Int)) else s)
theorem filt_ge {v : Nat} {r : Int} (d : Nat) : ∀ i, v < i → (bitsFrom d i r).filter (fun x => decide ((v : Int) < x)) = bitsFrom d i r := by
  induction d with
  | zero => intro i _; rfl
  | succ d ih =>
    intro i h
    rw [bitsFrom]
    split
    · rw [List.filter_cons, if_pos (by simp; omega), ih (i + 1) (by omega)]
    · exact ih (i + 1) (by omega)
theorem filt_lt {v : Nat} {r : Int} (d : Nat) : ∀ i, i ≤ v + 1 → v + 1 ≤ i + d → (bitsFrom d i r).filter (fun x => decide ((v : Int) < x)) = bitsFrom (i + d - (v + 1)) (v + 1) r := by
  induction d with
  | zero =>
    intro i h k
    have : i = v + 1 := by omega
    subst this
    rw [Nat.add_zero, Nat.sub_self]; rfl
  | succ d ih =>
    intro i h k
    by_cases c : i = v + 1
    · subst c
      rw [filt_ge (d + 1) (v + 1) (by omega), show v + 1 + (d + 1) - (v + 1) = d + 1 by omega]
    · have e := ih (i + 1) (by omega) (by omega)
      rw [show i + 1 + d - (v + 1) = i + (d + 1) - (v + 1) by omega] at e
      rw [bitsFrom]
      split
      · rw [List.filter_cons, if_neg (by simp; omega), e]
      · exact e
theorem edgesFrom_step {n : Int} {rows : List Int} (g : IsG n rows) {d v : Nat} (h : v < n.toNat) : edgesFrom rows n.toNat (d + 1) v = (bitsFrom (n.toNat - (v + 1)) (v + 1) (rd rows (v : Int))).map (fun x => [(v : Int), x]) ++ edgesFrom rows n.toNat d (v + 1) := by
  rw [edgesFrom, filt_lt n.toNat 0 (by omega) (by omega), Nat.zero_add]
theorem mem_edgesFrom {n : Int} {rows : List Int} (g : IsG n rows) (d : Nat) : ∀ v e, v + d = n.toNat → e ∈ edgesFrom rows n.toNat d v → ∃ a b : Nat, e = [(a : Int), (b : Int)] ∧ a < b ∧ b < n.toNat ∧ Adj rows a b := by
  induction d with
  | zero => intro v e _ h; rw [edgesFrom] at h; cases h
  | succ d ih =>
    intro v e hv h
    rw [edgesFrom_step g (by omega), List.mem_append] at h
    rcases h with h | h
    · obtain ⟨x, hx, rfl⟩ := List.mem_map.1 h
      obtain ⟨j, rfl, h1, h2, h3⟩ := mem_bitsFrom.1 hx
      exact ⟨v, j, rfl, by omega, by omega, h3⟩
    · exact ih (v + 1) e (by omega) h
theorem edgesFrom_le (rows : List Int) (n : Nat) (d : Nat) : ∀ v, (edgesFrom rows n d v).length ≤ d * n := by
  induction d with
  | zero => intro v; simp [edgesFrom]
  | succ d ih =>
    intro v
    have h1 := ih (v + 1)
    have h2 := List.length_filter_le (fun x => decide ((v : Int) < x)) (bitsFrom n 0 (rd rows (v : Int)))
    have h3 := bitsFrom_length (rd rows (v : Int)) n 0
    rw [edgesFrom, List.length_append, List.length_map, Nat.succ_mul]
    omega

theorem spec_CountShortest.ev_1 {n : Int} {rows : List Int} (g : IsG n rows) {t : Int} (ht : 0 < t) {i : Nat} (hi : i < n.toNat) {L : List (List Int)} {R : Int × Int}
    (next : ∀ s, shF rows n.toNat t L s = R.1 → Ev (fun q => spec_CountShortest.l0 q t s ((i + 1 : Nat) : Int) n rows) (wrap64 (Int.tdiv R.1 t), R.2)) (d : Nat) :
    ∀ (j : Nat) (s : Int), j + d = n.toNat → i < j → shF rows n.toNat t ((bitsFrom d j (rd rows (i : Int))).map (fun x => [(i : Int), x]) ++ L) s = R.1 →
    Ev (fun q => spec_CountShortest.l1 q t s (i : Int) (j : Int) n rows) (wrap64 (Int.tdiv R.1 t), R.2) := by
  have hn := g.le
  have hl := g.len
  induction d with
  | zero =>
    intro j s e hij h
    refine Ev.step (fun k => spec_CountShortest.l1.eq_2 ..) ?_
    simp only [if_neg (show ¬ ((j : Int) < n) by omega)]
    rw [show wrap64 ((i : Int) + 1) = ((i + 1 : Nat) : Int) by rw [w64 (by omega) (by omega)]; omega]
    exact next s h
  | succ d ih =>
    intro j s e hij h
    have hw : wrap64 ((j : Int) + 1) = ((j + 1 : Nat) : Int) := by rw [w64 (by omega) (by omega)]; omega
    have hj : j < n.toNat := by omega
    obtain ⟨cc, hE, hc⟩ := spec_l02Around.ev g hi hj
    refine Ev.step (fun k => spec_CountShortest.l1.eq_2 ..) ?_
    rw [u64 (n := (j : Int)) (by omega) (by omega), bit_val (v := (j : Int)) (by omega) (by omega), Int.toNat_natCast, hw]
    simp only [if_pos (show (j : Int) < n by omega), if_pos (show (0 : Int) ≤ (i : Int) by omega), if_pos (show (i : Int) < (rows.length : Int) by omega), if_pos (show (0 : Int) ≤ (j : Int) by omega)]
    rw [bitsFrom] at h
    by_cases hA : dig (rd rows (i : Int)) j = true
    · simp only [if_pos hA, if_neg (show ¬ ((1 : Int) = 0) by decide)]
      rw [if_pos hA, List.map_cons, List.cons_append, shF] at h
      simp only [show rd [(i : Int), (j : Int)] 0 = (i : Int) from rfl, show rd [(i : Int), (j : Int)] 1 = (j : Int) from rfl, Int.toNat_natCast] at h
      refine Ev.bind hE ?_
      by_cases c : arV rows n.toNat i j = t
      · simp only [if_pos c]
        rw [if_pos c] at h
        refine ih (j + 1) _ (by omega) (by omega) ?_
        rw [hc (by omega), c]; exact h
      · simp only [if_neg c]
        rw [if_neg c] at h
        exact ih (j + 1) s (by omega) (by omega) h
    · simp only [if_neg hA, if_true]
      rw [if_neg hA] at h
      exact ih (j + 1) s (by omega) (by omega) h
theorem spec_CountShortest.ev_0 {n : Int} {rows : List Int} (g : IsG n rows) {t : Int} (ht : 0 < t) {R : Int} (d : Nat) : ∀ (i : Nat) (s : Int), i + d = n.toNat → shF rows n.toNat t (edgesFrom rows n.toNat d i) s = R → Ev (fun q => spec_CountShortest.l0 q t s (i : Int) n rows) (wrap64 (Int.tdiv R t), 0) := by
  have hn := g.le
  induction d with
  | zero =>
    intro i s e h
    refine Ev.step (fun k => spec_CountShortest.l0.eq_2 ..) ?_
    simp only [if_neg (show ¬ ((i : Int) < n) by omega), if_neg (show ¬ (t = 0) by omega)]
    rw [edgesFrom, shF] at h
    exact ev_some (by rw [h])
  | succ d ih =>
    intro i s e h
    rw [edgesFrom_step g (by omega)] at h
    refine Ev.step (fun k => spec_CountShortest.l0.eq_2 ..) ?_
    simp only [if_pos (show (i : Int) < n by omega)]
    rw [show wrap64 ((i : Int) + 1) = ((i + 1 : Nat) : Int) by rw [w64 (by omega) (by omega)]; omega]
    exact spec_CountShortest.ev_1 g ht (i := i) (R := (R, 0)) (by omega) (fun s' h' => ih (i + 1) s' (by omega) h') (n.toNat - (i + 1)) (i + 1) s (by omega) (by omega) h
noncomputable def shortR (n : Int) (rows : List Int) : Int × Int := if IsG n rows then (if girS (SAll rows n.toNat) = 0 then (0, 4) else (wrap64 (Int.tdiv (shF rows n.toNat (girS (SAll rows n.toNat)) (edgesFrom rows n.toNat n.toNat 0) 0) (girS (SAll rows n.toNat))), 0)) else (0, 1)
theorem girS_bd {n : Int} {rows : List Int} (g : IsG n rows) : 0 ≤ girS (SAll rows n.toNat) ∧ girS (SAll rows n.toNat) ≤ 62 := by
  have hn := g.le
  obtain ⟨z, p, _⟩ := spec_l02Girth.ev g (-1)
  have p := p.congr fun y _ => SG_all (by decide) y
  rw [girS_eq p]
  rcases p with ⟨a, _⟩ | ⟨a, ⟨u, w, h1, h2, _, _, e⟩, _⟩
  · omega
  · have := arV_bd (rows := rows) h1 h2
    omega
theorem spec_CountShortest.ev (n : Int) (rows : List Int) : Ev (fun q => spec_CountShortest.f q n rows) (shortR n rows) := by
  unfold spec_CountShortest.f shortR
  refine Ev.bind (spec_l01Is.ev n rows) ?_
  by_cases h : IsG n rows
  · simp only [h, decide_true, if_true]
    refine Ev.bind (spec_l02Girth.all h) ?_
    have hb := girS_bd h
    by_cases c : girS (SAll rows n.toNat) = 0
    · simp only [if_pos c]; exact Ev.now _
    · simp only [if_neg c]
      exact spec_CountShortest.ev_0 h (by omega) n.toNat 0 0 (Nat.zero_add _) rfl
  · simp only [h, decide_false, Bool.false_eq_true, if_false]
    exact Ev.now _

/-! impl.IsGraph -/
theorem impl_IsGraph.ev_1 (n : Int) (rows : List Int) (hn : 1 ≤ n) (hn1 : n ≤ 62) (hl : (rows.length : Int) = n) (v : Nat) (hv : (v : Int) < n)
    (F : Prop) (hF : Ev (fun q => impl_IsGraph.l0 q n rows (rows.length : Int) ((v + 1 : Nat) : Int) n rows) (decide F)) (d : Nat) : ∀ w : Nat, w + d = rows.length →
    Ev (fun q => impl_IsGraph.l1 q n (v : Int) (rd rows v) rows (rows.length : Int) (v : Int) n (w : Int) n rows) (decide ((∀ k : Nat, w ≤ k → k < rows.length → dig (rd rows v) k = dig (rd rows k) v) ∧ F)) := by
  induction d with
  | zero =>
    intro w e
    refine Ev.step (fun k => impl_IsGraph.l1.eq_2 ..) ?_
    simp only [if_neg (show ¬ ((w : Int) < n) by omega)]
    rw [w64 (by omega) (by omega)]
    refine ev_cast hF ?_
    refine dec_congr ?_
    exact ⟨fun a => ⟨scan_end (by omega), a⟩, fun a => a.2⟩
  | succ d ih =>
    intro w e
    refine Ev.step (fun k => impl_IsGraph.l1.eq_2 ..) ?_
    simp only [if_pos (show (w : Int) < n by omega), if_pos (show (0 : Int) ≤ (w : Int) by omega), if_pos (show (w : Int) < (rows.length : Int) by omega), if_pos (show (0 : Int) ≤ (v : Int) by omega)]
    rw [bit_val (v := (w : Int)) (by omega) (by omega), bit_val (v := (v : Int)) (by omega) (by omega), w64 (n := (w : Int) + 1) (by omega) (by omega)]
    simp only [Int.toNat_natCast]
    by_cases c : dig (rd rows v) w = dig (rd rows w) v
    · simp only [c, if_true]
      refine ev_cast (ih (w + 1) (by omega)) ?_
      refine dec_congr ?_
      rw [scan_step (P := fun k : Nat => dig (rd rows v) k = dig (rd rows k) v) c]
    · rw [decide_eq_false (fun a => c (a.1 w (Nat.le_refl _) (by omega)))]
      have : ¬ ((if dig (rd rows v) w = true then (1 : Int) else 0) = if dig (rd rows w) v = true then 1 else 0) := by
        intro h
        apply c
        cases h1 : dig (rd rows v) w <;> cases h2 : dig (rd rows w) v <;> simp [h1, h2] at h ⊢
      simp only [if_neg this]
      exact Ev.now _
theorem impl_IsGraph.ev_0 (n : Int) (rows : List Int) (hn : 1 ≤ n) (hn1 : n ≤ 62) (hl : (rows.length : Int) = n) (d : Nat) : ∀ v : Nat, v + d = rows.length →
    Ev (fun q => impl_IsGraph.l0 q n rows (rows.length : Int) (v : Int) n rows)
      (decide (∀ k : Nat, v ≤ k → k < rows.length → (0 ≤ rd rows k ∧ rd rows k < ((2 ^ n.toNat : Nat) : Int) ∧ dig (rd rows k) k = false) ∧ ∀ w : Nat, 0 ≤ w → w < rows.length → dig (rd rows k) w = dig (rd rows w) k)) := by
  induction d with
  | zero =>
    intro v e
    refine Ev.step (fun k => impl_IsGraph.l0.eq_2 ..) ?_
    simp only [if_neg (show ¬ ((v : Int) < (rows.length : Int)) by omega)]
    rw [decide_eq_true (scan_end (by omega))]
    exact Ev.now _
  | succ d ih =>
    intro v e
    refine Ev.step (fun k => impl_IsGraph.l0.eq_2 ..) ?_
    simp only [if_pos (show (v : Int) < (rows.length : Int) by omega), if_pos (show (0 : Int) ≤ (v : Int) by omega), if_pos (show 0 ≤ n by omega)]
    rw [shl_one (by omega) hn1, bit_dig (by omega) (by omega), Int.toNat_natCast]
    have key : ∀ g : Bool, (g = true ↔ ¬ (0 ≤ rd rows v ∧ rd rows v < ((2 ^ n.toNat : Nat) : Int) ∧ dig (rd rows v) v = false)) → Ev (fun q => impl_IsGraph.j2 q n (v : Int) (rd rows v) rows (rows.length : Int) (v : Int) g n rows)
        (decide (∀ k : Nat, v ≤ k → k < rows.length → (0 ≤ rd rows k ∧ rd rows k < ((2 ^ n.toNat : Nat) : Int) ∧ dig (rd rows k) k = false) ∧ ∀ w : Nat, 0 ≤ w → w < rows.length → dig (rd rows k) w = dig (rd rows w) k)) := by
      intro g hg
      refine Ev.step (fun k => impl_IsGraph.j2.eq_2 ..) ?_
      by_cases c : g = true
      · simp only [if_pos c]
        rw [decide_eq_false (fun a => hg.1 c (a v (Nat.le_refl _) (by omega)).1)]
        exact Ev.now _
      · simp only [if_neg c]
        have c2 : 0 ≤ rd rows v ∧ rd rows v < ((2 ^ n.toNat : Nat) : Int) ∧ dig (rd rows v) v = false := Classical.not_not.1 fun a => c (hg.2 a)
        refine ev_cast (impl_IsGraph.ev_1 n rows hn hn1 hl v (by omega) _ (ih (v + 1) (by omega)) rows.length 0 (by omega)) ?_
        refine dec_congr ?_
        constructor
        · rintro ⟨a1, a2⟩
          exact (scan_step (P := fun k : Nat => (0 ≤ rd rows k ∧ rd rows k < ((2 ^ n.toNat : Nat) : Int) ∧ dig (rd rows k) k = false) ∧ ∀ w : Nat, 0 ≤ w → w < rows.length → dig (rd rows k) w = dig (rd rows w) k) (i := v) ⟨c2, a1⟩).2 a2
        · intro a
          exact ⟨(a v (Nat.le_refl _) (by omega)).2, fun k hk hk1 => a k (by omega) hk1⟩
    by_cases c1 : rd rows v < 0
    · simp only [if_pos c1]
      exact key true ⟨fun _ a => by omega, fun _ => rfl⟩
    · simp only [if_neg c1]
      by_cases c2 : rd rows v ≥ ((2 ^ n.toNat : Nat) : Int)
      · simp only [if_pos c2]
        exact key true ⟨fun _ a => by omega, fun _ => rfl⟩
      · simp only [if_neg c2]
        exact key _ ⟨fun g a => by rw [a.2.2] at g; exact Bool.false_ne_true g, fun g => by
          by_cases h : dig (rd rows v) v = true
          · exact h
          · exact (g ⟨by omega, by omega, by simpa using h⟩).elim⟩
theorem isG_iff (n : Int) (rows : List Int) (hn : 1 ≤ n) (hn1 : n ≤ 62) (hl : (rows.length : Int) = n) :
    (∀ k : Nat, 0 ≤ k → k < rows.length → (0 ≤ rd rows k ∧ rd rows k < ((2 ^ n.toNat : Nat) : Int) ∧ dig (rd rows k) k = false) ∧ ∀ w : Nat, 0 ≤ w → w < rows.length → dig (rd rows k) w = dig (rd rows w) k) ↔ IsG n rows :=
  ⟨fun a => ⟨hn, hn1, hl, fun v hv => (a v (by omega) (by omega)).1, fun v w hv hw => (a v (by omega) (by omega)).2 w (by omega) (by omega)⟩,
    fun a k _ hk => ⟨a.2.2.2.1 k (by omega), fun w _ hw => a.2.2.2.2 k w (by omega) (by omega)⟩⟩
theorem impl_IsGraph.ev (n : Int) (rows : List Int) : Ev (fun q => impl_IsGraph.f q n rows) (decide (IsG n rows)) := by
  unfold impl_IsGraph.f
  by_cases h1 : n < 1
  · simp only [if_pos h1]
    refine Ev.step (fun k => impl_IsGraph.j0.eq_2 ..) ?_
    simp only [if_true]; rw [decide_eq_false (fun a => by have := a.1; omega)]; exact Ev.now _
  by_cases h2 : n > 62
  · simp only [if_neg h1, if_pos h2]
    refine Ev.step (fun k => impl_IsGraph.j0.eq_2 ..) ?_
    simp only [if_true]; rw [decide_eq_false (fun a => by have := a.2.1; omega)]; exact Ev.now _
  simp only [if_neg h1, if_neg h2]
  refine Ev.step (fun k => impl_IsGraph.j0.eq_2 ..) ?_
  by_cases h3 : (rows.length : Int) = n
  · simp only [h3, bne_self_eq_false, Bool.false_eq_true, if_false]
    have := impl_IsGraph.ev_0 n rows (by omega) (by omega) h3 rows.length 0 (by omega)
    rw [h3] at this
    refine ev_cast this ?_
    refine dec_congr ?_
    exact isG_iff n rows (by omega) (by omega) h3
  · simp only [bne_iff_ne, ne_eq, h3, not_false_eq_true, if_true]
    rw [decide_eq_false (fun a => h3 a.2.2.1)]
    exact Ev.now _

theorem slices_Repeat.sp {n : Int} (h0 : 1 ≤ n) (h1 : n ≤ 62) : slices_Repeat_int64_int64.f [-1] n = some (List.replicate n.toNat (-1)) := by
  unfold slices_Repeat_int64_int64.f
  rw [if_pos (show ([-1] : List Int).length = 1 from rfl), if_pos h0, if_pos h1]
  rfl
theorem bit_lt' {m c r : Nat} (hc : c < 2 ^ m) (h : c.testBit r = true) : r < m := by
  rcases Nat.lt_or_ge r m with a | a
  · exact a
  · rw [Nat.testBit_lt_two_pow (Nat.lt_of_lt_of_le hc (Nat.pow_le_pow_right (by decide) a))] at h; cases h
section
variable {n : Int} {rows : List Int} (g : IsG n rows)
include g
theorem impl_Graph_distances.ev_1 {S F dd : Nat} (hF : F < 2 ^ n.toNat) {X0 : List Int} (hX0 : X0.length = n.toNat) (R : List Int)
    (next : ∀ (X : List Int) (N : Nat), X.length = n.toNat → (∀ w, w < n.toNat → rd X (w : Int) = if F.testBit w = true then (dd : Int) else rd X0 (w : Int)) → N < 2 ^ n.toNat → (∀ j, N.testBit j = true ↔ ∃ u, u < n.toNat ∧ F.testBit u = true ∧ Adj rows u j) →
      Ev (fun q => impl_Graph_distances.l0 q X (Go.bits .or .i64 (S : Int) (N : Int)) (Go.bits .andNot .i64 (N : Int) (S : Int)) (wrap64 ((dd : Int) + 1)) n rows) R) (d : Nat) :
    ∀ (i A : Nat) (X : List Int), i + d = (bitsFrom n.toNat 0 (F : Int)).length → A < 2 ^ n.toNat → X.length = n.toNat →
      (∀ w, w < n.toNat → rd X (w : Int) = if ∃ k : Nat, k < i ∧ rd (bitsFrom n.toNat 0 (F : Int)) (k : Int) = (w : Int) then (dd : Int) else rd X0 (w : Int)) →
      (∀ j, A.testBit j = true ↔ ∃ k : Nat, k < i ∧ ∃ u : Nat, rd (bitsFrom n.toNat 0 (F : Int)) (k : Int) = (u : Int) ∧ Adj rows u j) →
      Ev (fun q => impl_Graph_distances.l1 q X (S : Int) (dd : Int) (A : Int) (bitsFrom n.toNat 0 (F : Int)) ((bitsFrom n.toNat 0 (F : Int)).length : Int) (i : Int) n rows) R := by
  have hn := g.le
  have hp := pow62 hn
  have hlen := bitsFrom_length (F : Int) n.toNat 0
  have hrl := g.len
  have elem : ∀ k : Nat, k < (bitsFrom n.toNat 0 (F : Int)).length → ∃ u : Nat, rd (bitsFrom n.toNat 0 (F : Int)) (k : Int) = (u : Int) ∧ u < n.toNat ∧ F.testBit u = true := fun k hk => by
    obtain ⟨u, a, _, b, c⟩ := mem_bitsFrom.1 (rd_mem (l := bitsFrom n.toNat 0 (F : Int)) (i := (k : Int)) (by omega) (by omega))
    exact ⟨u, a, by omega, by rw [← dig_nat]; exact c⟩
  have back : ∀ u, u < n.toNat → F.testBit u = true → ∃ k : Nat, k < (bitsFrom n.toNat 0 (F : Int)).length ∧ rd (bitsFrom n.toNat 0 (F : Int)) (k : Int) = (u : Int) := fun u hu hb => by
    obtain ⟨k, hk, hr⟩ := mem_rd.1 (show (u : Int) ∈ bitsFrom n.toNat 0 (F : Int) from mem_bitsFrom.2 ⟨u, rfl, by omega, by omega, by rw [dig_nat]; exact hb⟩)
    exact ⟨k, hk, hr⟩
  induction d with
  | zero =>
    intro i A X e hA hX hXv hAb
    refine Ev.step (fun k => impl_Graph_distances.l1.eq_2 ..) ?_
    simp only [if_neg (show ¬ ((i : Int) < ((bitsFrom n.toNat 0 (F : Int)).length : Int)) by omega)]
    refine next X A hX (fun w hw => ?_) hA fun j => (hAb j).trans ⟨?_, ?_⟩
    · rw [hXv w hw]
      by_cases c : F.testBit w = true
      · obtain ⟨k, hk, hr⟩ := back w hw c
        rw [if_pos c, if_pos ⟨k, by omega, hr⟩]
      · rw [if_neg c, if_neg]
        rintro ⟨k, hk, hr⟩
        obtain ⟨u, a, _, b⟩ := elem k (by omega)
        have : u = w := by omega
        subst this
        exact c b
    · rintro ⟨k, hk, u, hu, ha⟩
      obtain ⟨u', a, b, c⟩ := elem k (by omega)
      have : u = u' := by omega
      subst this
      exact ⟨u, b, c, ha⟩
    · rintro ⟨u, hu, hb, ha⟩
      obtain ⟨k, hk, hr⟩ := back u hu hb
      exact ⟨k, by omega, u, hr, ha⟩
  | succ d ih =>
    intro i A X e hA hX hXv hAb
    refine Ev.step (fun k => impl_Graph_distances.l1.eq_2 ..) ?_
    obtain ⟨u, hu, hun, _⟩ := elem i (by omega)
    obtain ⟨x, hx, hx1⟩ := IsG_row g (v := (u : Int)) (by omega) (by omega)
    rw [hu, hx, w64 (n := (i : Int) + 1) (by omega) (by omega), bit_or _ _ (by omega) (by omega)]
    simp only [if_pos (show (i : Int) < ((bitsFrom n.toNat 0 (F : Int)).length : Int) by omega), if_pos (show (0 : Int) ≤ (i : Int) by omega), if_pos (show (0 : Int) ≤ (u : Int) by omega), if_pos (show (u : Int) < (rows.length : Int) by omega), if_pos (show (u : Int) < (X.length : Int) by omega), Int.toNat_natCast]
    refine ih (i + 1) (A ||| x) (X.set u (dd : Int)) (by omega) (Nat.or_lt_two_pow hA hx1) (by rw [List.length_set]; exact hX) (fun w hw => ?_) fun j => ?_
    · by_cases c : w = u
      · subst c
        rw [rd_set_self _ _ (by omega), if_pos ⟨i, by omega, hu⟩]
      · rw [rd_set_ne _ _ _ (fun a => c a.symm), hXv w hw]
        by_cases z : ∃ k : Nat, k < i ∧ rd (bitsFrom n.toNat 0 (F : Int)) (k : Int) = (w : Int)
        · obtain ⟨k, a, b⟩ := z
          rw [if_pos ⟨k, a, b⟩, if_pos ⟨k, by omega, b⟩]
        · rw [if_neg z, if_neg]
          rintro ⟨k, a, b⟩
          rcases Nat.lt_succ_iff_lt_or_eq.1 a with a | rfl
          · exact z ⟨k, a, b⟩
          · exact c (by omega)
    · rw [Nat.testBit_or, Bool.or_eq_true, hAb j]
      have hxb : x.testBit j = true ↔ Adj rows u j := by unfold Adj; rw [hx, dig_nat]
      rw [hxb]
      constructor
      · rintro (⟨k, a, b⟩ | a)
        · exact ⟨k, by omega, b⟩
        · exact ⟨i, by omega, u, hu, a⟩
      · rintro ⟨k, a, u', b, c⟩
        rcases Nat.lt_succ_iff_lt_or_eq.1 a with a | rfl
        · exact .inl ⟨k, a, u', b, c⟩
        · have : u' = u := by omega
          subst this
          exact .inr c
theorem impl_Graph_distances.ev_0 {v : Nat} (hv : v < n.toNat) (k : Nat) : ∀ (d S F : Nat) (X : List Int), S < 2 ^ n.toNat → F < 2 ^ n.toNat → X.length = n.toNat → (∀ w, F.testBit w = true ↔ AtD (Adj rows) n.toNat v d w) → (∀ w, S.testBit w = true ↔ ∃ e, e ≤ d ∧ Wk (Adj rows) n.toNat v e w) →
    (∀ w, w < n.toNat → (∃ e, e < d ∧ AtD (Adj rows) n.toNat v e w ∧ rd X (w : Int) = (e : Int)) ∨ ((∀ e, e < d → ¬ Wk (Adj rows) n.toNat v e w) ∧ rd X (w : Int) = -1)) → (F = 0 ∨ (d < S ∧ 2 ^ n.toNat - S < k)) →
    Ev (fun q => impl_Graph_distances.l0 q X (S : Int) (F : Int) (d : Int) n rows) (distL (Adj rows) n.toNat v) := by
  have hn := g.le
  have hp := pow62 hn
  have done : ∀ (d S : Nat) (X : List Int), X.length = n.toNat → (∀ w, (0 : Nat).testBit w = true ↔ AtD (Adj rows) n.toNat v d w) →
      (∀ w, w < n.toNat → (∃ e, e < d ∧ AtD (Adj rows) n.toNat v e w ∧ rd X (w : Int) = (e : Int)) ∨ ((∀ e, e < d → ¬ Wk (Adj rows) n.toNat v e w) ∧ rd X (w : Int) = -1)) →
      Ev (fun q => impl_Graph_distances.l0 q X (S : Int) ((0 : Nat) : Int) (d : Int) n rows) (distL (Adj rows) n.toNat v) := by
    intro d S X hX h0 h3
    refine Ev.step (fun k => impl_Graph_distances.l0.eq_2 ..) ?_
    simp only [if_pos (show ((0 : Nat) : Int) = 0 from rfl)]
    refine ev_some (distL_eq hX fun w hw => ?_)
    rcases h3 w hw with ⟨e, _, a, b⟩ | ⟨a, b⟩
    · exact .inr ⟨e, b, a⟩
    · refine .inl ⟨b, fun e he => ?_⟩
      obtain ⟨x, _, p, q⟩ := least_of (P := fun e => Wk (Adj rows) n.toNat v e w) e he
      have hx : d ≤ x := by
        rcases Nat.lt_or_ge x d with y | y
        · exact absurd p (a x y)
        · exact y
      obtain ⟨u, hu⟩ := AtD.down (d := d) (x - d) (w := w) (by rw [show d + (x - d) = x by omega]; exact ⟨p, q⟩)
      have := (h0 u).2 hu
      rw [Nat.zero_testBit] at this
      cases this
  induction k with
  | zero =>
    intro d S F X hS hF hX h0 h1 h3 h4
    have : F = 0 := by rcases h4 with h | h <;> omega
    subst this
    exact done d S X hX h0 h3
  | succ k ih =>
    intro d S F X hS hF hX h0 h1 h3 h4
    by_cases f0 : F = 0
    · subst f0; exact done d S X hX h0 h3
    · have h5 := h4.resolve_left f0
      refine Ev.step (fun k => impl_Graph_distances.l0.eq_2 ..) ?_
      simp only [if_neg (show ¬ ((F : Int) = 0) by omega)]
      refine Ev.bind (impl_list.ev hn hF) ?_
      refine impl_Graph_distances.ev_1 g (S := S) (dd := d) hF hX _ (fun X' N hX' hXv hN hNb => ?_) (bitsFrom n.toNat 0 (F : Int)).length 0 0 X (by omega) (Nat.two_pow_pos _) hX (fun w hw => by
        rw [if_neg]; rintro ⟨k, a, _⟩; omega) (fun j => by
        rw [Nat.zero_testBit]
        exact ⟨fun a => (by cases a), fun ⟨k, a, _⟩ => by omega⟩)
      obtain ⟨G, hG, hGb⟩ := bit_andNot N S (by omega) (by omega)
      have hG1 : G < 2 ^ n.toNat := Nat.lt_pow_two_of_testBit _ fun i hi => by
        rw [hGb i, Nat.testBit_lt_two_pow (Nat.lt_of_lt_of_le hN (Nat.pow_le_pow_right (by decide) hi))]; rfl
      rw [hG, bit_or _ _ (by omega) (by omega), w64 (by omega) (by omega)]
      have hle : S ≤ S ||| N := Nat.left_le_or
      have jn : ∀ j, N.testBit j = true → j < n.toNat := fun j hj => bit_lt' hN hj
      have nw : ∀ j, N.testBit j = true → Wk (Adj rows) n.toNat v (d + 1) j := fun j hj => by
        obtain ⟨u, a, b, c⟩ := (hNb j).1 hj
        exact ⟨jn j hj, u, a, ((h0 u).1 b).1, c⟩
      have hnext : ∀ w, Wk (Adj rows) n.toNat v (d + 1) w → S.testBit w = true ∨ N.testBit w = true := fun w hw => by
        obtain ⟨a, u, b, c, e⟩ := hw
        by_cases z : F.testBit u = true
        · exact .inr ((hNb w).2 ⟨u, b, z, e⟩)
        · refine .inl ((h1 w).2 ?_)
          have : ∃ x, x < d ∧ Wk (Adj rows) n.toNat v x u := by
            refine Classical.byContradiction fun no => z ((h0 u).2 ⟨c, fun x hx p => no ⟨x, hx, p⟩⟩)
          obtain ⟨x, p, q⟩ := this
          exact ⟨x + 1, by omega, a, u, b, q, e⟩
      refine ih (d + 1) (S ||| N) G X' (Nat.or_lt_two_pow hS hN) hG1 hX' (fun w => ?_) (fun w => ?_) (fun w hw => ?_) ?_
      · rw [hGb w]
        simp only [Bool.and_eq_true, Bool.not_eq_true']
        constructor
        · rintro ⟨a, b⟩
          refine ⟨nw w a, fun e he p => ?_⟩
          rw [(h1 w).2 ⟨e, by omega, p⟩] at b
          cases b
        · rintro ⟨a, b⟩
          have ns : ¬ S.testBit w = true := fun z => by
            obtain ⟨e, x, y⟩ := (h1 w).1 z
            exact b e (by omega) y
          exact ⟨(hnext w a).resolve_left ns, by simpa using ns⟩
      · rw [Nat.testBit_or, Bool.or_eq_true]
        constructor
        · rintro (a | a)
          · obtain ⟨e, x, y⟩ := (h1 w).1 a
            exact ⟨e, by omega, y⟩
          · exact ⟨d + 1, Nat.le_refl _, nw w a⟩
        · rintro ⟨e, x, y⟩
          by_cases z : e ≤ d
          · exact .inl ((h1 w).2 ⟨e, z, y⟩)
          · rw [show e = d + 1 by omega] at y
            exact hnext w y
      · rw [hXv w hw]
        by_cases z : F.testBit w = true
        · rw [if_pos z]
          exact .inl ⟨d, by omega, (h0 w).1 z, rfl⟩
        · rw [if_neg z]
          rcases h3 w hw with ⟨e, a, b⟩ | ⟨a, b⟩
          · exact .inl ⟨e, by omega, b⟩
          · refine .inr ⟨fun e he p => ?_, b⟩
            rcases Nat.lt_succ_iff_lt_or_eq.1 he with y | rfl
            · exact a e y p
            · exact z ((h0 w).2 ⟨p, a⟩)
      · by_cases g0 : G = 0
        · exact .inl g0
        · refine .inr ?_
          have ne : S ||| N ≠ S := fun a => by
            refine g0 (Nat.eq_of_testBit_eq fun i => ?_)
            rw [hGb i, Nat.zero_testBit]
            by_cases x : N.testBit i = true
            · have : (S ||| N).testBit i = true := by rw [Nat.testBit_or, x]; simp
              rw [a] at this
              rw [x, this]; rfl
            · have : N.testBit i = false := by simpa using x
              rw [this]; rfl
          omega
theorem impl_Graph_distances.ev (v : Nat) (hv : v < n.toNat) : Ev (fun q => impl_Graph_distances.f q n rows (v : Int)) (distL (Adj rows) n.toNat v) := by
  have hn := g.le
  have hp := pow62 hn
  have hb : 2 ^ v < 2 ^ n.toNat := Nat.pow_lt_pow_right (by decide) hv
  have h2 := Nat.one_le_two_pow (n := v)
  unfold impl_Graph_distances.f
  rw [slices_Repeat.sp g.1 g.2.1]
  simp only [Option.bind_some, if_pos (show (0 : Int) ≤ (v : Int) by omega)]
  rw [shl_one (by omega) (by omega), Int.toNat_natCast]
  refine impl_Graph_distances.ev_0 g hv (2 ^ n.toNat + 1) 0 (2 ^ v) (2 ^ v) _ hb hb (by simp) (fun w => ?_) (fun w => ?_) (fun w hw => .inr ⟨fun e he => by omega, ?_⟩) (.inr ⟨h2, Nat.lt_succ_of_le (Nat.sub_le _ _)⟩)
  · rw [Nat.testBit_two_pow, decide_eq_true_eq]
    exact ⟨fun a => ⟨a.symm, fun e he => by omega⟩, fun a => a.1.symm⟩
  · rw [Nat.testBit_two_pow, decide_eq_true_eq]
    exact ⟨fun a => ⟨0, Nat.le_refl _, a.symm⟩, fun ⟨e, a, b⟩ => by
      have : e = 0 := by omega
      subst this
      exact b.symm⟩
  · rw [rd_nat]; simp [hw]
end

theorem impl_own.sp {n : Int} {rows : List Int} (g : IsG n rows) : impl_own.f n rows = some (n, rows) := by
  have hl := g.len
  have hn := g.le
  unfold impl_own.f slices_Clone_int64_int64.f
  rw [if_pos (by omega)]; rfl
theorem impl_Graph_take.sp {n : Int} {rows : List Int} (g : IsG n rows) {a b : Nat} (ha : a < n.toNat) (hb : b < n.toNat) (hab : a ≠ b) : impl_Graph_take.f n rows (a : Int) (b : Int) = some (gr n.toNat (AdjX rows a b)) := by
  have hl := g.len
  have hn := g.le
  unfold impl_Graph_take.f
  rw [if_pos (show (0 : Int) ≤ (a : Int) by omega), if_pos (show (a : Int) < (rows.length : Int) by omega), if_pos (show (0 : Int) ≤ (b : Int) by omega), shl_one (show (0 : Int) ≤ (b : Int) by omega) (by omega), shl_one (show (0 : Int) ≤ (a : Int) by omega) (by omega), Option.bind_some, if_pos (show (b : Int) < (rows.length : Int) by omega)]
  simp only [Int.toNat_natCast]
  rw [rd_set_ne _ _ _ hab, taken g ha hb hab]
theorem impl_Graph_around.ev {n : Int} {rows : List Int} (g : IsG n rows) {a b : Nat} (ha : a < n.toNat) (hb : b < n.toNat) (hab : a ≠ b) : Ev (fun q => impl_Graph_around.f q n rows (a : Int) (b : Int)) (arV rows n.toNat a b) := by
  have hn := g.le
  have hDl := distL_length (AdjX rows a b) n.toNat a
  have hbd := distL_bd (AdjX rows a b) ha hb
  unfold impl_Graph_around.f arV
  refine Ev.bind (ev_eq fun _ => impl_own.sp g) ?_
  refine Ev.bind (ev_eq fun _ => impl_Graph_take.sp g ha hb hab) ?_
  refine Ev.bind (impl_Graph_distances.ev (taken_G g) a ha) ?_
  rw [distL_congr (E := Adj (gr n.toNat (AdjX rows a b))) (F := AdjX rows a b) taken_adj a]
  simp only [if_pos (show (0 : Int) ≤ (b : Int) by omega), if_pos (show (b : Int) < ((distL (AdjX rows a b) n.toNat a).length : Int) by omega)]
  rw [w64 (by omega) (by omega)]
  exact Ev.now _

theorem impl_Graph_girthAt.ev_0 {n : Int} {rows : List Int} (g : IsG n rows) {v : Nat} (hv : v < n.toNat) {T : List Int} (hT : T.length ≤ 62) (hel : ∀ k : Nat, k < T.length → ∃ u : Nat, rd T (k : Int) = (u : Int) ∧ u < n.toNat ∧ Adj rows v u) (d : Nat) :
    ∀ (i : Nat) (x : Int), i + d = T.length → GirIs (fun y => ∃ k : Nat, k < i ∧ y = arV rows n.toNat v (rd T (k : Int)).toNat) x →
    ∃ z, GirIs (fun y => ∃ k : Nat, k < T.length ∧ y = arV rows n.toNat v (rd T (k : Int)).toNat) z ∧ Ev (fun q => impl_Graph_girthAt.l0 q (v : Int) x T (T.length : Int) (i : Int) n rows) z := by
  induction d with
  | zero =>
    intro i x e h
    have : i = T.length := by omega
    subst this
    refine ⟨x, h, Ev.step (fun k => impl_Graph_girthAt.l0.eq_2 ..) ?_⟩
    simp only [if_neg (show ¬ ((T.length : Int) < (T.length : Int)) by omega)]
    exact Ev.now _
  | succ d ih =>
    intro i x e h
    obtain ⟨u, hu, hun, hA⟩ := hel i (by omega)
    have hvu : v ≠ u := fun z => by subst z; exact g.irrefl hv hA
    have hb := arV_bd (rows := rows) hv hun
    have hw : wrap64 ((i : Int) + 1) = ((i + 1 : Nat) : Int) := by rw [w64 (by omega) (by omega)]; omega
    have hcg : ∀ {z : Int}, GirIs (fun y => (∃ k : Nat, k < i ∧ y = arV rows n.toNat v (rd T (k : Int)).toNat) ∨ y = arV rows n.toNat v u) z → GirIs (fun y => ∃ k : Nat, k < i + 1 ∧ y = arV rows n.toNat v (rd T (k : Int)).toNat) z := fun hz => hz.congr fun y _ => ⟨fun a => by
      rcases a with ⟨k, a, b⟩ | a
      · exact ⟨k, by omega, b⟩
      · exact ⟨i, by omega, by rw [hu, Int.toNat_natCast]; exact a⟩, fun ⟨k, a, b⟩ => by
      rcases Nat.lt_succ_iff_lt_or_eq.1 a with c | rfl
      · exact .inl ⟨k, c, b⟩
      · rw [hu, Int.toNat_natCast] at b; exact .inr b⟩
    obtain ⟨j1, j2, j3⟩ := h.join (GirIs.single hb.1)
    have st : ∀ {z : Int} {r : Int}, Ev (fun q => if arV rows n.toNat v u > 0 then (if x = 0 then impl_Graph_girthAt.l0 q (v : Int) (arV rows n.toNat v u) T (T.length : Int) (wrap64 ((i : Int) + 1)) n rows else if arV rows n.toNat v u < x then impl_Graph_girthAt.l0 q (v : Int) (arV rows n.toNat v u) T (T.length : Int) (wrap64 ((i : Int) + 1)) n rows else impl_Graph_girthAt.l0 q (v : Int) x T (T.length : Int) (wrap64 ((i : Int) + 1)) n rows) else impl_Graph_girthAt.l0 q (v : Int) x T (T.length : Int) (wrap64 ((i : Int) + 1)) n rows) r → Ev (fun q => impl_Graph_girthAt.l0 q (v : Int) x T (T.length : Int) (i : Int) n rows) r := fun k => by
      refine Ev.step (fun k => impl_Graph_girthAt.l0.eq_2 ..) ?_
      simp only [if_pos (show (i : Int) < (T.length : Int) by omega), if_pos (show (0 : Int) ≤ (i : Int) by omega), hu]
      exact Ev.bind (impl_Graph_around.ev g hv hun hvu) k
    by_cases c : arV rows n.toNat v u > 0
    · by_cases c1 : x = 0
      · obtain ⟨z, p, q⟩ := ih (i + 1) _ (by omega) (hcg (j2 c (.inl c1)))
        refine ⟨z, p, st (z := 0) ?_⟩
        simp only [if_pos c, if_pos c1]; rw [hw]; exact q
      · by_cases c2 : arV rows n.toNat v u < x
        · obtain ⟨z, p, q⟩ := ih (i + 1) _ (by omega) (hcg (j2 c (.inr c2)))
          refine ⟨z, p, st (z := 0) ?_⟩
          simp only [if_pos c, if_neg c1, if_pos c2]; rw [hw]; exact q
        · obtain ⟨z, p, q⟩ := ih (i + 1) _ (by omega) (hcg (j3 c c1 c2))
          refine ⟨z, p, st (z := 0) ?_⟩
          simp only [if_pos c, if_neg c1, if_neg c2]; rw [hw]; exact q
    · obtain ⟨z, p, q⟩ := ih (i + 1) _ (by omega) (hcg (j1 (by omega)))
      refine ⟨z, p, st (z := 0) ?_⟩
      simp only [if_neg c]; rw [hw]; exact q
theorem impl_Graph_girthAt.ev {n : Int} {rows : List Int} (g : IsG n rows) {v : Nat} (hv : v < n.toNat) : ∃ z, GirIs (SAt rows n.toNat v) z ∧ Ev (fun q => impl_Graph_girthAt.f q n rows (v : Int)) z := by
  have hn := g.le
  have hl := g.len
  obtain ⟨x, hx, hx1⟩ := IsG_row g (v := (v : Int)) (by omega) (by omega)
  have hb := bitsFrom_length (x : Int) n.toNat 0
  have hel : ∀ k : Nat, k < (bitsFrom n.toNat 0 (x : Int)).length → ∃ u : Nat, rd (bitsFrom n.toNat 0 (x : Int)) (k : Int) = (u : Int) ∧ u < n.toNat ∧ Adj rows v u := fun k hk => by
    obtain ⟨u, a, _, b, c⟩ := mem_bitsFrom.1 (rd_mem (l := bitsFrom n.toNat 0 (x : Int)) (i := (k : Int)) (by omega) (by omega))
    exact ⟨u, a, by omega, by unfold Adj; rw [hx]; exact c⟩
  obtain ⟨z, p, q⟩ := impl_Graph_girthAt.ev_0 g hv (T := bitsFrom n.toNat 0 (x : Int)) (by omega) hel _ 0 0 (Nat.zero_add _) (GirIs.none.congr fun y _ => ⟨fun a => a.elim, fun ⟨k, a, _⟩ => by omega⟩)
  refine ⟨z, p.congr fun y _ => ⟨fun ⟨k, a, b⟩ => ?_, fun ⟨w, a, b, c⟩ => ?_⟩, ?_⟩
  · obtain ⟨u, h1, h2, h3⟩ := hel k a
    rw [h1, Int.toNat_natCast] at b
    exact ⟨u, h2, h3, b⟩
  · obtain ⟨k, hk, hr⟩ := mem_rd.1 (show (w : Int) ∈ bitsFrom n.toNat 0 (x : Int) from mem_bitsFrom.2 ⟨w, rfl, by omega, by omega, by unfold Adj at b; rw [hx] at b; exact b⟩)
    exact ⟨k, hk, by rw [hr, Int.toNat_natCast]; exact c⟩
  · unfold impl_Graph_girthAt.f
    simp only [if_pos (show (0 : Int) ≤ (v : Int) by omega), if_pos (show (v : Int) < (rows.length : Int) by omega), hx]
    exact Ev.bind (impl_list.ev hn hx1) q
theorem impl_Graph_girthAt.at_ {n : Int} {rows : List Int} (g : IsG n rows) {v : Nat} (hv : v < n.toNat) : Ev (fun q => impl_Graph_girthAt.f q n rows (v : Int)) (girS (SAt rows n.toNat v)) := by
  obtain ⟨z, p, q⟩ := impl_Graph_girthAt.ev g hv
  rw [girS_eq p]; exact q

theorem impl_Graph_girth.ev_0 {n : Int} {rows : List Int} (g : IsG n rows) (d : Nat) :
    ∀ (i : Nat) (x : Int), i + d = n.toNat → GirIs (fun y => ∃ v, v < i ∧ SAt rows n.toNat v y) x →
    ∃ z, GirIs (fun y => ∃ v, v < n.toNat ∧ SAt rows n.toNat v y) z ∧ Ev (fun q => impl_Graph_girth.l0 q x n (i : Int) n rows) z := by
  have hn := g.le
  induction d with
  | zero =>
    intro i x e h
    have : i = n.toNat := by omega
    subst this
    refine ⟨x, h, Ev.step (fun k => impl_Graph_girth.l0.eq_2 ..) ?_⟩
    simp only [if_neg (show ¬ (((n.toNat : Nat) : Int) < n) by omega)]
    exact Ev.now _
  | succ d ih =>
    intro i x e h
    have hw : wrap64 ((i : Int) + 1) = ((i + 1 : Nat) : Int) := by rw [w64 (by omega) (by omega)]; omega
    obtain ⟨t, ht, hE⟩ := impl_Graph_girthAt.ev g (v := i) (by omega)
    have hcg : ∀ {z : Int}, GirIs (fun y => (∃ v, v < i ∧ SAt rows n.toNat v y) ∨ SAt rows n.toNat i y) z → GirIs (fun y => ∃ v, v < i + 1 ∧ SAt rows n.toNat v y) z := fun hz => hz.congr fun y _ => ⟨fun a => by
      rcases a with ⟨k, a, b⟩ | a
      · exact ⟨k, by omega, b⟩
      · exact ⟨i, by omega, a⟩, fun ⟨k, a, b⟩ => by
      rcases Nat.lt_succ_iff_lt_or_eq.1 a with c | rfl
      · exact .inl ⟨k, c, b⟩
      · exact .inr b⟩
    obtain ⟨j1, j2, j3⟩ := h.join ht
    have st : ∀ {r : Int}, Ev (fun q => if t > 0 then (if x = 0 then impl_Graph_girth.l0 q t n (wrap64 ((i : Int) + 1)) n rows else if t < x then impl_Graph_girth.l0 q t n (wrap64 ((i : Int) + 1)) n rows else impl_Graph_girth.l0 q x n (wrap64 ((i : Int) + 1)) n rows) else impl_Graph_girth.l0 q x n (wrap64 ((i : Int) + 1)) n rows) r → Ev (fun q => impl_Graph_girth.l0 q x n (i : Int) n rows) r := fun k => by
      refine Ev.step (fun k => impl_Graph_girth.l0.eq_2 ..) ?_
      simp only [if_pos (show (i : Int) < n by omega)]
      exact Ev.bind hE k
    by_cases c : t > 0
    · by_cases c1 : x = 0
      · obtain ⟨z, p, q⟩ := ih (i + 1) _ (by omega) (hcg (j2 c (.inl c1)))
        refine ⟨z, p, st ?_⟩
        simp only [if_pos c, if_pos c1]; rw [hw]; exact q
      · by_cases c2 : t < x
        · obtain ⟨z, p, q⟩ := ih (i + 1) _ (by omega) (hcg (j2 c (.inr c2)))
          refine ⟨z, p, st ?_⟩
          simp only [if_pos c, if_neg c1, if_pos c2]; rw [hw]; exact q
        · obtain ⟨z, p, q⟩ := ih (i + 1) _ (by omega) (hcg (j3 c c1 c2))
          refine ⟨z, p, st ?_⟩
          simp only [if_pos c, if_neg c1, if_neg c2]; rw [hw]; exact q
    · obtain ⟨z, p, q⟩ := ih (i + 1) _ (by omega) (hcg (j1 (by omega)))
      refine ⟨z, p, st ?_⟩
      simp only [if_neg c]; rw [hw]; exact q
theorem impl_Graph_girth.ev {n : Int} {rows : List Int} (g : IsG n rows) : ∃ z, GirIs (SAll rows n.toNat) z ∧ Ev (fun q => impl_Graph_girth.f q n rows) z := by
  obtain ⟨z, p, q⟩ := impl_Graph_girth.ev_0 g n.toNat 0 0 (Nat.zero_add _) (GirIs.none.congr fun y _ => ⟨fun a => a.elim, fun ⟨k, a, _⟩ => by omega⟩)
  refine ⟨z, p.congr fun y _ => ⟨fun ⟨v, hv, w, hw, h, e⟩ => ?_, fun ⟨a, b, ha, hb, _, h, e⟩ => ⟨a, ha, b, hb, h, e⟩⟩, ?_⟩
  · have vw : v ≠ w := fun z => by subst z; exact g.irrefl hv h
    by_cases c : v < w
    · exact ⟨v, w, hv, hw, c, h, e⟩
    · exact ⟨w, v, hw, hv, by omega, (g.symm hv hw).1 h, by rw [e, arV_swap g hv hw]⟩
  · unfold impl_Graph_girth.f
    exact q
theorem impl_Graph_girth.all {n : Int} {rows : List Int} (g : IsG n rows) : Ev (fun q => impl_Graph_girth.f q n rows) (girS (SAll rows n.toNat)) := by
  obtain ⟨z, p, q⟩ := impl_Graph_girth.ev g
  rw [girS_eq p]; exact q

theorem drop_cons {T : List Int} {i : Nat} {x : Int} {t : List Int} (h : T.drop i = x :: t) : i < T.length ∧ rd T (i : Int) = x ∧ T.drop (i + 1) = t := by
  have hi : i < T.length := by
    rcases Nat.lt_or_ge i T.length with c | c
    · exact c
    · rw [List.drop_eq_nil_of_le c] at h; cases h
  rw [drop_rd T i hi] at h
  injection h with h1 h2
  exact ⟨hi, h1, h2⟩
/-- Of the rows before w, and of row w the entries before j. -/
def NxJ (rows : List Int) (n : Nat) (C : Nat → Nat) (w j : Nat) (X : List Int) : Prop :=
  X.length = n ∧ ∀ u, u < n → rd X (u : Int) = wrap64 ((sumU (if u < j then w + 1 else w) (fun x => if Adj rows x u then C x else 0) : Nat) : Int)
section
variable {n : Int} {rows : List Int} (g : IsG n rows)
include g
theorem impl_Graph_walks.ev_2 {C : Nat → Nat} {now : List Int} (hnl : now.length = n.toNat) (hnow : ∀ u, u < n.toNat → rd now (u : Int) = wrap64 ((C u : Nat) : Int)) {w : Nat} (hw : w < n.toNat) {kk ii : Int} {R : List Int} {T : List Int} (hT : T.length ≤ 62)
    (next : ∀ X, NxJ rows n.toNat C (w + 1) 0 X → Ev (fun q => impl_Graph_walks.l1 q now X kk ii n ((w + 1 : Nat) : Int) n rows) R) (d : Nat) :
    ∀ (j i : Nat) (X : List Int), j + d = n.toNat → T.drop i = bitsFrom d j (rd rows (w : Int)) → NxJ rows n.toNat C w j X →
      Ev (fun q => impl_Graph_walks.l2 q now X (w : Int) kk ii n (w : Int) T (T.length : Int) (i : Int) n rows) R := by
  have hn := g.le
  induction d with
  | zero =>
    intro j i X e hd h
    rw [bitsFrom] at hd
    have hi : ¬ ((i : Int) < (T.length : Int)) := fun z => by
      rw [drop_rd T i (by omega)] at hd; cases hd
    refine Ev.step (fun k => impl_Graph_walks.l2.eq_2 ..) ?_
    simp only [if_neg hi]
    rw [show wrap64 ((w : Int) + 1) = ((w + 1 : Nat) : Int) by rw [w64 (by omega) (by omega)]; omega]
    refine next X ⟨h.1, fun u hu => ?_⟩
    rw [h.2 u hu, if_pos (show u < j by omega), if_neg (show ¬ u < 0 by omega)]
  | succ d ih =>
    intro j i X e hd h
    have hXl := h.1
    have hj : j < n.toNat := by omega
    rw [bitsFrom] at hd
    by_cases c : dig (rd rows (w : Int)) j = true
    · rw [if_pos c] at hd
      obtain ⟨h1, h2, h3⟩ := drop_cons hd
      refine Ev.step (fun k => impl_Graph_walks.l2.eq_2 ..) ?_
      simp only [if_pos (show (i : Int) < (T.length : Int) by omega), if_pos (show (0 : Int) ≤ (i : Int) by omega), h2, if_pos (show (0 : Int) ≤ (j : Int) by omega), if_pos (show (j : Int) < (X.length : Int) by omega), if_pos (show (0 : Int) ≤ (w : Int) by omega), if_pos (show (w : Int) < (now.length : Int) by omega), Int.toNat_natCast]
      rw [w64 (n := (i : Int) + 1) (by omega) (by omega)]
      refine ih (j + 1) (i + 1) _ (by omega) h3 ⟨by rw [List.length_set]; exact hXl, fun u hu => ?_⟩
      by_cases z : j = u
      · subst z
        rw [rd_set_self _ _ (by omega), h.2 j hj, hnow w hw, wadd, if_neg (show ¬ j < j by omega), if_pos (show j < j + 1 by omega), sumU, if_pos (show Adj rows w j from c)]
        congr 1
      · rw [rd_set_ne _ _ _ z, h.2 u hu]
        by_cases y : u < j
        · rw [if_pos y, if_pos (show u < j + 1 by omega)]
        · rw [if_neg y, if_neg (show ¬ u < j + 1 by omega)]
    · rw [if_neg c] at hd
      refine ih (j + 1) i X (by omega) hd ⟨hXl, fun u hu => ?_⟩
      rw [h.2 u hu]
      by_cases z : u = j
      · subst z
        rw [if_neg (show ¬ u < u by omega), if_pos (show u < u + 1 by omega), sumU, if_neg (show ¬ Adj rows w u from c), Nat.add_zero]
      · by_cases y : u < j
        · rw [if_pos y, if_pos (show u < j + 1 by omega)]
        · rw [if_neg y, if_neg (show ¬ u < j + 1 by omega)]
theorem impl_Graph_walks.ev_1 {C : Nat → Nat} {now : List Int} (hnl : now.length = n.toNat) (hnow : ∀ u, u < n.toNat → rd now (u : Int) = wrap64 ((C u : Nat) : Int)) {kk ii : Int} {R : List Int}
    (next : ∀ X, NxJ rows n.toNat C n.toNat 0 X → Ev (fun q => impl_Graph_walks.l0 q X kk (wrap64 (ii + 1)) n rows) R) (d : Nat) :
    ∀ (w : Nat) (X : List Int), w + d = n.toNat → NxJ rows n.toNat C w 0 X → Ev (fun q => impl_Graph_walks.l1 q now X kk ii n (w : Int) n rows) R := by
  have hn := g.le
  have hl := g.len
  induction d with
  | zero =>
    intro w X e h
    refine Ev.step (fun k => impl_Graph_walks.l1.eq_2 ..) ?_
    simp only [if_neg (show ¬ ((w : Int) < n) by omega)]
    have : w = n.toNat := by omega
    subst this
    exact next X h
  | succ d ih =>
    intro w X e h
    obtain ⟨x, hx, hx1⟩ := IsG_row g (v := (w : Int)) (by omega) (by omega)
    have hb := bitsFrom_length (x : Int) n.toNat 0
    refine Ev.step (fun k => impl_Graph_walks.l1.eq_2 ..) ?_
    simp only [if_pos (show (w : Int) < n by omega), if_pos (show (0 : Int) ≤ (w : Int) by omega), if_pos (show (w : Int) < (rows.length : Int) by omega), hx]
    refine Ev.bind (impl_list.ev hn hx1) ?_
    exact impl_Graph_walks.ev_2 g hnl hnow (by omega) (by omega) (fun X' h' => ih (w + 1) X' (by omega) h') n.toNat 0 0 X (by omega) (by rw [hx, List.drop_zero]) h
theorem impl_Graph_walks.ev_0 {v m : Nat} (hm : m ≤ 1000) (d : Nat) : ∀ (i : Nat) (now : List Int), i + d = m → now.length = n.toNat → (∀ u, u < n.toNat → rd now (u : Int) = wrap64 ((cW (Adj rows) n.toNat v i u : Nat) : Int)) →
    ∃ X, Ev (fun q => impl_Graph_walks.l0 q now (m : Int) (i : Int) n rows) X ∧ X.length = n.toNat ∧ ∀ u, u < n.toNat → rd X (u : Int) = wrap64 ((cW (Adj rows) n.toNat v m u : Nat) : Int) := by
  have hn := g.le
  have h1 := g.1
  induction d with
  | zero =>
    intro i now e hnl h
    have : i = m := by omega
    subst this
    refine ⟨now, Ev.step (fun k => impl_Graph_walks.l0.eq_2 ..) ?_, hnl, h⟩
    simp only [if_neg (show ¬ ((i : Int) < (i : Int)) by omega)]
    exact Ev.now _
  | succ d ih =>
    intro i now e hnl h
    -- the list of the next length
    have z0 : NxJ rows n.toNat (cW (Adj rows) n.toNat v i) 0 0 (List.replicate n.toNat 0) := ⟨by simp, fun u hu => by
      rw [if_neg (show ¬ u < 0 by omega), sumU, wz, rd_nat]; simp [hu]⟩
    have key : ∃ R, (∀ X, NxJ rows n.toNat (cW (Adj rows) n.toNat v i) n.toNat 0 X → Ev (fun q => impl_Graph_walks.l0 q X (m : Int) (wrap64 ((i : Int) + 1)) n rows) R) ∧ R.length = n.toNat ∧ ∀ u, u < n.toNat → rd R (u : Int) = wrap64 ((cW (Adj rows) n.toNat v m u : Nat) : Int) := by
      obtain ⟨X0, hX0⟩ : ∃ X0 : List Int, X0 = (List.range n.toNat).map fun u : Nat => wrap64 ((cW (Adj rows) n.toNat v (i + 1) u : Nat) : Int) := ⟨_, rfl⟩
      have hX0l : X0.length = n.toNat := by rw [hX0]; simp
      have hX0v : ∀ u, u < n.toNat → rd X0 (u : Int) = wrap64 ((cW (Adj rows) n.toNat v (i + 1) u : Nat) : Int) := fun u hu => by
        rw [rd_get _ _ (by omega)]; simp [hX0]
      obtain ⟨R, p, q, r⟩ := ih (i + 1) X0 (by omega) hX0l hX0v
      refine ⟨R, fun X hX => ?_, q, r⟩
      have : X = X0 := list_ext_rd (by rw [hX.1, hX0l]) fun u hu => by
        rw [hX.1] at hu
        rw [hX.2 u hu, hX0v u hu, if_neg (show ¬ u < 0 by omega), cW]
      rw [this, show wrap64 ((i : Int) + 1) = ((i + 1 : Nat) : Int) by rw [w64 (by omega) (by omega)]; omega]
      exact p
    obtain ⟨R, p, q, r⟩ := key
    refine ⟨R, Ev.step (fun k => impl_Graph_walks.l0.eq_2 ..) ?_, q, r⟩
    simp only [if_pos (show (i : Int) < (m : Int) by omega), if_pos (show (0 : Int) ≤ n by omega), if_pos (show n.toNat ≤ 35184372088832 by omega)]
    exact impl_Graph_walks.ev_1 g hnl h p n.toNat 0 _ (by omega) z0
theorem impl_Graph_walks.ev {v m : Nat} (hv : v < n.toNat) (hm : m ≤ 1000) :
    ∃ X, Ev (fun q => impl_Graph_walks.f q n rows (v : Int) (m : Int)) X ∧ X.length = n.toNat ∧ ∀ u, u < n.toNat → rd X (u : Int) = wrap64 ((cW (Adj rows) n.toNat v m u : Nat) : Int) := by
  have hn := g.le
  have h1 := g.1
  obtain ⟨X, p, q, r⟩ := impl_Graph_walks.ev_0 g (v := v) hm m 0 ((List.replicate n.toNat (0 : Int)).set v 1) (by omega) (by simp) fun u hu => by
    rw [cW]
    by_cases c : v = u
    · subst c; rw [rd_set_self _ _ (by simpa using hu), if_pos rfl, wo]
    · rw [rd_set_ne _ _ _ c, if_neg (fun z => c z.symm), wz, rd_nat]; simp [hu]
  refine ⟨X, ?_, q, r⟩
  unfold impl_Graph_walks.f
  simp only [if_pos (show (0 : Int) ≤ n by omega), if_pos (show n.toNat ≤ 35184372088832 by omega)]
  refine Ev.bind (ev_eq fun _ => rfl) ?_
  simp only [if_pos (show (0 : Int) ≤ (v : Int) by omega), List.length_replicate, if_pos (show (v : Int) < ((n.toNat : Nat) : Int) by omega), Int.toNat_natCast]
  exact p
end

theorem impl_Graph_through.ev {n : Int} {rows : List Int} (g : IsG n rows) {a b : Nat} (ha : a < n.toNat) (hb : b < n.toNat) (hab : a ≠ b) {t : Int} (h0 : 0 < t) (h1 : t ≤ 62) :
    Ev (fun q => impl_Graph_through.f q n rows (a : Int) (b : Int) t) (wrap64 ((cW (AdjX rows a b) n.toNat a (t - 1).toNat b : Nat) : Int)) := by
  obtain ⟨m, hm⟩ := Int.eq_ofNat_of_zero_le (show 0 ≤ t - 1 by omega)
  obtain ⟨X, p, q, r⟩ := impl_Graph_walks.ev (taken_G g (a := (a : Int)) (b := (b : Int))) (v := a) (m := m) ha (by omega)
  unfold impl_Graph_through.f
  refine Ev.bind (ev_eq fun _ => impl_own.sp g) ?_
  refine Ev.bind (ev_eq fun _ => impl_Graph_take.sp g ha hb hab) ?_
  rw [w64 (n := t - 1) (by omega) (by omega), hm, Int.toNat_natCast]
  refine Ev.bind p ?_
  simp only [if_pos (show (0 : Int) ≤ (b : Int) by omega), if_pos (show (b : Int) < (X.length : Int) by omega)]
  rw [r b hb, cW_congr taken_adj a m b hb]
  exact Ev.now _

theorem drop_rdL {T : List (List Int)} {i : Nat} (h : i < T.length) : T.drop i = rd_L1 T (i : Int) :: T.drop (i + 1) := by
  rw [List.drop_eq_getElem_cons h]
  congr 1
  simp [rd_L1, h]
theorem impl_CountShortest.ev_0 {n : Int} {rows : List Int} (g : IsG n rows) {t : Int} (ht : 0 < t) (ht1 : t ≤ 62) {T : List (List Int)} (hT : T.length ≤ 100000) (hel : ∀ e ∈ T, ∃ a b : Nat, e = [(a : Int), (b : Int)] ∧ a < b ∧ b < n.toNat ∧ Adj rows a b) {R : Int} (d : Nat) :
    ∀ (i : Nat) (s : Int), i + d = T.length → shF rows n.toNat t (T.drop i) s = R → Ev (fun q => impl_CountShortest.l0 q t s T (T.length : Int) (i : Int) n rows) (wrap64 (Int.tdiv R t), 0) := by
  have hn := g.le
  induction d with
  | zero =>
    intro i s e h
    refine Ev.step (fun k => impl_CountShortest.l0.eq_2 ..) ?_
    simp only [if_neg (show ¬ ((i : Int) < (T.length : Int)) by omega), if_neg (show ¬ (t = 0) by omega)]
    rw [List.drop_eq_nil_of_le (by omega), shF] at h
    exact ev_some (by rw [h])
  | succ d ih =>
    intro i s e h
    rw [drop_rdL (by omega)] at h
    obtain ⟨a, b, he, hab, hb, hA⟩ := hel (rd_L1 T (i : Int)) (by
      have : rd_L1 T (i : Int) ∈ T.drop i := by rw [drop_rdL (by omega)]; exact List.mem_cons_self
      exact List.mem_of_mem_drop this)
    have hw : wrap64 ((i : Int) + 1) = ((i + 1 : Nat) : Int) := by rw [w64 (by omega) (by omega)]; omega
    rw [he, shF] at h
    simp only [show rd [(a : Int), (b : Int)] 0 = (a : Int) from rfl, show rd [(a : Int), (b : Int)] 1 = (b : Int) from rfl, Int.toNat_natCast] at h
    refine Ev.step (fun k => impl_CountShortest.l0.eq_2 ..) ?_
    simp only [if_pos (show (i : Int) < (T.length : Int) by omega), if_pos (show (0 : Int) ≤ (i : Int) by omega), he, show rd [(a : Int), (b : Int)] 0 = (a : Int) from rfl, show rd [(a : Int), (b : Int)] 1 = (b : Int) from rfl, if_pos (show (0 : Int) < (([(a : Int), (b : Int)] : List Int).length : Int) by simp), if_pos (show (1 : Int) < (([(a : Int), (b : Int)] : List Int).length : Int) by simp), hw]
    refine Ev.bind (impl_Graph_around.ev g (by omega) hb (by omega)) ?_
    by_cases c : arV rows n.toNat a b = t
    · simp only [if_pos c]
      rw [if_pos c] at h
      refine Ev.bind (impl_Graph_through.ev g (by omega) hb (by omega) ht ht1) ?_
      exact ih (i + 1) _ (by omega) h
    · simp only [if_neg c]
      rw [if_neg c] at h
      exact ih (i + 1) s (by omega) h
theorem impl_CountShortest.ev (n : Int) (rows : List Int) : Ev (fun q => impl_CountShortest.f q n rows) (shortR n rows) := by
  unfold impl_CountShortest.f shortR
  refine Ev.bind (impl_IsGraph.ev n rows) ?_
  by_cases h : IsG n rows
  · simp only [h, decide_true, if_true]
    refine Ev.bind (impl_Graph_girth.all h) ?_
    have hb := girS_bd h
    by_cases c : girS (SAll rows n.toNat) = 0
    · simp only [if_pos c]; exact Ev.now _
    · simp only [if_neg c]
      refine Ev.bind (impl_Graph_edges.ev h) ?_
      refine impl_CountShortest.ev_0 h (by omega) hb.2 ?_ (fun e he => mem_edgesFrom h n.toNat 0 e (by omega) he) _ 0 0 (Nat.zero_add _) (by rw [List.drop_zero])
      have := edgesFrom_le rows n.toNat n.toNat 0
      have hn := h.le
      have := Nat.mul_le_mul hn hn
      omega
  · simp only [h, decide_false, Bool.false_eq_true, if_false]
    exact Ev.now _

end Go.Proofs.YtggbhpjakakgeaaDoor.XFnExactCountShortest
