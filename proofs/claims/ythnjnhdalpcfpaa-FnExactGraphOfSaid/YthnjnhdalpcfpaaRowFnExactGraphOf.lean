/- FnExactGraphOf: for every input the law returns true, and each argument reads behind the call as it read before. No condition. -/
import Derived.Test.YthnjnhdalpcfpaaRows
import Derived.Test.YthnjnhdalpcfpaaXFnExactGraphOfx6
import Derived.Test.YthnjnhdalpcfpaaDFnExactGraphOf
import Derived.WalkKit
import Derived.ProofKit
import Derived.OpenShut
import Derived.ShutString
import Derived.ChangeOld
import Derived.Below
import Derived.SizedLaws
import Derived.Lib.SmallJoins
namespace Go.Proofs.Ythnjnhdalpcfpaa.fnExactGraphOf
open Go.ChangeShapes Go.WideShapes Go.ChangeAt Go.RowKit Go.Proofs.YthnjnhdalpcfpaaW.PrintWords
open Go.ChangeMaps (open_string shut_string)
open Go.Proofs.Ythnjnhdalpcfpaa.XFnExactGraphOf
set_option linter.unusedVariables false
set_option linter.unusedSimpArgs false
theorem own : ownKnob Try.prog.godebug = none := by kernel_rfl
theorem laidOut : laidOutB Try.prog = true := by kernel_rfl
def IsRow (k : IntKind) (w : World) (a : Option Addr) (len cap : Nat) (zs : List Int) : Prop :=
  (a = none ∧ len = 0 ∧ cap = 0 ∧ zs = []) ∨
  ∃ x, a = some x ∧ len ≤ cap ∧ cap ≤ maxLen ∧ zs.length = cap ∧ (∀ i, i < zs.length → w.cell? (x.add i) = some (.int k (zs.getD i 0))) ∧ ∀ n ∈ zs, (Lit.int k n).wf = true
theorem addr_add_add_ (a : Addr) (m j : Nat) : (a.add m).add j = a.add (m + j) := by
  unfold Addr.add
  by_cases hm : m = 0 <;> by_cases hj : j = 0 <;> simp [hm, hj, Nat.add_assoc]
theorem open_edges {H : Type} {enc : TypeId × Value → H} {W : World} {base : Nat} {v : Value} {d : DataW H} {p : List MemPlace} (hv : Value.okWide Try.prog W .any base 28 v) (h : DataW.Trod enc Try.prog W 0 (fun _ => true) true 28 v d p) :
    ∃ (x : Option Addr) (cap : Nat) (E : List (List Int)), v = .slice x E.length cap ∧ E.length ≤ cap ∧ E.length ≤ maxLen ∧ (∀ r ∈ E, r.length ≤ maxLen) ∧ Kd.C (Kd.slice 2 (Kd.int .i64)) W x E.length E := by
  obtain ⟨x, len, cap, rfl⟩ := okWide_slice Try.underlying28 hv
  obtain ⟨fuel, hf⟩ := h
  rcases Deep.open_slice Try.underlying28 hf with ⟨hcs, _⟩ | ⟨ad, l, c, m, n2, D, Pl, hcs, _, hl, hm, hmm, _, hel⟩
  · simp [Value.cells] at hcs
    obtain ⟨rfl, rfl, rfl⟩ := hcs
    exact ⟨none, 0, [], rfl, Nat.le_refl _, Nat.zero_le _, by simp, rfl, by decide, fun h => absurd h (by simp)⟩
  · simp [Value.cells] at hcs
    obtain ⟨rfl, rfl, rfl⟩ := hcs
    have hlm : len ≤ m := by rw [hmm]; split <;> omega
    have each : ∀ i, i < len → ∃ q : List Int, q.length ≤ maxLen ∧ ∃ (xi : Option Addr) (ci : Nat), W.cell? (ad.add i) = some (.slice xi q.length ci) ∧ q.length ≤ ci ∧ Kd.C (Kd.int .i64) W xi q.length q := by
      intro i hi
      obtain ⟨cs', hc, ht⟩ := hel i (by omega)
      have hC : Try.prog.cellsOf 22 = 1 := by kernel_rfl
      rw [hC, Nat.mul_one] at hc
      obtain ⟨_, hlen, hcell⟩ := World.cells?_some hc
      have row : ∃ xi li ci zs, cs' = [.slice xi li ci] ∧ IsRow .i64 W xi li ci zs := by
        rcases open_ints Try.underlying22 Try.underlying2 (by kernel_rfl) ht with ⟨hcs, _⟩ | ⟨x, l, c, zs, hcs, _, hl, hm, hz, _, hcell, hwz⟩
        · exact ⟨none, 0, 0, [], hcs, .inl ⟨rfl, rfl, rfl, rfl⟩⟩
        · exact ⟨some x, l, c, zs, hcs, .inr ⟨_, rfl, hl, hm, by simpa using hz, hcell, hwz⟩⟩
      obtain ⟨xi, li, ci, zs, rfl, hrow⟩ := row
      obtain ⟨q, rfl, hr, hmq, hwq, hcq⟩ := ReadsInt.ofRowC hrow
      refine ⟨q, hmq, xi, ci, ?_, hcq, Kd.C_of_reads (d := (0 : Int)) (h1 := fun _ => rfl) hr⟩
      have h0 := hcell 0 (by simp)
      rw [addr_add_add_, Nat.add_zero] at h0
      simpa using h0
    have hch : ∃ f : Nat → List Int, ∀ i, i < len → (f i).length ≤ maxLen ∧ ∃ (xi : Option Addr) (ci : Nat), W.cell? (ad.add i) = some (.slice xi (f i).length ci) ∧ (f i).length ≤ ci ∧ Kd.C (Kd.int .i64) W xi (f i).length (f i) :=
      ⟨fun i => if h : i < len then Classical.choose (each i h) else [], fun i hi => by simp only [dif_pos hi]; exact Classical.choose_spec (each i hi)⟩
    obtain ⟨f, hf2⟩ := hch
    have hll : ((List.range len).map f).length = len := by simp
    refine ⟨some ad, cap, (List.range len).map f, by rw [hll], by rw [hll]; exact hl, by rw [hll]; omega, fun r hr => ?_, by rw [hll], by rw [hll]; unfold maxLen at hm; omega, fun _ => ⟨ad, rfl, fun j q hq => ?_⟩⟩
    · obtain ⟨i, hi, rfl⟩ := List.mem_map.1 hr
      exact (hf2 i (List.mem_range.1 hi)).1
    · obtain ⟨hj, rfl⟩ := List.getElem?_eq_some_iff.1 hq
      rw [hll] at hj
      obtain ⟨_, xi, ci, hcell, hci, hC⟩ := hf2 j hj
      have hq2 : ((List.range len).map f)[j] = f j := by simp
      rw [hq2]
      refine ⟨[.slice xi (f j).length ci], rfl, ⟨xi, ci, rfl, hci, hC⟩, fun i u hu => ?_⟩
      match i, hu with
      | 0, hu =>
        simp only [List.getElem?_cons_zero, Option.some.injEq] at hu
        subst hu
        rw [show j * (Kd.slice 2 (Kd.int .i64)).sz + 0 = j from by show j * 1 + 0 = j; omega]
        exact hcell
      | i + 1, hu => simp at hu

set_option maxRecDepth 100000 in
theorem lifted (os : Os) (started : os.Started) (H : Type) (enc : TypeId × Value → H) :
    ReturnsInHanded {} Try.checked os 5 .any (Rows.fnExactGraphOfSpec.pre6 enc Try.prog Try.f5 Rows.fnExactGraphOfRow.domain false) (Rows.fnExactGraphOfSpec.post enc Try.prog Try.f5 false true false false) := by
  refine returnsInHanded_of_change_sized (C := Try.checked) own started (by kernel_rfl) Try.func5
    (ChangeSpec.witness6 (enc := enc) (C := Try.checked) false ⟨#[], #[.int .i64 0, .slice none 0 0], []⟩ 8 (by kernel_rfl) (by kernel_rfl) (by kernel_rfl) (by kernel_rfl)) ?_
  intro W base args ds gs before hval0 hW hcnd hsz0 _
  have hval : ∀ (j : Nat) t v, Try.f5.params[j]? = some t → args[j]? = some v → Value.okWide Try.prog W .any base t v := hval0
  have hW' := hW
  obtain ⟨p, q, hA0, hV, rfl, hfz, hnd⟩ := hW
  have hA : DataW.TrodAll enc Try.prog W 0 (fun _ => true) true Try.f5.params.toList args.toList ds p := hA0
  rw [Try.params5] at hA hval
  obtain ⟨v0, vs0, d0, ds0, p0, q0, hargs, rfl, rfl, h0, r0⟩ := trodAll_cons hA
  obtain ⟨v1, vs1, d1, ds1, p1, q1, rfl, rfl, rfl, h1, r1⟩ := trodAll_cons r0
  obtain ⟨rfl, rfl, rfl⟩ := trodAll_nil r1
  obtain rfl : args = #[v0, v1] := by cases args; simp_all
  obtain ⟨rfl, rfl⟩ := trodVars_none hV
  obtain ⟨a0, rfl, rfl, rfl, w0⟩ := open_int Try.underlying2 (hval 0 2 v0 rfl rfl) h0
  have k1 := h1
  have lt1 : ∀ x ∈ p1, x.block < W.heap.size := by obtain ⟨m, hm⟩ := k1; exact DataW.trod_lt m _ _ _ hm
  obtain ⟨x1, cap1, l1, rfl, hc1, hm1, hn1, hk1⟩ := open_edges (hval 1 28 v1 rfl rfl) h1
  clear hA0 hval0 hsz0
  refine (XFnExactGraphOf.direct a0 _ _ l1 W hm1 hn1 hk1 hc1).mono fun e W' ⟨he, bel⟩ => ?_
  subst he
  exact ⟨_, rfl, _, _, _, [], _, [], hW', trodAll_mk1 (shut_bool Try.underlying4 _), (trodAll_cons_mk (shut_int Try.underlying2 w0) (trodAll_cons_mk (Below.trod laidOut (by kernel_rfl) (of_decide_eq_true (by kernel_rfl)) k1 bel lt1) trodAll_mk0)), rfl, bel.frame _, fun h => by cases h⟩
theorem over : Rows.fnExactGraphOfRow.holds Try.pinned (OpenSpec.ofChange Rows.fnExactGraphOfSpec) :=
  OpenClaim.holds_of_wide 5 Try.f5 rfl rfl rfl rfl rfl rfl rfl ⟨rfl, rfl, rfl, rfl, rfl⟩ rfl rfl rfl rfl rfl (by kernel_rfl) Try.func5 (by kernel_rfl)
    (of_decide_eq_true (by kernel_rfl)) (by unfold Func.isWrapper; first | (rw [if_pos (by decide +kernel)]; kernel_rfl) | (rw [if_neg (by decide +kernel)]; exact ⟨rfl, rfl⟩))
    (fun os started H enc _ => lifted os started H enc)
theorem proved : Rows.FnExactGraphOfSaid := over
end Go.Proofs.Ythnjnhdalpcfpaa.fnExactGraphOf
namespace Go.Proofs.Ythnjnhdalpcfpaa
/-- The row, under a short name, for the claim. -/
theorem fnExactGraphOf_holds : Rows.FnExactGraphOfSaid := fnExactGraphOf.proved
end Go.Proofs.Ythnjnhdalpcfpaa
