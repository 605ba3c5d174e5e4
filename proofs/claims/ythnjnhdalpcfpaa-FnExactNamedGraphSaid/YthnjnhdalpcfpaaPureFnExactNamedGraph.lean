/- The pure statement of FnExactNamedGraph, for all arguments. -/
import Derived.Test.YthnjnhdalpcfpaaLFnExactNamedGraph
namespace Go.Proofs.Ythnjnhdalpcfpaa.Pure
open Go.RowKit Go.Proofs.Ythnjnhdalpcfpaa.XFnExactNamedGraph Go.Proofs.YthnjnhdalpcfpaaW.PrintWords Go.Proofs.YthnjnhdalpcfpaaW.PrintLast Go.Proofs.Ythnjnhdalpcfpaa.B
open Classical
set_option linter.unusedVariables false
set_option linter.unusedSimpArgs false

theorem bl_loop (b : ByteArray) (d : Nat) : ∀ (i : Nat) (r : List UInt8), i + d = b.size → ByteArray.toList.loop b i r = r.reverse ++ b.data.toList.drop i := by
  induction d with
  | zero =>
    intro i r h
    rw [ByteArray.toList.loop, if_neg (by omega), List.drop_eq_nil_of_le (by rw [Array.length_toList]; show b.size ≤ i; omega), List.append_nil]
  | succ d ih =>
    intro i r h
    have hi : i < b.data.toList.length := by rw [Array.length_toList]; show i < b.size; omega
    rw [ByteArray.toList.loop, if_pos (by omega), ih (i + 1) _ (by omega), List.reverse_cons, List.append_assoc, List.singleton_append, List.drop_eq_getElem_cons hi]
    congr 2
    have : i < b.data.size := by simpa using hi
    cases b with
    | mk data => simp [ByteArray.get!, this]
theorem bl (b : ByteArray) : b.toList = b.data.toList := by
  unfold ByteArray.toList
  rw [bl_loop b b.size 0 [] (by omega)]; simp
theorem of_bl {b : ByteArray} {l : List UInt8} (h : b.toList = l) : b = ⟨l.toArray⟩ := by
  rw [bl] at h
  cases b with
  | mk data => simp at h; subst h; simp
theorem FnExactNamedGraph : laws_FnExactNamedGraph.Pure := by
  intro a0 _
  by_cases h0 : a0.toList = ([107, 52] : List UInt8)
  · exact ⟨20000, by rw [of_bl h0]; decide +kernel⟩
  by_cases h1 : a0.toList = ([107, 53] : List UInt8)
  · exact ⟨20000, by rw [of_bl h1]; decide +kernel⟩
  by_cases h2 : a0.toList = ([107, 51, 51] : List UInt8)
  · exact ⟨20000, by rw [of_bl h2]; decide +kernel⟩
  by_cases h3 : a0.toList = ([99, 117, 98, 101] : List UInt8)
  · exact ⟨20000, by rw [of_bl h3]; decide +kernel⟩
  by_cases h4 : a0.toList = ([99, 108, 101, 98, 115, 99, 104] : List UInt8)
  · exact ⟨20000, by rw [of_bl h4]; decide +kernel⟩
  by_cases h5 : a0.toList = ([112, 101, 116, 101, 114, 115, 101, 110] : List UInt8)
  · exact ⟨20000, by rw [of_bl h5]; decide +kernel⟩
  by_cases h6 : a0.toList = ([105, 99, 111, 115, 97, 104, 101, 100, 114, 111, 110] : List UInt8)
  · exact ⟨20000, by rw [of_bl h6]; decide +kernel⟩
  by_cases h7 : a0.toList = ([104, 111, 102, 102, 109, 97, 110, 115, 105, 110, 103, 108, 101, 116, 111, 110] : List UInt8)
  · exact ⟨20000, by rw [of_bl h7]; decide +kernel⟩
  by_cases h8 : a0.toList = ([104, 101, 97, 119, 111, 111, 100] : List UInt8)
  · exact ⟨20000, by rw [of_bl h8]; decide +kernel⟩
  by_cases h9 : a0.toList = ([109, 111, 101, 98, 105, 117, 115, 107, 97, 110, 116, 111, 114] : List UInt8)
  · exact ⟨20000, by rw [of_bl h9]; decide +kernel⟩
  by_cases h10 : a0.toList = ([112, 97, 112, 112, 117, 115] : List UInt8)
  · exact ⟨20000, by rw [of_bl h10]; decide +kernel⟩
  by_cases h11 : a0.toList = ([100, 101, 115, 97, 114, 103, 117, 101, 115] : List UInt8)
  · exact ⟨20000, by rw [of_bl h11]; decide +kernel⟩
  by_cases h12 : a0.toList = ([100, 111, 100, 101, 99, 97, 104, 101, 100, 114, 111, 110] : List UInt8)
  · exact ⟨20000, by rw [of_bl h12]; decide +kernel⟩
  by_cases h13 : a0.toList = ([109, 99, 103, 101, 101] : List UInt8)
  · exact ⟨20000, by rw [of_bl h13]; decide +kernel⟩
  by_cases h14 : a0.toList = ([116, 117, 116, 116, 101, 99, 111, 120, 101, 116, 101, 114] : List UInt8)
  · exact ⟨20000, by rw [of_bl h14]; decide +kernel⟩
  have hs : Ev (fun k => spec_NamedGraph.f k a0) (0, [], 4) := by
    have hn : Ev (fun k => spec_l01Named.f k a0) (0, ([] : List Int), false) := by
      unfold spec_l01Named.f
      simp only [if_neg h0, if_neg h1, if_neg h2, if_neg h3, show (a0.toList == ([99, 108, 101, 98, 115, 99, 104] : List UInt8)) = false from beq_eq_false_iff_ne.mpr h4]
      refine Ev.step (fun k => spec_l01Named.j0.eq_2 ..) ?_
      simp only [Bool.false_eq_true, if_false, if_neg h5, if_neg h6, if_neg h7, if_neg h8, if_neg h9, if_neg h10, if_neg h11, if_neg h12, if_neg h13, if_neg h14]
      exact Ev.now _
    unfold spec_NamedGraph.f
    exact Ev.bind hn (Ev.now _)
  have hi : Ev (fun k => impl_NamedGraph.f k a0) (0, [], 4) := by
    unfold impl_NamedGraph.f
    simp only [if_neg h0, if_neg h1, if_neg h2, if_neg h3, if_neg h4, if_neg h5, if_neg h6, if_neg h7, if_neg h8, if_neg h9, if_neg h10, if_neg h11, if_neg h12, if_neg h13, if_neg h14]
    exact Ev.now _
  refine Ev.rounds (g := fun q => laws_FnExactNamedGraph.f q a0) ?_
  unfold laws_FnExactNamedGraph.f
  by_cases hz : (a0.size : Int) > 1048576
  · simp only [if_pos hz]; exact Ev.now _
  simp only [if_neg hz]
  have he := laws_eqGraph.ev 0 [] (by simp)
  obtain ⟨m, hm, hml, hmm⟩ := laws_markGraph.ev 0 [] 1 (by omega) (by simp)
  have hh := laws_heldGraph.ev 0 m 1 (by omega) (by rw [hml]; simp) (fun j hj => hmm j (by omega))
  rw [hml] at hh
  have ng : ¬ (1 + (([] : List Int).length : Int) < 0) := by simp
  repeat (first
    | with_reducible exact Ev.now _
    | with_reducible refine Ev.bind hs ?_
    | with_reducible refine Ev.bind hi ?_
    | with_reducible refine Ev.bind he ?_
    | with_reducible refine Ev.bind hm ?_
    | with_reducible refine Ev.bind hh ?_
    | with_reducible refine Ev.step (fun k => laws_FnExactNamedGraph.j0.eq_2 ..) ?_
    | with_reducible refine Ev.step (fun k => laws_FnExactNamedGraph.j1.eq_2 ..) ?_
    | simp only [if_true, if_false, Bool.false_eq_true, bne_self_eq_false, Bool.not_true, Bool.not_false, if_neg ng])

end Go.Proofs.Ythnjnhdalpcfpaa.Pure
