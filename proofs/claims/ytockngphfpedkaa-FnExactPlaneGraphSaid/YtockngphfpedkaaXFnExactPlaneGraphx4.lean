-- Written by this project's own program (mprint.py) by means of the kit's printer: with contracts of its own for the functions that the printer leaves out.
import Derived.Test.YtockngphfpedkaaXFnExactPlaneGraphx0
import Derived.Test.YtockngphfpedkaaXFnExactPlaneGraphx3
namespace Go.Proofs.Ytockngphfpedkaa.XFnExactPlaneGraph
open Go.RowKit Go.Proofs.YtockngphfpedkaaW.PrintWords Go.Proofs.YtockngphfpedkaaW.PrintLast Go.Proofs.YtockngphfpedkaaW.PrintMore
attribute [local go_sem] max2_int min2_int max_two min_two max_three min_three max_four min_four   -- for this text's walks alone
set_option linter.unusedVariables false
set_option linter.unusedSimpArgs false

/-! ### impl.points: by hand (slices.DeleteFunc with a closure that calls slices.IndexFunc: the shelf's contracts) -/
def layDel__ren : Go.Shelf.Ren := ⟨fun | 10 => 43 | 6 => 50 | n => n, fun | 22 => 28 | 23 => 22 | 25 => 51 | 3 => 3 | 4 => 4 | 0 => 0 | n => n, fun | n => n⟩
theorem layDel_ : Go.Proofs.SlLaysH.n10 Try.prog layDel__ren := {
  mixed := by kernel_rfl
  f6 := ⟨Try.f50.name, by decide, Try.func50.trans (congrArg some (by kernel_rfl))⟩
  f10 := ⟨Try.f43.name, by decide, Try.func43.trans (congrArg some (by kernel_rfl))⟩
  t0 := Try.underlying0
  a0 := Try.isAgg0
  z0 := Try.sizeOf0
  v0 := Try.zeroValue0
  t3 := Try.underlying3
  a3 := Try.isAgg3
  z3 := Try.sizeOf3
  v3 := Try.zeroValue3
  t4 := Try.underlying4
  a4 := Try.isAgg4
  z4 := Try.sizeOf4
  v4 := Try.zeroValue4
  t22 := Try.underlying28
  a22 := Try.isAgg28
  z22 := Try.sizeOf28
  v22 := Try.zeroValue28
  a23 := Try.isAgg22
  z23 := Try.sizeOf22
  t25 := Try.underlying51
  a25 := Try.isAgg51
  z25 := Try.sizeOf51
  v25 := Try.zeroValue51 }
def layIdx__ren : Go.Shelf.Ren := ⟨fun | 6 => 45 | n => n, fun | 22 => 22 | 23 => 2 | 25 => 27 | 3 => 3 | 0 => 0 | 4 => 4 | n => n, fun | n => n⟩
theorem layIdx_ : Go.Proofs.SlLaysH.n6 Try.prog layIdx__ren := {
  mixed := by kernel_rfl
  f6 := ⟨Try.f45.name, by decide, Try.func45.trans (congrArg some (by kernel_rfl))⟩
  t0 := Try.underlying0
  a0 := Try.isAgg0
  z0 := Try.sizeOf0
  v0 := Try.zeroValue0
  t3 := Try.underlying3
  a3 := Try.isAgg3
  z3 := Try.sizeOf3
  v3 := Try.zeroValue3
  t4 := Try.underlying4
  a4 := Try.isAgg4
  z4 := Try.sizeOf4
  v4 := Try.zeroValue4
  t22 := Try.underlying22
  a22 := Try.isAgg22
  z22 := Try.sizeOf22
  v22 := Try.zeroValue22
  a23 := Try.isAgg2
  z23 := Try.sizeOf2
  t25 := Try.underlying27
  a25 := Try.isAgg27
  z25 := Try.sizeOf27
  v25 := Try.zeroValue27 }
/-- What is struck: a tuple without a number that is not 0, or whose first such number is not 1. -/
def pt_del (l : List Int) : Bool := if Lib.idxBy (fun _ y => y != 0) l (default : Int) < 0 then true else (rd l (Lib.idxBy (fun _ y => y != 0) l (default : Int)) != 1)
set_option maxHeartbeats 1000000 in
theorem pt_nz (x : Int) (W : World) : FnGives Try.prog 46 #[] #[.int .i64 x] (.bool (x != 0)) W := by
  show Calls Try.prog 46 #[.int .i64 x] W _
  go_enter Try.func46, Try.ntmps46
  go_wp2
  go_ret
  exact ⟨rfl, 0, rfl⟩
theorem pt_ret {a b : Bool} (h : a = b) : Ending.returned (.bool a) = .returned (.bool b) := by rw [h]
set_option maxHeartbeats 4000000 in
set_option maxRecDepth 100000 in
theorem pt_calls (A : Option Addr) (c : Nat) (l : List Int) (W : World) (h : Kd.C (Kd.int .i64) W A l.length l) :
    Calls Try.prog 44 #[.slice A l.length c] W fun e w' => e = .returned (.bool (pt_del l)) ∧ ∃ q, w' = W.drewN q := by
  by_cases z : 0 < l.length
  · obtain ⟨ad, rfl, hc0⟩ := h.2.2 z
    have hz : ∃ b off, ad = ⟨b, off, none⟩ := by
      obtain ⟨ad', e, hc⟩ := Kd.at_int h 0 (by omega) (by omega)
      injection e with e
      subst e
      obtain ⟨b, off, s⟩ := ad
      cases s with
      | none => exact ⟨b, off, rfl⟩
      | some s =>
        simp only [Int.toNat_zero, Addr.add_zero'] at hc
        simp [World.cell?] at hc
        split at hc <;> simp at hc
    obtain ⟨b, off, rfl⟩ := hz
    have hcells : ∀ j, j < l.length → W.cell? ⟨b, off + j, none⟩ = some (.int .i64 l[j]!) := fun j hj => by
      obtain ⟨ad', e, hc⟩ := Kd.at_int h (j : Int) (by omega) (by omega)
      injection e with e
      subst e
      rw [Int.toNat_natCast, add_at] at hc
      rw [hc]
      simp [rd, hj]
    have hbig := Kd.C_max h
    have hcon := AnyE.slices_IndexFunc layIdx_ (Value.int .i64) (fun y => y != 0) 46 #[] (enters_of Try.func46 (by kernel_rfl) rfl) b off l.length c l W (fun W x _ => pt_nz x W) (Nat.le_refl _) hbig hcells
    change Calls Try.prog 45 _ _ _ at hcon
    rw [List.take_of_length_le (Nat.le_refl _)] at hcon
    unfold pt_del
    rcases idxByFrom_spec (fun _ y => y != 0) (default : Int) l 0 with ⟨e1, _⟩ | ⟨k, hk, e1, _, _⟩
    · have e2 : Lib.idxBy (fun _ y => y != 0) l (default : Int) = -1 := e1
      rw [e2] at hcon ⊢
      have HC := Aside0.mk hcon
      clear hcon hcells e1 e2 h hc0
      go_enter Try.func44, Try.ntmps44
      go_wp2_with (go_at_call 45; refine HC.out.mono ?_; rintro e w' ⟨rfl, q, rfl⟩)
      go_ret
      exact ⟨pt_ret (by simp), q, rfl⟩
    · have e2 : Lib.idxBy (fun _ y => y != 0) l (default : Int) = (k : Int) := by rw [show Lib.idxBy (fun _ y => y != 0) l (default : Int) = Lib.idxByFrom (fun _ y => y != 0) default l 0 from rfl, e1, Nat.zero_add]
      rw [e2] at hcon ⊢
      have HC := Aside0.mk hcon
      have hx := hcells k hk
      have e3 : l[k]! = rd l (k : Int) := by simp [rd, hk]
      rw [e3] at hx
      rw [if_neg (by omega)]
      generalize rd l (k : Int) = x at hx ⊢
      clear hcon hcells e1 e2 e3 h hc0
      have k0 : decide ((k : Int) < 0) = false := decide_eq_false (by omega)
      have k1 : (0 : Int) ≤ (k : Int) := by omega
      have k2 : (k : Int) < (l.length : Int) := by omega
      go_enter Try.func44, Try.ntmps44
      go_wp2_with (go_at_call 45; refine HC.out.mono ?_; rintro e w' ⟨rfl, q, rfl⟩)
      go_ret
      exact ⟨rfl, q, rfl⟩
  · have h0 : l = [] := List.length_eq_zero_iff.1 (by omega)
    subst h0
    have HC := Aside0.mk (AnyE.slices_IndexFunc_empty layIdx_ A c (.func (.func 46) #[] #[]) W)
    clear h z
    go_enter Try.func44, Try.ntmps44
    go_wp2_with (go_at_call 45; refine HC.out.mono ?_; rintro e w' ⟨rfl, rfl⟩)
    go_ret
    exact ⟨pt_ret (by decide), 0, rfl⟩
/-- The cells of a row of rows, element by element. -/
theorem pt_cells {d : Kd (List Int)} {w : World} {base g n cap : Nat} {ok : Nat → Prop} {xs : List (List Int)} (hd : d.sz = 1) (h : Kd.N d 22 w base ok (.slice (some ⟨g, 0, none⟩) n cap) xs) :
    ∃ vals : List Value, vals.length = xs.length ∧ (∀ v ∈ vals, v.oneCell' = true) ∧ base ≤ g ∧ n = xs.length ∧ (∃ cur, w.heap[g]? = some (.cells cur 22 (0, 0)) ∧ xs.length ≤ cap ∧ cap ≤ maxLen ∧ cur.size = cap ∧ cur.toList.take xs.length = vals) ∧
      ∀ (j : Nat) (x : List Int) (v : Value), xs[j]? = some x → vals[j]? = some v → Kd.FK d w (fun k => ok k ∧ k ≠ g) x [v] := by
  obtain ⟨h0, rows, hl, ⟨_, inner, ⟨hil, how⟩, hr⟩, hf⟩ := h
  have hsz : (Kd.raw d.sz).sz = 1 := hd
  rw [hsz] at hil how hr
  rw [Nat.mul_one] at hil how
  have e1 : ∀ j (hj : j < rows.length), ∃ hj2 : j < inner.length, rows[j] = [inner[j]] ∧ inner[j].oneCell' = true := by
    intro j hj
    have hj2 : j < inner.length := by omega
    have h2 := hr.2 j _ (List.getElem?_eq_getElem hj)
    rw [Nat.mul_one, List.drop_eq_getElem_cons hj2] at h2
    have h3 : [inner[j]] = rows[j] := h2.1
    exact ⟨hj2, h3.symm, h2.2.2 _ List.mem_cons_self⟩
  refine ⟨inner, by omega, fun v hv => ?_, ?_⟩
  · obtain ⟨j, hj, rfl⟩ := List.mem_iff_getElem.1 hv
    exact (e1 j (by omega)).2.2
  rcases how with ⟨e, hn0⟩ | ⟨g', cap', cur, e, hb, hh, hc1, hc2, hc3, hc4⟩
  · cases e
  · injection e with e e' e''
    injection e with e
    injection e with e _ _
    subst e e''
    refine ⟨hb, by omega, ⟨cur, hh, by omega, hc2, by omega, by rw [← hl]; exact hc4⟩, fun j x v hx hv => ?_⟩
    obtain ⟨hj, hx2⟩ := List.getElem?_eq_some_iff.1 hx
    obtain ⟨hj2, hv2⟩ := List.getElem?_eq_some_iff.1 hv
    obtain ⟨_, h5, _⟩ := e1 j (by omega)
    refine Kd.FK_mono (hf j x [v] hx ?_) (fun k hk => ⟨hk.1, fun e => hk.2 (by rw [e]; rfl)⟩)
    rw [List.getElem?_eq_getElem (by omega), h5, hv2]
/-- The same put together. -/
theorem pt_mkN {d : Kd (List Int)} {w : World} {base g cap : Nat} {ok : Nat → Prop} {xs : List (List Int)} {vals : List Value} (hd : d.sz = 1) (hok : ok g) (hl : vals.length = xs.length) (h1 : ∀ v ∈ vals, v.oneCell' = true) (hb : base ≤ g) (cur : Array Value) (hh : w.heap[g]? = some (.cells cur 22 (0, 0))) (hc1 : xs.length ≤ cap) (hc2 : cap ≤ maxLen) (hc3 : cur.size = cap) (hc4 : cur.toList.take xs.length = vals)
    (hf : ∀ (j : Nat) (x : List Int) (v : Value), xs[j]? = some x → vals[j]? = some v → Kd.FK d w (fun k => ok k ∧ k ≠ g) x [v]) : Kd.N d 22 w base ok (.slice (some ⟨g, 0, none⟩) xs.length cap) xs := by
  have hsz : (Kd.raw d.sz).sz = 1 := hd
  refine ⟨fun k hk => ?_, vals.map (fun v => [v]), by simp [hl], ⟨fun k hk => hk.symm, vals, ⟨?_, .inr ⟨g, cap, cur, by simp [hl], hb, hh, by simp [hl]; omega, hc2, by rw [hsz]; omega, ?_⟩⟩, ?_⟩, fun j x c hx hc => ?_⟩
  · have : g = k := by simpa [Value.ownBlock] using hk
    subst this; exact hok
  · simp [hsz]
  · rw [hsz, Nat.mul_one, List.length_map, hl]; exact hc4
  · refine ⟨by simp [hsz], fun j p hj => ?_⟩
    rw [List.getElem?_map] at hj
    obtain ⟨v, hv, rfl⟩ := Option.map_eq_some_iff.1 hj
    obtain ⟨hj2, hv2⟩ := List.getElem?_eq_some_iff.1 hv
    rw [hsz, Nat.mul_one, List.drop_eq_getElem_cons hj2, hv2]
    refine ⟨rfl, by simp [hd], fun u hu => ?_⟩
    simp only [List.take_succ_cons, List.take_zero, List.mem_singleton] at hu
    subst hu
    exact h1 _ (by rw [← hv2]; exact List.getElem_mem hj2)
  · rw [List.getElem?_map] at hc
    obtain ⟨v, hv, rfl⟩ := Option.map_eq_some_iff.1 hc
    exact Kd.FK_mono (hf j x v hx hv) (fun k hk => ⟨hk.1, fun e => hk.2 (by simpa [Value.ownBlock] using e)⟩)
theorem pt_put_ne (W : World) (enc : Nat → Value) (m g : Nat) (a : Array Nat) (k : Nat) (hn : k ≠ g) : (Sort.putRow enc (Sort.ahead W m) g 0 a).heap[k]? = W.heap[k]? := by
  show (Array.modify W.heap g _)[k]? = _
  rw [Array.getElem?_modify, if_neg (Ne.symm hn)]
theorem pt_put_eq (W : World) (enc : Nat → Value) (m g : Nat) (a : Array Nat) (cur : Array Value) (t : TypeId) (hg : W.heap[g]? = some (.cells cur t (0, 0))) : (Sort.putRow enc (Sort.ahead W m) g 0 a).heap[g]? = some (.cells (Sort.putCells enc 0 a cur) t (0, 0)) := by
  show (Array.modify W.heap g _)[g]? = _
  rw [Array.getElem?_modify, if_pos rfl, hg]
  rfl
theorem pt_size (W : World) (enc : Nat → Value) (m g : Nat) (a : Array Nat) : (Sort.putRow enc (Sort.ahead W m) g 0 a).heap.size = W.heap.size := by
  show (Array.modify W.heap g _).size = _
  rw [Array.size_modify]
theorem pt_range (l : List (List Int)) : (List.range l.length).map (fun i => l.getD i []) = l := by
  refine List.ext_getElem? fun j => ?_
  by_cases h : j < l.length
  · simp [h]
  · simp [h]
set_option maxHeartbeats 4000000 in
set_option maxRecDepth 100000 in
theorem pt_delete {w W : World} (v : Value) (l : List (List Int)) (hN : Kd.N (Kd.slice 2 (Kd.int .i64)) 22 W w.heap.size (fun k => w.heap.size ≤ k) v l) (hB : Below w.heap.size w W) (hpos : 0 < l.length) :
    Calls Try.prog 43 #[v, .func (.func 44) #[] #[]] W fun e w' => ∃ v0, e = .returned v0 ∧ Kd.N (Kd.slice 2 (Kd.int .i64)) 22 w' w.heap.size (fun k => w.heap.size ≤ k) v0 (l.filter fun t => !pt_del t) ∧ Below w.heap.size w w' := by
  obtain ⟨g, cap, rfl, hgb, hglt, _⟩ := Kd.N_form hN hpos
  obtain ⟨vals, hvl, hv1, hb, _, ⟨cur, hh, hc1, hc2, hc3, hc4⟩, hf⟩ := pt_cells rfl hN
  obtain ⟨enc, henc⟩ : ∃ enc : Nat → Value, enc = fun i => vals.getD i (.slice none 0 0) := ⟨_, rfl⟩
  obtain ⟨p, hp⟩ : ∃ p : Nat → Bool, p = fun i => pt_del (l.getD i []) := ⟨_, rfl⟩
  have en : ∀ i (hi : i < vals.length), enc i = vals[i] := fun i hi => by rw [henc]; simp [hi]
  have eo : ∀ i, vals.length ≤ i → enc i = .slice none 0 0 := fun i hi => by rw [henc]; simp [hi]
  have hO : OneCell enc := fun i => by
    rcases Nat.lt_or_ge i vals.length with hi | hi
    · rw [en i hi]; exact hv1 _ (List.getElem_mem hi)
    · rw [eo i hi]; rfl
  have hcl : ∀ (W' : World) (i : Nat), (∀ k, k ≠ g → k < W.heap.size → W'.heap[k]? = W.heap[k]?) → FnGives Try.prog 44 #[] #[enc i] (.bool (p i)) W' := by
    intro W' i hW
    rw [hp]
    rcases Nat.lt_or_ge i vals.length with hi | hi
    · rw [en i hi]
      have hi2 : i < l.length := by omega
      obtain ⟨A, c, e, _, hF⟩ := Kd.FK_slice_open (hf i _ _ (List.getElem?_eq_getElem hi2) (List.getElem?_eq_getElem hi))
      injection e with e
      rw [e]
      have e2 : l.getD i [] = l[i] := by simp [hi2]
      simp only [e2]
      exact pt_calls A c l[i] W' (hF W' (fun k hk hlt => hW k hk.2 hlt))
    · rw [eo i hi]
      have e2 : l.getD i [] = [] := by rw [List.getD_eq_getElem?_getD, List.getElem?_eq_none (by omega)]; rfl
      simp only [e2]
      exact pt_calls none 0 [] W' (Kd.C_nil _ _)
  obtain ⟨d, hd⟩ : ∃ d : Array Nat, d = (List.range l.length).toArray := ⟨_, rfl⟩
  have hds : d.size = l.length := by rw [hd]; simp
  have hH : Sort.Holds enc W g 0 d := fun j hj => by
    have hj2 : j < l.length := by omega
    have hj3 : j < vals.length := by omega
    have e1 : d[j]! = j := by rw [hd]; simp [hj2]
    rw [e1, en j hj3, Nat.zero_add]
    refine ⟨(blk_cell hh j).trans ?_, blk_frozen hh j⟩
    have h4 : cur.toList[j]? = some vals[j] := by
      rw [← List.getElem?_eq_getElem hj3, ← hc4, List.getElem?_take, if_pos hj2]
    rw [← h4]; simp
  have hm : l.length ≤ 9223372036854775807 := by unfold maxLen at hc2; omega
  have hcon := AnyE.slices_DeleteFunc layDel_ enc hO p 44 #[] (enters_of Try.func44 (by kernel_rfl) rfl) l.length (fun w => by rw [eo _ (by omega)]; exact Try.zeroValue22 w) g 0 cap d W
    (fun W' i hb => hcl W' i (fun k _ hk => hb.block k hk)) (fun n os dk i _ => hcl _ i (fun k hk hlt => by
      unfold sortWorld
      rw [Sort.heap_grow_old _ _ (by rw [pt_size]; exact hlt)]
      exact pt_put_ne W enc n g dk k hk)) hH (by omega) (by omega)
  change Calls Try.prog 43 _ _ _ at hcon
  rw [hds] at hcon
  obtain ⟨I, hI⟩ : ∃ I : List Nat, I = d.toList.filter fun x => !p x := ⟨_, rfl⟩
  rw [← hI] at hcon
  have hIl : I.map (fun i => l.getD i []) = l.filter fun t => !pt_del t := by
    rw [hI, hd, hp]
    conv => rhs; rw [← pt_range l]
    rw [List.filter_map]
    rfl
  have hIlt : ∀ i ∈ I, i < l.length := fun i hi => by
    rw [hI, hd] at hi
    simpa using (List.mem_filter.1 hi).1
  have hlen : (l.filter fun t => !pt_del t).length = I.length := by rw [← hIl, List.length_map]
  have hIn : I.length ≤ l.length := by rw [← hlen]; exact List.length_filter_le _ _
  refine hcon.mono ?_
  rintro e w' ⟨rfl, q, rfl⟩
  refine ⟨_, rfl, ?_, hB.trans ⟨rfl, rfl, rfl, ?_, fun k hk => pt_put_ne W enc q g _ k (by omega)⟩⟩
  · have hN2 := pt_mkN (d := Kd.slice 2 (Kd.int .i64)) (w := Sort.putRow enc (Sort.ahead W q) g 0 (I ++ List.replicate (l.length - I.length) l.length).toArray) (base := w.heap.size) (g := g) (cap := cap) (ok := fun k => w.heap.size ≤ k) (xs := l.filter fun t => !pt_del t) (vals := I.map enc) rfl hgb (by rw [hlen, List.length_map]) (fun v hv => by obtain ⟨i, _, rfl⟩ := List.mem_map.1 hv; exact hO i) hgb _ (pt_put_eq W enc q g _ cur 22 hh) (by omega) hc2 (by unfold Sort.putCells; rw [Array.size_mapIdx]; exact hc3) ?_ ?_
    · rw [hlen] at hN2; exact hN2
    · rw [hlen]
      refine List.ext_getElem? fun j => ?_
      rw [List.getElem?_take]
      by_cases hj : j < I.length
      · rw [if_pos hj]
        unfold Sort.putCells
        rw [Array.getElem?_toList, Array.getElem?_mapIdx, Array.getElem?_eq_getElem (by omega), List.getElem?_map, List.getElem?_eq_getElem hj]
        simp [hj, show j < I.length + (l.length - I.length) by omega]
      · rw [if_neg hj, List.getElem?_eq_none (by rw [List.length_map]; omega)]
    · intro j x v hx hv
      rw [← hIl, List.getElem?_map] at hx
      rw [List.getElem?_map] at hv
      obtain ⟨i, hi, rfl⟩ := Option.map_eq_some_iff.1 hx
      rw [hi] at hv
      injection hv with hv
      subst hv
      have hil := hIlt i (List.mem_of_getElem? hi)
      have hil2 : i < vals.length := by omega
      rw [en i hil2]
      refine Kd.FK_step (hf i _ _ ?_ (List.getElem?_eq_getElem hil2)) (fun k hk hlt => pt_put_ne W enc q g _ k hk.2)
      simp [hil]
  · rw [pt_size]; exact Nat.le_refl _
def impl_points.f (k : Nat) (a0 : Int) : Option (List (List Int)) := (impl_tuples.f k 3 a0).bind fun l => if 0 < l.length then some (l.filter fun t => !pt_del t) else none
theorem impl_points.mono : ∀ a0 k, LeO (impl_points.f k a0) (impl_points.f (k + 1) a0) := by
  intro a0 k
  unfold impl_points.f
  exact LeO.bind (impl_tuples.mono _ _ _) (fun _ => LeO.refl _)
set_option maxHeartbeats 4000000 in
set_option maxRecDepth 100000 in
theorem impl_points.calls (k : Nat) (a0 : Int) (r : List (List Int)) (w : World) (h : impl_points.f k a0 = some r) :
    Calls Try.prog 31 #[.int .i64 a0] w fun e w' => ∃ v0_ : Value, e = .returned (v0_) ∧ Kd.N (Kd.slice 2 (Kd.int .i64)) 22 w' w.heap.size (fun k_ => (w.heap.size ≤ k_)) v0_ r ∧ Below w.heap.size w w' := by
  unfold impl_points.f at h
  obtain ⟨l, A1, h⟩ := Option.bind_eq_some_iff.mp h
  split at h
  case isFalse => cases h
  rename_i hpos
  injection h with h
  subst h
  have H1 := Aside0.mk A1
  have HP := Aside0.mk hpos
  clear A1 hpos
  generalize hR : (l.filter fun t => !pt_del t) = R
  have HR := Aside0.mk hR
  clear hR
  go_enter Try.func31, Try.ntmps31
  go_wp2_with (first
    | (go_at_call 37; refine (impl_tuples.calls k 3 a0 l _ H1.out).mono ?_; rintro e w1 ⟨v1, rfl, hN, hb⟩; have HN := Aside0.mk hN; have HB := Aside0.mk hb; clear hN hb)
    | (go_at_call 43; refine (pt_delete v1 l HN.out HB.out HP.out).mono ?_; rintro e w2 ⟨v2, rfl, hN2, hb2⟩; rw [HR.out] at hN2; have HN2 := Aside0.mk hN2; have HB2 := Aside0.mk hb2; clear hN2 hb2))
  go_ret
  exact ⟨_, rfl, HN2.out, HB2.out⟩

/-! ### impl_isOn: function 32 -/
def impl_isOn.f (a0 : Int) (l1 : List Int) (l2 : List Int) : Option (Bool) := if 0 < (l1.length : Int) then (if 0 < (l2.length : Int) then (if 1 < (l1.length : Int) then (if 1 < (l2.length : Int) then (if 2 < (l1.length : Int) then (if 2 < (l2.length : Int) then (if a0 = 0 then (none) else (some ((Int.tmod (wrap64 ((wrap64 ((wrap64 ((rd l1 0) * (rd l2 0))) + (wrap64 ((rd l1 1) * (rd l2 1))))) + (wrap64 ((rd l1 2) * (rd l2 2))))) a0) == 0))) else (none)) else (none)) else (none)) else (none)) else (none)) else (none)
set_option maxHeartbeats 8000000 in
set_option maxRecDepth 100000 in
theorem impl_isOn.calls (a0 : Int) (A1 : Option Addr) (c1 : Nat) (l1 : List Int) (A2 : Option Addr) (c2 : Nat) (l2 : List Int) (r : Bool) (w : World) (hr1 : Kd.C (Kd.int .i64) w A1 l1.length l1) (hc1 : l1.length ≤ c1) (hr2 : Kd.C (Kd.int .i64) w A2 l2.length l2) (hc2 : l2.length ≤ c2) (h : impl_isOn.f a0 l1 l2 = some r) :
    Calls Try.prog 32 #[.int .i64 a0, .slice A1 l1.length c1, .slice A2 l2.length c2] w fun e w' => e = .returned (.bool r) ∧ Drawn0 w w' := by
  have HR1 := Aside0.mk hr1
  have HC1 := Aside0.mk hc1
  clear hr1 hc1
  have HR2 := Aside0.mk hr2
  have HC2 := Aside0.mk hc2
  clear hr2 hc2
  have H : (if 0 < (l1.length : Int) then (if 0 < (l2.length : Int) then (if 1 < (l1.length : Int) then (if 1 < (l2.length : Int) then (if 2 < (l1.length : Int) then (if 2 < (l2.length : Int) then (if a0 = 0 then (none) else (some ((Int.tmod (wrap64 ((wrap64 ((wrap64 ((rd l1 0) * (rd l2 0))) + (wrap64 ((rd l1 1) * (rd l2 1))))) + (wrap64 ((rd l1 2) * (rd l2 2))))) a0) == 0))) else (none)) else (none)) else (none)) else (none)) else (none)) else (none)) = some r := h
  clear h
  by_cases c4 : 0 < (l1.length : Int)
  · rw [if_pos c4] at H
    have c4b0 : decide (0 < (l1.length : Int)) = true := decide_eq_true c4
    have c4b1 : decide (0 < l1.length) = true := decide_eq_true (by omega)
    clear c4
    by_cases c5 : 0 < (l2.length : Int)
    · rw [if_pos c5] at H
      have c5b0 : decide (0 < (l2.length : Int)) = true := decide_eq_true c5
      have c5b1 : decide (0 < l2.length) = true := decide_eq_true (by omega)
      clear c5
      by_cases c6 : 1 < (l1.length : Int)
      · rw [if_pos c6] at H
        have c6b0 : decide (1 < (l1.length : Int)) = true := decide_eq_true c6
        have c6b1 : decide (1 < l1.length) = true := decide_eq_true (by omega)
        clear c6
        by_cases c7 : 1 < (l2.length : Int)
        · rw [if_pos c7] at H
          have c7b0 : decide (1 < (l2.length : Int)) = true := decide_eq_true c7
          have c7b1 : decide (1 < l2.length) = true := decide_eq_true (by omega)
          clear c7
          by_cases c8 : 2 < (l1.length : Int)
          · rw [if_pos c8] at H
            have c8b0 : decide (2 < (l1.length : Int)) = true := decide_eq_true c8
            have c8b1 : decide (2 < l1.length) = true := decide_eq_true (by omega)
            clear c8
            by_cases c9 : 2 < (l2.length : Int)
            · rw [if_pos c9] at H
              have c9b0 : decide (2 < (l2.length : Int)) = true := decide_eq_true c9
              have c9b1 : decide (2 < l2.length) = true := decide_eq_true (by omega)
              clear c9
              by_cases c10 : a0 = 0
              · rw [if_pos c10] at H
                exact absurd H (by simp)
              · rw [if_neg c10] at H
                have c10b0 : (a0 == 0) = false := beq_eq_false_iff_ne.mpr c10
                have c10b1 : (a0 != 0) = true := bne_iff_ne.mpr c10
                obtain rfl := Option.some.inj H
                have p164 : 0 ≤ (0 : Int) := (by omega)
                have q164 : 0 < (l1.length : Int) := of_decide_eq_true (by first | (with_reducible assumption) | assumption)
                obtain ⟨ad164, e164, hx164_0⟩ := Kd.at_int HR1.out 0 p164 q164
                cases e164
                have qi164 : (0 < l1.length) = True := eq_true (by omega)
                (try rw [show ((0 : Int)).toNat = 0 from rfl] at hx164_0)
                (try rw [Addr.add_zero'] at hx164_0)
                replace p164 := eq_true p164
                replace q164 := eq_true q164
                have p165 : 0 ≤ (0 : Int) := (by omega)
                have q165 : 0 < (l2.length : Int) := of_decide_eq_true (by first | (with_reducible assumption) | assumption)
                obtain ⟨ad165, e165, hx165_0⟩ := Kd.at_int HR2.out 0 p165 q165
                cases e165
                have qi165 : (0 < l2.length) = True := eq_true (by omega)
                (try rw [show ((0 : Int)).toNat = 0 from rfl] at hx165_0)
                (try rw [Addr.add_zero'] at hx165_0)
                replace p165 := eq_true p165
                replace q165 := eq_true q165
                have p166 : 0 ≤ (1 : Int) := (by omega)
                have q166 : 1 < (l1.length : Int) := of_decide_eq_true (by first | (with_reducible assumption) | assumption)
                obtain ⟨ad166, e166, hx166_0⟩ := Kd.at_int HR1.out 1 p166 q166
                obtain rfl : ad164 = ad166 := (by injection e166)
                (try simp only [show (1 : Int).toNat = 1 from rfl, Nat.reduceMul, Nat.reduceEqDiff, Go.Addr.add, ↓reduceIte] at hx166_0)
                have qi166 : (1 < l1.length) = True := eq_true (by omega)
                (try rw [show ((1 : Int)).toNat = 1 from rfl] at hx166_0)
                replace p166 := eq_true p166
                replace q166 := eq_true q166
                have p167 : 0 ≤ (1 : Int) := (by omega)
                have q167 : 1 < (l2.length : Int) := of_decide_eq_true (by first | (with_reducible assumption) | assumption)
                obtain ⟨ad167, e167, hx167_0⟩ := Kd.at_int HR2.out 1 p167 q167
                obtain rfl : ad165 = ad167 := (by injection e167)
                (try simp only [show (1 : Int).toNat = 1 from rfl, Nat.reduceMul, Nat.reduceEqDiff, Go.Addr.add, ↓reduceIte] at hx167_0)
                have qi167 : (1 < l2.length) = True := eq_true (by omega)
                (try rw [show ((1 : Int)).toNat = 1 from rfl] at hx167_0)
                replace p167 := eq_true p167
                replace q167 := eq_true q167
                have p168 : 0 ≤ (2 : Int) := (by omega)
                have q168 : 2 < (l1.length : Int) := of_decide_eq_true (by first | (with_reducible assumption) | assumption)
                obtain ⟨ad168, e168, hx168_0⟩ := Kd.at_int HR1.out 2 p168 q168
                obtain rfl : ad164 = ad168 := (by injection e168)
                (try simp only [show (2 : Int).toNat = 2 from rfl, Nat.reduceMul, Nat.reduceEqDiff, Go.Addr.add, ↓reduceIte] at hx168_0)
                have qi168 : (2 < l1.length) = True := eq_true (by omega)
                (try rw [show ((2 : Int)).toNat = 2 from rfl] at hx168_0)
                replace p168 := eq_true p168
                replace q168 := eq_true q168
                have p169 : 0 ≤ (2 : Int) := (by omega)
                have q169 : 2 < (l2.length : Int) := of_decide_eq_true (by first | (with_reducible assumption) | assumption)
                obtain ⟨ad169, e169, hx169_0⟩ := Kd.at_int HR2.out 2 p169 q169
                obtain rfl : ad165 = ad169 := (by injection e169)
                (try simp only [show (2 : Int).toNat = 2 from rfl, Nat.reduceMul, Nat.reduceEqDiff, Go.Addr.add, ↓reduceIte] at hx169_0)
                have qi169 : (2 < l2.length) = True := eq_true (by omega)
                (try rw [show ((2 : Int)).toNat = 2 from rfl] at hx169_0)
                replace p169 := eq_true p169
                replace q169 := eq_true q169
                go_enter Try.func32, Try.ntmps32
                go_wp2
                repeat (go_quiet (fail); try go_wp2)
                go_ret
                exact ⟨by first | rfl | (simp; done) | (simp [*]; done), by repeat (first | exact Drawn0.refl _ | apply Drawn0.step)⟩
            · rw [if_neg c9] at H
              exact absurd H (by simp)
          · rw [if_neg c8] at H
            exact absurd H (by simp)
        · rw [if_neg c7] at H
          exact absurd H (by simp)
      · rw [if_neg c6] at H
        exact absurd H (by simp)
    · rw [if_neg c5] at H
      exact absurd H (by simp)
  · rw [if_neg c4] at H
    exact absurd H (by simp)

/-! ### impl_empty: function 48 -/
def impl_empty.f (a0 : Int) : Option (Int × List Int) := if 0 ≤ a0 then (if (a0 : Int).toNat ≤ 35184372088832 then (some (a0, (List.replicate (a0 : Int).toNat 0))) else (none)) else (none)
set_option maxHeartbeats 8000000 in
set_option maxRecDepth 100000 in
theorem impl_empty.calls (a0 : Int) (r1 : Int) (r2 : List Int) (w : World) (h : impl_empty.f a0 = some (r1, r2)) :
    Calls Try.prog 48 #[.int .i64 a0] w fun e w' => ∃ v1_ : Value, e = .returned (.agg #[.int .i64 r1, v1_]) ∧ Kd.R (Kd.int .i64) 2 w' w.heap.size (fun _ => True) v1_ r2 ∧ Below w.heap.size w w' := by
  have hu34 := Try.underlying34
  have HB := Aside0.mk (Below.refl w.heap.size w)
  have H : (if 0 ≤ a0 then (if (a0 : Int).toNat ≤ 35184372088832 then (some (a0, (List.replicate (a0 : Int).toNat 0))) else (none)) else (none)) = some (r1, r2) := h
  clear h
  by_cases c2 : 0 ≤ a0
  · rw [if_pos c2] at H
    have c2b0 := eq_true c2
    have c2b1 : decide (0 ≤ a0) = true := decide_eq_true c2
    clear c2
    by_cases c3 : (a0 : Int).toNat ≤ 35184372088832
    · rw [if_pos c3] at H
      have c3b0 := eq_true c3
      have c3b1 : decide ((a0 : Int).toNat ≤ 35184372088832) = true := decide_eq_true c3
      clear c3
      obtain ⟨y171, hy171⟩ : ∃ y_ : List Int, y_ = (List.replicate (a0 : Int).toNat 0) := ⟨_, rfl⟩
      replace H : (some (a0, y171)) = some (r1, r2) := by first | (rw [hy171]; with_reducible exact H) | (have H2_ := (Option.bind_some _ _).symm.trans H; rw [hy171]; with_reducible exact H2_) | (have H2_ := (Option.bind_some _ _).symm.trans H; with_reducible exact H2_) | with_reducible exact H | (rw [hy171]; exact H) | exact H
      have Ny171 := Aside0.mk hy171
      clear hy171
      simp only [Option.some.injEq, Prod.mk.injEq] at H
      obtain ⟨rfl, rfl⟩ := H
      go_enter Try.func48, Try.ntmps48
      go_wp2_with (first | ((with_reducible refine gate_dst (N := 2) rfl ?_); refine box_event ?hg (N := 2) ?hd (cs := #[.int .i64 0, .slice none 0 0]) (t := 34) ?hr ?_; (case hd => rfl); (case hg => rfl); (case hr => first | (go_simp; done) | (go_simp; rfl)); intro gb170 hg w4 hbox hb; have n0_ := Aside0.mk (below_step (by repeat (first | (with_reducible first | exact HB.out | apply below_alloc | apply pw_below_drewN | apply below_drew1) | exact HB.out)) hb); have n1_ := Aside0.mk (hbox); have n2_ := Aside0.mk ((by rw [hg]; exact (below_size (by repeat (first | (with_reducible first | exact HB.out | apply below_alloc | apply pw_below_drewN | apply below_drew1) | exact HB.out))) : w.heap.size ≤ gb170)); have n3_ := Aside0.mk ((by rw [hg]; exact (below_size (by repeat (first | (with_reducible first | exact HB.out | apply below_alloc | apply pw_below_drewN | apply below_drew1) | exact HB.out))) : w.heap.size ≤ gb170)); clear HB; have HB := n0_; have BK170 := n1_; have GW170 := n2_; have GE170 := n3_; clear n0_ n1_ n2_ n3_; clear hb hbox hg) | ((with_reducible refine gate_dst (N := 5) rfl ?_); refine Kd.R_make (Kd.int .i64) _ 2 rfl (N := 5) rfl 22 _ _ rfl a0 rfl rfl Try.underlying22 (.int .i64 0) 8 info2 rfl (by decide) (by omega) 0 (ok := fun _ => True) (okp := fun _ => True) rfl (fun _ hk => hk) trivial (of_decide_eq_true (by first | (with_reducible assumption) | assumption)) (Nat.le_trans (Nat.mul_le_mul_right _ (of_decide_eq_true (by first | (with_reducible assumption) | assumption) : a0.toNat ≤ 35184372088832)) (by omega)) (Below.refl _ _) (Nat.le_refl _) ?_; intro v172 w5 ho6 hb hg_ hnew_; clear hg_ hnew_; (first | rw [← Ny171.out] at ho6 | (simp only [Int.reduceToNat] at ho6; rw [← Ny171.out] at ho6)); have n0_ := Aside0.mk (Kd.R_lower ho6 (below_size (by repeat (first | (with_reducible first | exact HB.out | apply below_alloc | apply pw_below_drewN | apply below_drew1 | refine below_set ?_ GE170.out) | exact HB.out)))); have n1_ := Aside0.mk (blk_below (g := gb170) (o := .cells #[.int .i64 0, .slice none 0 0] 34 (0, 0)) (by (with_reducible repeat (first | refine blk_drewN ?_ _ | refine blk_drew ?_ | refine blk_alloc ?_ _)); exact BK170.out) hb); have n2_ := Aside0.mk (below_step (by repeat (first | (with_reducible first | exact HB.out | apply below_alloc | apply pw_below_drewN | apply below_drew1 | refine below_set ?_ GE170.out) | exact HB.out)) hb); clear BK170; clear HB; have HO173 := n0_; have BK170 := n1_; have HB := n2_; clear n0_ n1_ n2_; clear hb ho6; obtain ⟨Ao7, co7, eo7⟩ := Kd.R_slice HO173.out; subst eo7; have hcz8_0 : w5.cell? ⟨gb170, 0, none⟩ = some (.int .i64 0) := (blk_cell BK170.out 0).trans rfl; have hcz8_1 : w5.cell? ⟨gb170, 1, none⟩ = some (.slice none 0 0) := (blk_cell BK170.out 1).trans rfl; have hfz8_0 := blk_frozen BK170.out 0; have hfz8_1 := blk_frozen BK170.out 1))
      refine bodyPost_ret (results_cell_row rfl _ _ gb170 34 #[.int .i64 a0, .slice Ao7 y171.length co7] (0, 0) _ rfl (by (with_reducible repeat (first | refine blk_drewN ?_ _ | refine blk_drew ?_ | refine blk_alloc ?_ _)); refine blk_put (cs := #[.int .i64 a0, .slice none 0 0]) ?_ 1 _ rfl; (with_reducible repeat (first | refine blk_drewN ?_ _ | refine blk_drew ?_ | refine blk_alloc ?_ _)); refine blk_put (cs := #[.int .i64 0, .slice none 0 0]) ?_ 0 _ rfl; (with_reducible repeat (first | refine blk_drewN ?_ _ | refine blk_drew ?_ | refine blk_alloc ?_ _)); exact BK170.out) Try.underlying34 rfl (by kernel_rfl)) rfl ?_
      exact ⟨_, by first | rfl | (simp [errW_none, errW_some] <;> rfl) | (simp [*, errW_none, errW_some] <;> rfl), by (with_reducible repeat (first | apply Kd.R_alloc | apply Kd.R_drewN | apply Kd.R_drew)); exact Kd.R_mono (Kd.R_far (p := ⟨gb170, 1, none⟩) (Kd.R_far (p := ⟨gb170, 0, none⟩) (Kd.R_types HO173.out BK170.out (by decide)) (fun _ hk => hk.2) (.int .i64 a0)) (fun _ hk => hk.2) (.slice Ao7 y171.length co7)) (fun _ hk => trivial), by repeat (first | (with_reducible first | exact HB.out | apply below_alloc | apply pw_below_drewN | apply below_drew1 | refine below_set ?_ GE170.out) | exact HB.out)⟩
    · rw [if_neg c3] at H
      exact absurd H (by simp)
  · rw [if_neg c2] at H
    exact absurd H (by simp)

/-! ### impl_Graph_put: function 49 -/
def impl_Graph_put.f (a0_0 : Int) (l0_1 : List Int) (a1 : Int) (a2 : Int) : Option (List Int) := if a1 = a2 then (some l0_1) else (if 0 ≤ a1 then (if a1 < (l0_1.length : Int) then (if 0 ≤ a2 then ((some (l0_1.set (a1 : Int).toNat (Go.bits .or .i64 (rd l0_1 a1) (shl .i64 1 a2)) : List Int)).bind fun y176 => (if a2 < (l0_1.length : Int) then (some (y176.set (a2 : Int).toNat (Go.bits .or .i64 (rd y176 a2) (shl .i64 1 a1)))) else (none))) else (none)) else (none)) else (none))
def impl_Graph_put.T2 : Bool × List (List Nat × List Nat) := (true, [([], []), ([0], [0]), ([], []), ([1, 2], [1, 2]), ([3], [3]), ([], []), ([5], [5]), ([4, 6], [4, 6]), ([1, 2, 0, 1, 2, 3, 4, 5, 6, 7], [1, 2]), ([8, 7, 0, 1, 2, 3, 4, 5, 6, 7], [7, 8])])
def impl_Graph_put.B2 : List Nat := [0, 1, 0, 7, 15, 0, 32, 127, 255, 511]
theorem impl_Graph_put.tab2 : rtab .any (opsOf Try.f49 2) = impl_Graph_put.T2 := by kernel_rfl
theorem impl_Graph_put.bits2 : waitsOk impl_Graph_put.T2.2 impl_Graph_put.B2 = true := by kernel_rfl
def impl_Graph_put.T3 : Bool × List (List Nat × List Nat) := (true, [([], []), ([0], [0]), ([], []), ([1, 2], [1, 2]), ([3], [3]), ([], []), ([5], [5]), ([4, 6], [4, 6]), ([1, 2, 0, 1, 2, 3, 4, 5, 6, 7], [1, 2]), ([8, 7, 0, 1, 2, 3, 4, 5, 6, 7], [7, 8])])
def impl_Graph_put.B3 : List Nat := [0, 1, 0, 7, 15, 0, 32, 127, 255, 511]
theorem impl_Graph_put.tab3 : rtab .any (opsOf Try.f49 3) = impl_Graph_put.T3 := by kernel_rfl
theorem impl_Graph_put.bits3 : waitsOk impl_Graph_put.T3.2 impl_Graph_put.B3 = true := by kernel_rfl
set_option maxHeartbeats 8000000 in
set_option maxRecDepth 100000 in
theorem impl_Graph_put.calls (a0_0 : Int) (P0_1_ : Nat → Prop) (u9000_ : Value) (l0_1 : List Int) (a1 : Int) (a2 : Int) (r : List Int) (w0 w : World) (hB : Below w0.heap.size w0 w) (ho0_1 : Kd.R (Kd.int .i64) 2 w w0.heap.size P0_1_ u9000_ l0_1) (h : impl_Graph_put.f a0_0 l0_1 a1 a2 = some r) :
    Calls Try.prog 49 #[.agg #[.int .i64 a0_0, u9000_], .int .i64 a1, .int .i64 a2] w fun e w' => e = .returned (.tuple #[]) ∧ Kd.R (Kd.int .i64) 2 w' w0.heap.size (fun k_ => (P0_1_ k_ ∨ w.heap.size ≤ k_)) u9000_ r ∧ Below w0.heap.size w0 w' ∧ Kept w w' (fun k_ => P0_1_ k_) := by
  have hu34 := Try.underlying34
  have HO0_1 := Aside0.mk (show Kd.R (Kd.int .i64) 2 w w0.heap.size (fun k_ => (P0_1_ k_ ∨ w.heap.size ≤ k_)) u9000_ l0_1 from Kd.R_mono ho0_1 (fun k_ hk => (.inl hk)))
  have HK := Aside0.mk (Kept.refl w (fun k_ => P0_1_ k_))
  have HW0 := Aside0.mk hB.size
  have HB := Aside0.mk hB
  clear hB
  have H : (if a1 = a2 then (some l0_1) else (if 0 ≤ a1 then (if a1 < (l0_1.length : Int) then (if 0 ≤ a2 then ((some (l0_1.set (a1 : Int).toNat (Go.bits .or .i64 (rd l0_1 a1) (shl .i64 1 a2)) : List Int)).bind fun y176 => (if a2 < (l0_1.length : Int) then (some (y176.set (a2 : Int).toNat (Go.bits .or .i64 (rd y176 a2) (shl .i64 1 a1)))) else (none))) else (none)) else (none)) else (none))) = some r := h
  clear h
  by_cases c4 : a1 = a2
  · rw [if_pos c4] at H
    have c4b0 : (a1 == a2) = true := beq_iff_eq.mpr c4
    have c4b1 : (a1 != a2) = false := bne_eq_false_iff_eq.mpr c4
    clear c4
    obtain rfl := Option.some.inj H
    obtain ⟨Ao5, co5, eo5⟩ := Kd.R_slice HO0_1.out
    subst eo5
    go_enter Try.func49, Try.ntmps49
    go_wp2_with (first | ((with_reducible refine gate_dst (N := 3) rfl ?_); refine box_event ?hg (N := 3) ?hd (cs := #[.int .i64 a0_0, .slice Ao5 l0_1.length co5]) (t := 34) ?hr ?_; (case hd => rfl); (case hg => rfl); (case hr => first | (go_simp; done) | (go_simp; rfl)); intro gb174 hg w6 hbox hb; have n0_ := Aside0.mk (Kd.R_below (by (with_reducible repeat (first | apply Kd.R_alloc | apply Kd.R_drewN | apply Kd.R_drew)); exact HO0_1.out) hb); have n1_ := Aside0.mk (Kept.below (S := (fun k_ => P0_1_ k_)) (by repeat (first | (with_reducible first | exact HK.out | apply Kept.alloc | apply Kept.drewN | apply Kept.drew) | exact HK.out)) hb); have n2_ := Aside0.mk (below_step (by repeat (first | (with_reducible first | exact HB.out | apply below_alloc | apply pw_below_drewN | apply below_drew1) | exact HB.out)) hb); have n3_ := Aside0.mk (hbox); have n4_ := Aside0.mk ((by rw [hg]; exact (by first | exact HK.out.1 | exact (show Kept w _ (fun k_ => P0_1_ k_) from by repeat (first | (with_reducible first | exact HK.out | apply Kept.alloc | apply Kept.drewN | apply Kept.drew) | exact HK.out)).1) : w.heap.size ≤ gb174)); have n5_ := Aside0.mk ((by rw [hg]; exact (below_size (by repeat (first | (with_reducible first | exact HB.out | apply below_alloc | apply pw_below_drewN | apply below_drew1) | exact HB.out))) : w0.heap.size ≤ gb174)); clear HO0_1; clear HK; clear HB; have HO0_1 := n0_; have HK := n1_; have HB := n2_; have BK174 := n3_; have GW174 := n4_; have GE174 := n5_; clear n0_ n1_ n2_ n3_ n4_ n5_; clear hb hbox hg))
    first | go_end0 | ((try simp only [Exit.inBlock, Exit.then]); refine bodyPost_ret (results_none rfl _ _ _) rfl ?_)
    exact ⟨by first | rfl | (simp [errW_none, errW_some] <;> rfl) | (simp [*, errW_none, errW_some] <;> rfl), by (with_reducible repeat (first | apply Kd.R_alloc | apply Kd.R_drewN | apply Kd.R_drew)); exact HO0_1.out, by repeat (first | (with_reducible first | exact HB.out | apply below_alloc | apply pw_below_drewN | apply below_drew1 | refine below_set ?_ GE174.out) | exact HB.out), by repeat (first | (with_reducible first | exact HK.out | apply Kept.alloc | apply Kept.drewN | apply Kept.drew | refine Kept.setCell ?_ (.inr GW174.out) _) | exact HK.out)⟩
  · rw [if_neg c4] at H
    have c4b0 : (a1 == a2) = false := beq_eq_false_iff_ne.mpr c4
    have c4b1 : (a1 != a2) = true := bne_iff_ne.mpr c4
    by_cases c7 : 0 ≤ a1
    · rw [if_pos c7] at H
      have c7b0 : decide (0 ≤ a1) = true := decide_eq_true c7
      clear c7
      by_cases c8 : a1 < (l0_1.length : Int)
      · rw [if_pos c8] at H
        have c8b0 : decide (a1 < (l0_1.length : Int)) = true := decide_eq_true c8
        clear c8
        by_cases c9 : 0 ≤ a2
        · rw [if_pos c9] at H
          have c9b0 := eq_true c9
          have c9b1 : decide (0 ≤ a2) = true := decide_eq_true c9
          clear c9
          obtain ⟨ji10, hji10⟩ : ∃ j_ : Int, (shl .i64 1 a2) = j_ := ⟨_, rfl⟩
          replace H : ((some (l0_1.set (a1 : Int).toNat (Go.bits .or .i64 (rd l0_1 a1) (ji10)) : List Int)).bind fun y176 => (if a2 < (l0_1.length : Int) then (some (y176.set (a2 : Int).toNat (Go.bits .or .i64 (rd y176 a2) (shl .i64 1 a1)))) else (none))) = some r := by first | (rw [hji10] at H; exact H) | (simp only [hji10] at H ⊢; exact H)
          have hji10_ : (IntKind.i64.wrap (1 * 2 ^ min a2.toNat 64)) = ji10 := hji10
          have hji10z : a2 ≤ 64 → (IntKind.i64.wrap (1 * 2 ^ a2.toNat)) = ji10 := shl_small hji10
          have hji10u : (IntKind.i64.wrap (2 ^ min a2.toNat 64)) = ji10 := by have h_ := hji10_; rw [Int.one_mul] at h_; exact h_
          have hji10v : a2 ≤ 64 → (IntKind.i64.wrap (2 ^ a2.toNat)) = ji10 := fun hle_ => by have h_ := hji10z hle_; rw [Int.one_mul] at h_; exact h_
          have hji10y : (wrap64 (1 * 2 ^ min a2.toNat 64)) = ji10 := (i64_w _).symm.trans hji10_
          have hji10x : a2 ≤ 64 → (wrap64 (1 * 2 ^ a2.toNat)) = ji10 := fun h_ => (i64_w _).symm.trans (hji10z h_)
          obtain ⟨y176, hy176⟩ : ∃ y_ : List Int, y_ = (l0_1.set (a1 : Int).toNat (Go.bits .or .i64 (rd l0_1 a1) (ji10))) := ⟨_, rfl⟩
          replace H : (if a2 < (l0_1.length : Int) then (some (y176.set (a2 : Int).toNat (Go.bits .or .i64 (rd y176 a2) (shl .i64 1 a1)))) else (none)) = some r := by first | (rw [hy176]; with_reducible exact H) | (have H2_ := (Option.bind_some _ _).symm.trans H; rw [hy176]; with_reducible exact H2_) | (have H2_ := (Option.bind_some _ _).symm.trans H; with_reducible exact H2_) | with_reducible exact H | (rw [hy176]; exact H) | exact H
          have Ny176 := Aside0.mk hy176
          clear hy176
          by_cases c12 : a2 < (l0_1.length : Int)
          · rw [if_pos c12] at H
            have c12b0 : decide (a2 < (l0_1.length : Int)) = true := decide_eq_true c12
            clear c12
            have c13b0 := eq_true (of_decide_eq_true (by first | (with_reducible assumption) | assumption) : 0 ≤ a1)
            obtain ⟨ji14, hji14⟩ : ∃ j_ : Int, (shl .i64 1 a1) = j_ := ⟨_, rfl⟩
            replace H : (some (y176.set (a2 : Int).toNat (Go.bits .or .i64 (rd y176 a2) (ji14)))) = some r := by first | (rw [hji14] at H; exact H) | (simp only [hji14] at H ⊢; exact H)
            have hji14_ : (IntKind.i64.wrap (1 * 2 ^ min a1.toNat 64)) = ji14 := hji14
            have hji14z : a1 ≤ 64 → (IntKind.i64.wrap (1 * 2 ^ a1.toNat)) = ji14 := shl_small hji14
            have hji14u : (IntKind.i64.wrap (2 ^ min a1.toNat 64)) = ji14 := by have h_ := hji14_; rw [Int.one_mul] at h_; exact h_
            have hji14v : a1 ≤ 64 → (IntKind.i64.wrap (2 ^ a1.toNat)) = ji14 := fun hle_ => by have h_ := hji14z hle_; rw [Int.one_mul] at h_; exact h_
            have hji14y : (wrap64 (1 * 2 ^ min a1.toNat 64)) = ji14 := (i64_w _).symm.trans hji14_
            have hji14x : a1 ≤ 64 → (wrap64 (1 * 2 ^ a1.toNat)) = ji14 := fun h_ => (i64_w _).symm.trans (hji14z h_)
            obtain ⟨y178, hy178⟩ : ∃ y_ : List Int, y_ = (y176.set (a2 : Int).toNat (Go.bits .or .i64 (rd y176 a2) (ji14))) := ⟨_, rfl⟩
            replace H : (some y178) = some r := by first | (rw [hy178]; with_reducible exact H) | (have H2_ := (Option.bind_some _ _).symm.trans H; rw [hy178]; with_reducible exact H2_) | (have H2_ := (Option.bind_some _ _).symm.trans H; with_reducible exact H2_) | with_reducible exact H | (rw [hy178]; exact H) | exact H
            have Ny178 := Aside0.mk hy178
            clear hy178
            obtain rfl := Option.some.inj H
            obtain ⟨Ao16, co16, eo16⟩ := Kd.R_slice HO0_1.out
            subst eo16
            go_enter Try.func49, Try.ntmps49
            try go_wp2_with (first | ((with_reducible refine gate_dst (N := 3) rfl ?_); refine box_event ?hg (N := 3) ?hd (cs := #[.int .i64 a0_0, .slice Ao16 l0_1.length co16]) (t := 34) ?hr ?_; (case hd => rfl); (case hg => rfl); (case hr => first | (go_simp; done) | (go_simp; rfl)); intro gb174 hg w17 hbox hb; have n0_ := Aside0.mk (Kd.R_below (by (with_reducible repeat (first | apply Kd.R_alloc | apply Kd.R_drewN | apply Kd.R_drew)); exact HO0_1.out) hb); have n1_ := Aside0.mk (Kept.below (S := (fun k_ => P0_1_ k_)) (by repeat (first | (with_reducible first | exact HK.out | apply Kept.alloc | apply Kept.drewN | apply Kept.drew) | exact HK.out)) hb); have n2_ := Aside0.mk (below_step (by repeat (first | (with_reducible first | exact HB.out | apply below_alloc | apply pw_below_drewN | apply below_drew1) | exact HB.out)) hb); have n3_ := Aside0.mk (hbox); have n4_ := Aside0.mk ((by rw [hg]; exact (by first | exact HK.out.1 | exact (show Kept w _ (fun k_ => P0_1_ k_) from by repeat (first | (with_reducible first | exact HK.out | apply Kept.alloc | apply Kept.drewN | apply Kept.drew) | exact HK.out)).1) : w.heap.size ≤ gb174)); have n5_ := Aside0.mk ((by rw [hg]; exact (below_size (by repeat (first | (with_reducible first | exact HB.out | apply below_alloc | apply pw_below_drewN | apply below_drew1) | exact HB.out))) : w0.heap.size ≤ gb174)); clear HO0_1; clear HK; clear HB; have HO0_1 := n0_; have HK := n1_; have HB := n2_; have BK174 := n3_; have GW174 := n4_; have GE174 := n5_; clear n0_ n1_ n2_ n3_ n4_ n5_; clear hb hbox hg))
            have n0_ := Aside0.mk (Kd.R_drew HO0_1.out)
            have n1_ := Aside0.mk (blk_drew BK174.out)
            have n2_ := Aside0.mk (Kept.drew HK.out)
            have n3_ := Aside0.mk (below_drew1 HB.out)
            clear HO0_1
            clear BK174
            clear HK
            clear HB
            have HO0_1 := n0_
            have BK174 := n1_
            have HK := n2_
            have HB := n3_
            clear n0_ n1_ n2_ n3_
            have p175 : 0 ≤ (a1 : Int) := of_decide_eq_true (by first | (with_reducible assumption) | assumption)
            have q175 : a1 < (l0_1.length : Int) := of_decide_eq_true (by first | (with_reducible assumption) | assumption)
            obtain ⟨ad175, e175, hx175_0⟩ := Kd.at_int (Kd.R_reads' HO0_1.out).2.2 a1 p175 q175
            cases e175
            replace p175 := eq_true p175
            replace q175 := eq_true q175
            have p11 : 0 ≤ (a1 : Int) := of_decide_eq_true (by first | (with_reducible assumption) | assumption)
            have q11 : (a1 : Int) < ((l0_1.length : Int) : Int) := of_decide_eq_true (by first | (with_reducible assumption) | assumption)
            obtain ⟨go11, co11, eo11, gb11, gl11, cl11, HG11⟩ := Kd.R_form HO0_1.out (by omega)
            (first | cases eo11 | (injection eo11 with ea_ en_ ec_; (first | subst ea_ | (injection ea_ with ea_; subst ea_)); subst ec_; clear en_))
            have GB11 := Aside0.mk gb11
            have GG11 := Aside0.mk HG11
            clear gb11 gl11 HG11
            have HMgo11 := Aside0.mk (show (P0_1_ go11 ∨ w.heap.size ≤ go11) from (HO0_1.out.1 _ rfl))
            (first | simp only [add_plain] at hx175_0 | skip)
            obtain ⟨hx11_0, hf11_0⟩ := Kd.R_celln 0 HO0_1.out (a1 : Int) p11 q11
            replace p11 := eq_true p11
            replace q11 := eq_true q11
            have HP19 := Kd.R_putn HO0_1.out (a1 : Int) (Go.bits .or .i64 (rd l0_1 a1) (ji10))
            rw [← Ny176.out] at HP19
            have HQ19 := Aside0.mk HP19
            clear HP19
            refine start_ (n := 10) (S := fun w' => w'.cell? ⟨gb174, 0, none⟩ = some (.int .i64 a0_0) ∧ w'.cell? ⟨gb174, 1, none⟩ = some (.slice (some ⟨go11, 0, none⟩) l0_1.length co16) ∧ w'.cell? ⟨go11, (a1).toNat, none⟩ = some (.int .i64 (rd l0_1 a1))) (ds := [9]) #[false, false, false, false, false, false, false, false, false, false] (by kernel_rfl) rfl rfl ⟨(blk_cell BK174.out 0).trans rfl, (blk_cell BK174.out 1).trans rfl, hx175_0⟩ (fun hHeld => ?_); refine with_tabW impl_Graph_put.tab2 impl_Graph_put.bits2 (fun HT_ HW_ => ?_)
            generalize w17.drew = w18 at HO0_1 BK174 HK HB GG11 HQ19 hf11_0 hx11_0 hx175_0 hHeld ⊢
            refine pure_ (i := 0) (N := some 9) (v := ?_) (a' := ?_) #[true, false, false, false, false, false, false, false, false, false] rfl rfl (any_of HT_.out (by kernel_rfl)) (fun _ _ _ h => h) (Or.inl ⟨by rfl, ?_⟩) ?_ ?_
            rotate_left
            · intro w'
              go_simp
              with_reducible rfl
            rotate_left
            · simp only [Act.put, List.setIfInBounds_toArray, List.set_cons_zero, List.set_cons_succ, i64_w, i32_w]
              rfl
            refine pure_ (i := 2) (N := some 11) (v := ?_) (a' := ?_) #[true, false, true, false, false, false, false, false, false, false] rfl rfl (any_of HT_.out (by kernel_rfl)) (fun _ _ _ h => h) (Or.inl ⟨by rfl, ?_⟩) ?_ ?_
            rotate_left
            · intro w'
              go_simp
              with_reducible rfl
            rotate_left
            · simp only [Act.put, List.setIfInBounds_toArray, List.set_cons_zero, List.set_cons_succ, i64_w, i32_w]
              rfl
            refine pure_ (i := 5) (N := some 14) (v := ?_) (a' := ?_) #[true, false, true, false, false, true, false, false, false, false] rfl rfl (any_of HT_.out (by kernel_rfl)) (fun _ _ _ h => h) (Or.inl ⟨by rfl, ?_⟩) ?_ ?_
            rotate_left
            · intro w'
              go_simp
              with_reducible rfl
            rotate_left
            · simp only [Act.put, List.setIfInBounds_toArray, List.set_cons_zero, List.set_cons_succ, i64_w, i32_w]
              rfl
            refine pure_ (i := 6) (N := some 15) (v := ?_) (a' := ?_) #[true, false, true, false, false, true, true, false, false, false] rfl rfl (any_of HT_.out (by kernel_rfl)) (fun _ _ _ h => h) (Or.inl ⟨by rfl, ?_⟩) ?_ ?_
            rotate_left
            · intro w'
              go_simp
              with_reducible rfl
            rotate_left
            · simp only [Act.put, List.setIfInBounds_toArray, List.set_cons_zero, List.set_cons_succ, i64_w, i32_w]
              rfl
            refine take_ (i := 1) (N := some 10) (v := ?_) (a' := ?_) #[true, true, true, false, false, true, true, false, false, false] rfl rfl (take_ofW HT_.out HW_.out (by kernel_rfl)) (fun _ _ _ h => h) (Or.inl ⟨by rfl, ?_⟩) hHeld ?_ ?_
            rotate_left
            · rintro w' ⟨s0, s1, s2⟩
              go_simp
              with_reducible rfl
            rotate_left
            · simp only [Act.put, List.setIfInBounds_toArray, List.set_cons_zero, List.set_cons_succ, i64_w, i32_w]
              rfl
            refine pure_ (i := 3) (N := some 12) (v := ?_) (a' := ?_) #[true, true, true, true, false, true, true, false, false, false] rfl rfl (any_of HT_.out (by kernel_rfl)) (fun _ _ _ h => h) (Or.inl ⟨by rfl, ?_⟩) ?_ ?_
            rotate_left
            · intro w'
              go_simp
              with_reducible rfl
            rotate_left
            · simp only [Act.put, List.setIfInBounds_toArray, List.set_cons_zero, List.set_cons_succ, i64_w, i32_w]
              rfl
            refine take_ (i := 4) (N := some 13) (v := ?_) (a' := ?_) #[true, true, true, true, true, true, true, false, false, false] rfl rfl (take_ofW HT_.out HW_.out (by kernel_rfl)) (fun _ _ _ h => h) (Or.inl ⟨by rfl, ?_⟩) hHeld ?_ ?_
            rotate_left
            · rintro w' ⟨s0, s1, s2⟩
              go_simp
              with_reducible rfl
            rotate_left
            · simp only [Act.put, List.setIfInBounds_toArray, List.set_cons_zero, List.set_cons_succ, i64_w, i32_w]
              rfl
            refine pure_ (i := 7) (N := some 16) (v := ?_) (a' := ?_) #[true, true, true, true, true, true, true, true, false, false] rfl rfl (any_of HT_.out (by kernel_rfl)) (fun _ _ _ h => h) (Or.inl ⟨by rfl, ?_⟩) ?_ ?_
            rotate_left
            · intro w'
              go_simp
              with_reducible rfl
            rotate_left
            · simp only [Act.put, List.setIfInBounds_toArray, List.set_cons_zero, List.set_cons_succ, i64_w, i32_w]
              rfl
            refine pure_ (i := 8) (N := some 17) (v := ?_) (a' := ?_) #[true, true, true, true, true, true, true, true, true, false] rfl rfl (any_of HT_.out (by kernel_rfl)) (fun _ _ _ h => h) (Or.inl ⟨by rfl, ?_⟩) ?_ ?_
            rotate_left
            · intro w'
              go_simp
              with_reducible rfl
            rotate_left
            · simp only [Act.put, List.setIfInBounds_toArray, List.set_cons_zero, List.set_cons_succ, i64_w, i32_w]
              rfl
            refine last_ (i := 9) (N := none) #[true, true, true, true, true, true, true, true, true, true] rfl rfl (one_of HT_.out (by kernel_rfl)) (by decide) (fun K hK => ?_)
            refine skip_ (w1 := ?_) (by rfl) rfl ?_ ?_
            rotate_left
            · go_simp
              rfl
            refine hK.out _ _ ?_
            clear hK K
            refine done_ (done_of HT_.out (by kernel_rfl)) ?_
            try go_wp2
            have n0_ : Aside0 (Kd.R (Kd.int .i64) 2 (w18.setCell ⟨go11, (a1 : Int).toNat, none⟩ (.int .i64 (Go.bits .or .i64 (rd l0_1 a1) (ji10)))) w0.heap.size (fun k_ => (P0_1_ k_ ∨ w.heap.size ≤ k_)) (.slice (some ⟨go11, 0, none⟩) l0_1.length co16) y176) := ⟨by (with_reducible repeat (first | apply Kd.R_alloc | apply Kd.R_drewN | apply Kd.R_drew)); exact HQ19.out⟩
            have n1_ : Aside0 ((w18.setCell ⟨go11, (a1 : Int).toNat, none⟩ (.int .i64 (Go.bits .or .i64 (rd l0_1 a1) (ji10)))).heap[gb174]? = some (.cells #[.int .i64 a0_0, .slice (some ⟨go11, 0, none⟩) l0_1.length co16] 34 (0, 0))) := ⟨by (with_reducible repeat (first | refine blk_drewN ?_ _ | refine blk_drew ?_ | refine blk_alloc ?_ _)); refine blk_far ?_ (by have h_ := Kd.R_ne HO0_1.out BK174.out (by decide); intro e_; exact h_ (by rw [e_]; rfl)) _; (with_reducible repeat (first | refine blk_drewN ?_ _ | refine blk_drew ?_ | refine blk_alloc ?_ _)); exact BK174.out⟩
            have n2_ : Aside0 (Kept w (w18.setCell ⟨go11, (a1 : Int).toNat, none⟩ (.int .i64 (Go.bits .or .i64 (rd l0_1 a1) (ji10)))) (fun k_ => P0_1_ k_)) := ⟨by repeat (first | (with_reducible first | exact HK.out | apply Kept.alloc | apply Kept.drewN | apply Kept.drew | refine Kept.setCell ?_ HMgo11.out _ | refine Kept.setCell ?_ (.inr GW174.out) _) | exact HK.out)⟩
            have n3_ : Aside0 (Below w0.heap.size w0 (w18.setCell ⟨go11, (a1 : Int).toNat, none⟩ (.int .i64 (Go.bits .or .i64 (rd l0_1 a1) (ji10))))) := ⟨by repeat (first | (with_reducible first | exact HB.out | apply below_alloc | apply pw_below_drewN | apply below_drew1 | refine below_set ?_ GB11.out | refine below_set ?_ GE174.out) | exact HB.out)⟩
            (try clear HO0_1)
            (try clear BK174)
            (try clear HK)
            (try clear HB)
            generalize (w18.setCell ⟨go11, (a1 : Int).toNat, none⟩ (.int .i64 (Go.bits .or .i64 (rd l0_1 a1) (ji10)))) = w20 at n0_ n1_ n2_ n3_ ⊢
            have HO0_1 := n0_
            have BK174 := n1_
            have HK := n2_
            have HB := n3_
            clear n0_ n1_ n2_ n3_
            have n0_ := Aside0.mk (Kd.R_drew HO0_1.out)
            have n1_ := Aside0.mk (blk_drew BK174.out)
            have n2_ := Aside0.mk (Kept.drew HK.out)
            have n3_ := Aside0.mk (below_drew1 HB.out)
            clear HO0_1
            clear BK174
            clear HK
            clear HB
            have HO0_1 := n0_
            have BK174 := n1_
            have HK := n2_
            have HB := n3_
            clear n0_ n1_ n2_ n3_
            have p177 : 0 ≤ (a2 : Int) := of_decide_eq_true (by first | (with_reducible assumption) | assumption)
            have q177 : a2 < (y176.length : Int) := (by have h_ : (a2 : Int) < ((l0_1.length : Int) : Int) := of_decide_eq_true (by first | (with_reducible assumption) | assumption); first | (have e_ := (Kd.R_reads' HO0_1.out).1; omega) | simpa only [Ny176.out, List.length_set] using h_)
            have ql177 : ((a2 : Int) < ((l0_1.length : Int) : Int)) = True := eq_true (of_decide_eq_true (by first | (with_reducible assumption) | assumption))
            obtain ⟨ad177, e177, hx177_0⟩ := Kd.at_int (Kd.R_reads' HO0_1.out).2.2 a2 p177 q177
            obtain rfl : (⟨go11, 0, none⟩ : Addr) = ad177 := (by injection e177)
            (first | simp only [add_plain] at hx177_0 | simp only [add_at] at hx177_0 | simp only [Addr.add, Nat.zero_add] at hx177_0 | skip)
            replace p177 := eq_true p177
            replace q177 := eq_true q177
            have p15 : 0 ≤ (a2 : Int) := of_decide_eq_true (by first | (with_reducible assumption) | assumption)
            have q15 : (a2 : Int) < ((l0_1.length : Int) : Int) := of_decide_eq_true (by first | (with_reducible assumption) | assumption)
            obtain ⟨hx15_0, hf15_0⟩ := Kd.R_celln 0 HO0_1.out (a2 : Int) p15 q15
            replace p15 := eq_true p15
            replace q15 := eq_true q15
            have HP22 := Kd.R_putn HO0_1.out (a2 : Int) (Go.bits .or .i64 (rd y176 a2) (ji14))
            rw [← Ny178.out] at HP22
            have HQ22 := Aside0.mk HP22
            clear HP22
            refine start_ (n := 10) (S := fun w' => w'.cell? ⟨gb174, 0, none⟩ = some (.int .i64 a0_0) ∧ w'.cell? ⟨gb174, 1, none⟩ = some (.slice (some ⟨go11, 0, none⟩) l0_1.length co16) ∧ w'.cell? ⟨go11, (a2).toNat, none⟩ = some (.int .i64 (rd y176 a2))) (ds := [9]) #[false, false, false, false, false, false, false, false, false, false] (by kernel_rfl) rfl rfl ⟨(blk_cell BK174.out 0).trans rfl, (blk_cell BK174.out 1).trans rfl, hx177_0⟩ (fun hHeld => ?_); refine with_tabW impl_Graph_put.tab3 impl_Graph_put.bits3 (fun HT_ HW_ => ?_)
            generalize w20.drew = w21 at HO0_1 BK174 HK HB HQ19 HQ22 hf15_0 hx15_0 hx177_0 hHeld ⊢
            refine pure_ (i := 0) (N := some 18) (v := ?_) (a' := ?_) #[true, false, false, false, false, false, false, false, false, false] rfl rfl (any_of HT_.out (by kernel_rfl)) (fun _ _ _ h => h) (Or.inl ⟨by rfl, ?_⟩) ?_ ?_
            rotate_left
            · intro w'
              go_simp
              with_reducible rfl
            rotate_left
            · simp only [Act.put, List.setIfInBounds_toArray, List.set_cons_zero, List.set_cons_succ, i64_w, i32_w]
              rfl
            refine pure_ (i := 2) (N := some 20) (v := ?_) (a' := ?_) #[true, false, true, false, false, false, false, false, false, false] rfl rfl (any_of HT_.out (by kernel_rfl)) (fun _ _ _ h => h) (Or.inl ⟨by rfl, ?_⟩) ?_ ?_
            rotate_left
            · intro w'
              go_simp
              with_reducible rfl
            rotate_left
            · simp only [Act.put, List.setIfInBounds_toArray, List.set_cons_zero, List.set_cons_succ, i64_w, i32_w]
              rfl
            refine pure_ (i := 5) (N := some 23) (v := ?_) (a' := ?_) #[true, false, true, false, false, true, false, false, false, false] rfl rfl (any_of HT_.out (by kernel_rfl)) (fun _ _ _ h => h) (Or.inl ⟨by rfl, ?_⟩) ?_ ?_
            rotate_left
            · intro w'
              go_simp
              with_reducible rfl
            rotate_left
            · simp only [Act.put, List.setIfInBounds_toArray, List.set_cons_zero, List.set_cons_succ, i64_w, i32_w]
              rfl
            refine pure_ (i := 6) (N := some 24) (v := ?_) (a' := ?_) #[true, false, true, false, false, true, true, false, false, false] rfl rfl (any_of HT_.out (by kernel_rfl)) (fun _ _ _ h => h) (Or.inl ⟨by rfl, ?_⟩) ?_ ?_
            rotate_left
            · intro w'
              go_simp
              with_reducible rfl
            rotate_left
            · simp only [Act.put, List.setIfInBounds_toArray, List.set_cons_zero, List.set_cons_succ, i64_w, i32_w]
              rfl
            refine take_ (i := 1) (N := some 19) (v := ?_) (a' := ?_) #[true, true, true, false, false, true, true, false, false, false] rfl rfl (take_ofW HT_.out HW_.out (by kernel_rfl)) (fun _ _ _ h => h) (Or.inl ⟨by rfl, ?_⟩) hHeld ?_ ?_
            rotate_left
            · rintro w' ⟨s0, s1, s2⟩
              go_simp
              with_reducible rfl
            rotate_left
            · simp only [Act.put, List.setIfInBounds_toArray, List.set_cons_zero, List.set_cons_succ, i64_w, i32_w]
              rfl
            refine pure_ (i := 3) (N := some 21) (v := ?_) (a' := ?_) #[true, true, true, true, false, true, true, false, false, false] rfl rfl (any_of HT_.out (by kernel_rfl)) (fun _ _ _ h => h) (Or.inl ⟨by rfl, ?_⟩) ?_ ?_
            rotate_left
            · intro w'
              go_simp
              with_reducible rfl
            rotate_left
            · simp only [Act.put, List.setIfInBounds_toArray, List.set_cons_zero, List.set_cons_succ, i64_w, i32_w]
              rfl
            refine take_ (i := 4) (N := some 22) (v := ?_) (a' := ?_) #[true, true, true, true, true, true, true, false, false, false] rfl rfl (take_ofW HT_.out HW_.out (by kernel_rfl)) (fun _ _ _ h => h) (Or.inl ⟨by rfl, ?_⟩) hHeld ?_ ?_
            rotate_left
            · rintro w' ⟨s0, s1, s2⟩
              go_simp
              with_reducible rfl
            rotate_left
            · simp only [Act.put, List.setIfInBounds_toArray, List.set_cons_zero, List.set_cons_succ, i64_w, i32_w]
              rfl
            refine pure_ (i := 7) (N := some 25) (v := ?_) (a' := ?_) #[true, true, true, true, true, true, true, true, false, false] rfl rfl (any_of HT_.out (by kernel_rfl)) (fun _ _ _ h => h) (Or.inl ⟨by rfl, ?_⟩) ?_ ?_
            rotate_left
            · intro w'
              go_simp
              with_reducible rfl
            rotate_left
            · simp only [Act.put, List.setIfInBounds_toArray, List.set_cons_zero, List.set_cons_succ, i64_w, i32_w]
              rfl
            refine pure_ (i := 8) (N := some 26) (v := ?_) (a' := ?_) #[true, true, true, true, true, true, true, true, true, false] rfl rfl (any_of HT_.out (by kernel_rfl)) (fun _ _ _ h => h) (Or.inl ⟨by rfl, ?_⟩) ?_ ?_
            rotate_left
            · intro w'
              go_simp
              with_reducible rfl
            rotate_left
            · simp only [Act.put, List.setIfInBounds_toArray, List.set_cons_zero, List.set_cons_succ, i64_w, i32_w]
              rfl
            refine last_ (i := 9) (N := none) #[true, true, true, true, true, true, true, true, true, true] rfl rfl (one_of HT_.out (by kernel_rfl)) (by decide) (fun K hK => ?_)
            refine skip_ (w1 := ?_) (by rfl) rfl ?_ ?_
            rotate_left
            · go_simp
              rfl
            refine hK.out _ _ ?_
            clear hK K
            refine done_ (done_of HT_.out (by kernel_rfl)) ?_
            try go_wp2
            first | go_end0 | ((try simp only [Exit.inBlock, Exit.then]); refine bodyPost_ret (results_none rfl _ _ _) rfl ?_)
            exact ⟨by first | rfl | (simp [errW_none, errW_some] <;> rfl) | (simp only [← hji10, ← hji14]; first | rfl | (simp [errW_none, errW_some] <;> rfl)) | (simp [*, errW_none, errW_some] <;> rfl), by (with_reducible repeat (first | apply Kd.R_alloc | apply Kd.R_drewN | apply Kd.R_drew)); exact HQ22.out, by repeat (first | (with_reducible first | exact HB.out | apply below_alloc | apply pw_below_drewN | apply below_drew1 | refine below_set ?_ GB11.out | refine below_set ?_ GE174.out) | exact HB.out), by repeat (first | (with_reducible first | exact HK.out | apply Kept.alloc | apply Kept.drewN | apply Kept.drew | refine Kept.setCell ?_ HMgo11.out _ | refine Kept.setCell ?_ (.inr GW174.out) _) | exact HK.out)⟩
          · rw [if_neg c12] at H
            exact absurd H (by simp)
        · rw [if_neg c9] at H
          exact absurd H (by simp)
      · rw [if_neg c8] at H
        exact absurd H (by simp)
    · rw [if_neg c7] at H
      exact absurd H (by simp)

end Go.Proofs.Ytockngphfpedkaa.XFnExactPlaneGraph
