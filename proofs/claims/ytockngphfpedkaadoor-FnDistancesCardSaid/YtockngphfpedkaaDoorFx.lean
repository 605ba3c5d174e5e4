/- Facts as a class: what holds at a world is found by itself at what that world has grown to. For this seat's proofs. -/
import Derived.Test.YtockngphfpedkaaDoorWMore
import Derived.Test.YtockngphfpedkaaDoorWKept
import Derived.Test.YtockngphfpedkaaDoorWApart
namespace Go.Proofs.YtockngphfpedkaaDoorW.PrintMore
open Go.RowKit Go.Proofs.YtockngphfpedkaaDoorW.PrintWords Go.Proofs.YtockngphfpedkaaDoorW.PrintLast
set_option linter.unusedVariables false
/-- A fact, kept by. -/
class Fa (p : Prop) : Prop where mk :: (out : p)
theorem oo {p : Prop} [h : Fa p] : p := h.out
/-- What a premise leaves open: named ahead of it. -/
class Dm (p : semiOutParam Prop) : Prop
instance : Dm True := ⟨⟩
abbrev kn {α : Type} (_ : α) : Prop := True
section
variable {b g j m : Nat} {w W : World} {o : Obj} {v x y z : Value} {t : TypeId}
instance [h : Fa (Below w.heap.size w W)] : Fa (Below w.heap.size w (W.alloc o)) := ⟨below_alloc h.out o⟩
instance [h : Fa (Below b w W)] : Fa (Below b w (W.drewN m)) := ⟨pw_below_drewN h.out m⟩
instance [h : Fa (Below b w W)] : Fa (Below b w W.drew) := ⟨below_drew1 h.out⟩
instance [h : Fa (Below w.heap.size w W)] [k : Fa (w.heap.size ≤ g)] : Fa (Below w.heap.size w (W.setCell ⟨g, j, none⟩ v)) := ⟨below_set h.out k.out⟩
instance {o' : Obj} [h : Fa (W.heap[g]? = some o)] : Fa ((W.alloc o').heap[g]? = some o) := ⟨blk_alloc h.out o'⟩
instance [h : Fa (W.heap[g]? = some o)] : Fa ((W.drewN m).heap[g]? = some o) := ⟨blk_drewN h.out m⟩
instance [h : Fa (W.heap[g]? = some o)] : Fa (W.drew.heap[g]? = some o) := ⟨blk_drew h.out⟩
instance [Dm (kn x)] [h : Fa (W.heap[g]? = some (.cells #[x, y] t (0, 0)))] : Fa ((W.setCell ⟨g, 0, none⟩ v).heap[g]? = some (.cells #[v, y] t (0, 0))) := ⟨blk_put h.out 0 v rfl⟩
instance [Dm (kn y)] [h : Fa (W.heap[g]? = some (.cells #[x, y] t (0, 0)))] : Fa ((W.setCell ⟨g, 1, none⟩ v).heap[g]? = some (.cells #[x, v] t (0, 0))) := ⟨blk_put h.out 1 v rfl⟩
instance [Dm (kn x)] [h : Fa (W.heap[g]? = some (.cells #[x, y, z] t (0, 0)))] : Fa ((W.setCell ⟨g, 0, none⟩ v).heap[g]? = some (.cells #[v, y, z] t (0, 0))) := ⟨blk_put h.out 0 v rfl⟩
instance [Dm (kn y)] [h : Fa (W.heap[g]? = some (.cells #[x, y, z] t (0, 0)))] : Fa ((W.setCell ⟨g, 1, none⟩ v).heap[g]? = some (.cells #[x, v, z] t (0, 0))) := ⟨blk_put h.out 1 v rfl⟩
instance [Dm (kn z)] [h : Fa (W.heap[g]? = some (.cells #[x, y, z] t (0, 0)))] : Fa ((W.setCell ⟨g, 2, none⟩ v).heap[g]? = some (.cells #[x, y, v] t (0, 0))) := ⟨blk_put h.out 2 v rfl⟩
instance [h : Fa (KeepBut w W g none)] : Fa (KeepBut w (W.alloc o) g none) := ⟨keep_alloc h.out o⟩
instance {r : Option Nat} [h : Fa (KeepBut w W g r)] : Fa (KeepBut w (W.drewN m) g r) := ⟨keep_drewN h.out m⟩
instance {r : Option Nat} [h : Fa (KeepBut w W g r)] : Fa (KeepBut w W.drew g r) := ⟨keep_drew h.out⟩
instance {r : Option Nat} [h : Fa (KeepBut w W g r)] : Fa (KeepBut w (W.setCell ⟨g, j, none⟩ v) g r) := ⟨KeepBut.set_ h.out j v⟩
instance {r : Option Nat} {p : Addr} [h : Fa (KeepBut w W g r)] [k : Fa (w.heap.size ≤ p.block)] : Fa (KeepBut w (W.setCell p v) g r) := ⟨keep_far h.out k.out v⟩
end
section
variable {α : Type} {d : Kd α} {e b n c m : Nat} {w : World} {ok : Nat → Prop} {v : Value} {xs : List α} {A : Option Addr} {o : Obj}
instance [h : Fa (d.R e w b ok v xs)] : Fa (d.R e (w.alloc o) b ok v xs) := ⟨Kd.R_alloc h.out o⟩
instance [h : Fa (d.R e w b ok v xs)] : Fa (d.R e (w.drewN m) b ok v xs) := ⟨Kd.R_drewN h.out m⟩
instance [h : Fa (d.R e w b ok v xs)] : Fa (d.R e w.drew b ok v xs) := ⟨Kd.R_drew h.out⟩
instance [h : Fa (d.C w A n xs)] : Fa (d.C (w.alloc o) A n xs) := ⟨Kd.C_alloc h.out o⟩
instance [h : Fa (d.C w A n xs)] : Fa (d.C (w.drewN m) A n xs) := ⟨Kd.C_drewN h.out m⟩
instance [h : Fa (d.C w A n xs)] : Fa (d.C w.drew A n xs) := ⟨Kd.C_drew h.out⟩
instance [Dm (kn (e, b, n, c, ok))] [h : Fa (d.R e w b ok (.slice A n c) xs)] : Fa (d.C w A xs.length xs) := ⟨(Kd.R_reads' h.out).2.2⟩
end
/-- The cells of a block of two, of three. -/
theorem cz2 {w : World} {g : Nat} {t : TypeId} {x y : Value} (h : w.heap[g]? = some (.cells #[x, y] t (0, 0))) : w.cell? ⟨g, 0, none⟩ = some x ∧ w.cell? ⟨g, 1, none⟩ = some y ∧ w.frozen? ⟨g, 0, none⟩ = false ∧ w.frozen? ⟨g, 1, none⟩ = false :=
  ⟨(blk_cell h 0).trans rfl, (blk_cell h 1).trans rfl, blk_frozen h 0, blk_frozen h 1⟩
theorem cz3 {w : World} {g : Nat} {t : TypeId} {x y z : Value} (h : w.heap[g]? = some (.cells #[x, y, z] t (0, 0))) : w.cell? ⟨g, 0, none⟩ = some x ∧ w.cell? ⟨g, 1, none⟩ = some y ∧ w.cell? ⟨g, 2, none⟩ = some z ∧ w.frozen? ⟨g, 0, none⟩ = false ∧ w.frozen? ⟨g, 1, none⟩ = false ∧ w.frozen? ⟨g, 2, none⟩ = false :=
  ⟨(blk_cell h 0).trans rfl, (blk_cell h 1).trans rfl, (blk_cell h 2).trans rfl, blk_frozen h 0, blk_frozen h 1, blk_frozen h 2⟩
theorem mA {α β : Type} {l : List α} {f : α → β} : l.toArray.map f = (l.map f).toArray := by simp
theorem mC {α β : Type} {a : α} {l : List α} {f : α → β} : (a :: l).map f = f a :: l.map f := rfl
theorem mN {α β : Type} {f : α → β} : ([] : List α).map f = [] := rfl
theorem sA {α : Type} {l : List α} {i : Nat} {a : α} : l.toArray.setIfInBounds i a = (l.set i a).toArray := by simp
theorem sZ {α : Type} {l : List α} {a b : α} : (a :: l).set 0 b = b :: l := rfl
theorem sC {α : Type} {l : List α} {n : Nat} {a b : α} : (a :: l).set (n + 1) b = a :: l.set n b := rfl
abbrev tt : Bool := true
abbrev ff : Bool := false
section
variable {P : Program} {ops : Array Oper} {Q : Exit → Act → World → Prop} {md : Region.Mode} {S : World → Prop} {ds : List Nat}
/-- 'pure_' and 'take_', in short. -/
theorem pu {oi : Oper} {fuel : Nat} {l : Array Bool} {a : Act} {w : World} (i N : Nat) (v : Value) (l' : Array Bool) (hi : ops[i]? = some oi) (hN : oi.dst = some N) (hc : anyB md ops l l' i = true) (hy : Yields P ops oi v a) (a' : Act) (ha : a.put (some N) v = a')
    (h : wpAnyLast P md ops Q S ds fuel l' a' w) (hQ : ∀ c a w, Q (.panic c) (a.put oi.dst v) w → Q (.panic c) a w := by intros; assumption) : wpAnyLast P md ops Q S ds (fuel + 1) l a w :=
  pure_ l' hi hN hc hQ hy ha h
theorem tk {oi : Oper} {fuel : Nat} {l : Array Bool} {a : Act} {w : World} (i N : Nat) (v : Value) (l' : Array Bool) (hi : ops[i]? = some oi) (hN : oi.dst = some N) (hc : takeB md ops ds l l' i = true) (hy : YieldsIf P ops S oi v a) (hS : S w) (a' : Act) (ha : a.put (some N) v = a')
    (h : wpAnyLast P md ops Q S ds fuel l' a' w) (hQ : ∀ c a w, Q (.panic c) (a.put oi.dst v) w → Q (.panic c) a w := by intros; assumption) : wpAnyLast P md ops Q S ds (fuel + 1) l a w :=
  take_ l' hi hN hc hQ hy hS ha h
theorem gL {rest : List Oper} {oi : Oper} {a : Act} {w : World} (N : Nat) {f : FuncId} {fn : Func} {as : Array Operand} {ts : Array TypeId} (hf : P.funcs[f]? = some fn) (args : Array Value) (hop : oi.op = .call { callee := .value (.func f), args := as, argTypes := ts }) (hargs : as.map a.eval = args)
    (h : Calls P f args w fun e w' => ∃ v, e = .returned v ∧ wpList P ops Q rest (a.put (some N) v) w') (hd : oi.dst = some N := by rfl) (hg : oi.guard = none := by rfl) (hname : (fn.name == "runtime.NumGoroutine") = false := by kernel_rfl) (hb : fn.body.isSome = true := by rfl) : wpList P ops Q (oi :: rest) a w := goesL_ (some N) hd hg hf hname hb args hop hargs h
end
theorem gc {P : Program} {ops : Array Oper} {Q : Exit → Act → World → Prop} {rest : List Oper} {o : Oper} {a : Act} {W : World} (f : FuncId) {as : Array Operand} {ts : Array TypeId} (ho : o.op = .call { callee := .value (.func f), args := as, argTypes := ts }) (h : wpList P ops Q (o :: rest) a W) : wpList P ops Q (o :: rest) a W := h
theorem gd {P : Program} {ops : Array Oper} {Q : Exit → Act → World → Prop} {rest : List Oper} {o : Oper} {a : Act} {W : World} (N : Tmp) (ho : o.dst = some N) (h : wpList P ops Q (o :: rest) a W) : wpList P ops Q (o :: rest) a W := h
/-- A value that has a name, in its place. -/
theorem bs_ {α β : Type} {y x : α} {f : α → Option β} {r : Option β} (hy : y = x) (h : (some x).bind f = r) : f y = r := by subst hy; exact h
/-- A fact, at the world that is asked for. -/
theorem rU {α : Type} {d : Kd α} {e b : Nat} {w W : World} {ok : Nat → Prop} {v : Value} {xs : List α} (h : Fa (d.R e w b ok v xs)) [k : Fa (d.R e W b ok v xs)] : d.R e W b ok v xs := k.out
theorem rC {α : Type} {d : Kd α} {e b n c : Nat} {A : Option Addr} {w W : World} {ok : Nat → Prop} {xs : List α} (h : Fa (d.R e w b ok (.slice A n c) xs)) [k : Fa (d.R e W b ok (.slice A n c) xs)] : d.C W A xs.length xs := (Kd.R_reads' k.out).2.2
theorem cU {α : Type} {d : Kd α} {n : Nat} {A : Option Addr} {w W : World} {xs : List α} (h : Fa (d.C w A n xs)) [k : Fa (d.C W A n xs)] : d.C W A n xs := k.out
theorem bU {w W : World} {g : Nat} {o : Obj} (h : Fa (w.heap[g]? = some o)) [k : Fa (W.heap[g]? = some o)] : W.heap[g]? = some o := k.out
theorem BU {b : Nat} {w w1 W : World} (h : Fa (Below b w w1)) [k : Fa (Below b w W)] : Below b w W := k.out
theorem kU {g : Nat} {w w1 W : World} {r : Option Nat} (h : Fa (KeepBut w w1 g r)) [k : Fa (KeepBut w W g r)] : KeepBut w W g r := k.out
theorem bsz {w W : World} {g : Nat} (hg : g = W.heap.size) (h : Below w.heap.size w W) : w.heap.size ≤ g := hg ▸ below_size h
end Go.Proofs.YtockngphfpedkaaDoorW.PrintMore
