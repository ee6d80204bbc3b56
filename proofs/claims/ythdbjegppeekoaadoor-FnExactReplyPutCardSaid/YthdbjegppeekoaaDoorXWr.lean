import Derived.Test.YthdbjegppeekoaaDoorWMore
import Derived.Test.YthdbjegppeekoaaDoorWTab
/- What a world keeps behind new blocks, draws and stores into the call's own blocks, found by the instances' search: the same words as the print's, told shorter. -/
namespace Go.Proofs.YthdbjegppeekoaaDoor.P
open Go.RowKit Go.Proofs.YthdbjegppeekoaaDoorW.PrintWords Go.Proofs.YthdbjegppeekoaaDoorW.PrintLast

/-- b came out of a by new blocks and draws. -/
class Wr (a b : World) : Prop where
  out : Below a.heap.size a b
instance Wr.refl (a : World) : Wr a a := ⟨Below.refl _ _⟩
instance Wr.alloc (a b : World) (o : Obj) [h : Wr a b] : Wr a (b.alloc o) := ⟨h.out.alloc h.out.size o⟩
instance Wr.drew (a b : World) [h : Wr a b] : Wr a b.drew := ⟨h.out.drew⟩
instance Wr.drewN (a b : World) (n : Nat) [h : Wr a b] : Wr a (b.drewN n) := ⟨⟨h.out.os, h.out.tape, h.out.output, h.out.size, h.out.block⟩⟩
theorem bl {w a b : World} (h : Aside0 (Below w.heap.size w a)) [k : Wr a b] : Below w.heap.size w b := h.out.trans (k.out.mono h.out.size)
theorem bk {a b : World} {g : Nat} {o : Obj} (h : Aside0 (a.heap[g]? = some o)) [k : Wr a b] : b.heap[g]? = some o := (k.out.block g (blk_lt h.out)).trans h.out
theorem kc {α : Type} {d : Kd α} {xs : List α} {w a b : World} {A : Option Addr} {n : Nat} (h : Aside0 (d.C w A n xs)) (hb : Aside0 (Below w.heap.size w a)) [k : Wr a b] : d.C b A n xs := Kd.C_below h.out (bl hb)
/-- .. and by stores into up to four blocks. -/
class Ws (g1 g2 g3 g4 : Nat) (a b : World) : Prop where
  out : ∀ w : World, Below w.heap.size w a → w.heap.size ≤ g1 → w.heap.size ≤ g2 → w.heap.size ≤ g3 → w.heap.size ≤ g4 → Below w.heap.size w b
instance Ws.refl (g1 g2 g3 g4 : Nat) (a : World) : Ws g1 g2 g3 g4 a a := ⟨fun _ h _ _ _ _ => h⟩
instance Ws.alloc (g1 g2 g3 g4 : Nat) (a b : World) (o : Obj) [h : Ws g1 g2 g3 g4 a b] : Ws g1 g2 g3 g4 a (b.alloc o) := ⟨fun w x h1 h2 h3 h4 => below_alloc (h.out w x h1 h2 h3 h4) o⟩
instance Ws.drew (g1 g2 g3 g4 : Nat) (a b : World) [h : Ws g1 g2 g3 g4 a b] : Ws g1 g2 g3 g4 a b.drew := ⟨fun w x h1 h2 h3 h4 => (h.out w x h1 h2 h3 h4).drew⟩
instance Ws.drewN (g1 g2 g3 g4 : Nat) (a b : World) (n : Nat) [h : Ws g1 g2 g3 g4 a b] : Ws g1 g2 g3 g4 a (b.drewN n) := ⟨fun w x h1 h2 h3 h4 => pw_below_drewN (h.out w x h1 h2 h3 h4) n⟩
instance Ws.s4 (g1 g2 g3 g4 : Nat) (a b : World) (i : Nat) (v : Value) [h : Ws g1 g2 g3 g4 a b] : Ws g1 g2 g3 g4 a (b.setCell ⟨g4, i, none⟩ v) := ⟨fun w x h1 h2 h3 h4 => below_set (h.out w x h1 h2 h3 h4) h4⟩
instance Ws.s3 (g1 g2 g3 g4 : Nat) (a b : World) (i : Nat) (v : Value) [h : Ws g1 g2 g3 g4 a b] : Ws g1 g2 g3 g4 a (b.setCell ⟨g3, i, none⟩ v) := ⟨fun w x h1 h2 h3 h4 => below_set (h.out w x h1 h2 h3 h4) h3⟩
instance Ws.s2 (g1 g2 g3 g4 : Nat) (a b : World) (i : Nat) (v : Value) [h : Ws g1 g2 g3 g4 a b] : Ws g1 g2 g3 g4 a (b.setCell ⟨g2, i, none⟩ v) := ⟨fun w x h1 h2 h3 h4 => below_set (h.out w x h1 h2 h3 h4) h2⟩
instance Ws.s1 (g1 g2 g3 g4 : Nat) (a b : World) (i : Nat) (v : Value) [h : Ws g1 g2 g3 g4 a b] : Ws g1 g2 g3 g4 a (b.setCell ⟨g1, i, none⟩ v) := ⟨fun w x h1 h2 h3 h4 => below_set (h.out w x h1 h2 h3 h4) h1⟩
theorem b1 {w a b : World} {g1 : Nat} (h : Aside0 (Below w.heap.size w a)) (h1 : Aside0 (w.heap.size ≤ g1)) [k : Ws g1 g1 g1 g1 a b] : Below w.heap.size w b := k.out w h.out h1.out h1.out h1.out h1.out
theorem b2 {w a b : World} {g1 g2 : Nat} (h : Aside0 (Below w.heap.size w a)) (h1 : Aside0 (w.heap.size ≤ g1)) (h2 : Aside0 (w.heap.size ≤ g2)) [k : Ws g1 g1 g1 g2 a b] : Below w.heap.size w b := k.out w h.out h1.out h1.out h1.out h2.out
theorem b3 {w a b : World} {g1 g2 g3 : Nat} (h : Aside0 (Below w.heap.size w a)) (h1 : Aside0 (w.heap.size ≤ g1)) (h2 : Aside0 (w.heap.size ≤ g2)) (h3 : Aside0 (w.heap.size ≤ g3)) [k : Ws g1 g1 g2 g3 a b] : Below w.heap.size w b := k.out w h.out h1.out h1.out h2.out h3.out
theorem b4 {w a b : World} {g1 g2 g3 g4 : Nat} (h : Aside0 (Below w.heap.size w a)) (h1 : Aside0 (w.heap.size ≤ g1)) (h2 : Aside0 (w.heap.size ≤ g2)) (h3 : Aside0 (w.heap.size ≤ g3)) (h4 : Aside0 (w.heap.size ≤ g4)) [k : Ws g1 g2 g3 g4 a b] : Below w.heap.size w b := k.out w h.out h1.out h2.out h3.out h4.out

/-- Behind new blocks and draws, to where they began. -/
class Wp (a : outParam World) (b : World) : Prop where
  out : Below a.heap.size a b
instance (priority := low) Wp.refl (a : World) : Wp a a := ⟨Below.refl _ _⟩
instance Wp.alloc (a b : World) (o : Obj) [h : Wp a b] : Wp a (b.alloc o) := ⟨h.out.alloc h.out.size o⟩
instance Wp.drew (a b : World) [h : Wp a b] : Wp a b.drew := ⟨h.out.drew⟩
instance Wp.drewN (a b : World) (n : Nat) [h : Wp a b] : Wp a (b.drewN n) := ⟨⟨h.out.os, h.out.tape, h.out.output, h.out.size, h.out.block⟩⟩
theorem bp {a b : World} {g : Nat} {o : Obj} [k : Wp a b] (h : a.heap[g]? = some o) : b.heap[g]? = some o := (k.out.block g (blk_lt h)).trans h
section
variable {P : Program} {ops : Array Oper} {Q : Exit → Act → World → Prop} {md : Region.Mode} {S : World → Prop} {ds : List Nat}
/-- An operation that yields in every world. -/
theorem pa {T : Bool × List (List Nat × List Nat)} (hT : Aside0 (rtab md ops = T)) (i N : Nat) {oi : Oper} {v : Value} {fuel : Nat} {l : Array Bool} {a a' : Act} {w : World} (l' : Array Bool)
    (h : wpAnyLast P md ops Q S ds fuel l' a' w)
    (hi : ops[i]? = some oi := by rfl) (hN : oi.dst = some N := by rfl) (hc : anyT T l.toList l'.toList i = true := by kernel_rfl)
    (hQ : ∀ c a w, Q (.panic c) (a.put oi.dst v) w → Q (.panic c) a w := by exact fun _ _ _ h => h)
    (hw : Region.wanted oi (yielded ops a.tmps) = true := by rfl) (hy : ∀ w, (execOp a.eval oi).run P w = .ok (.value v) w := by intro w'; go_simp; with_reducible rfl)
    (ha : a.put (some N) v = a' := by simp only [Act.put, List.setIfInBounds_toArray, List.set_cons_zero, List.set_cons_succ, i64_w, i32_w]; rfl) :
    wpAnyLast P md ops Q S ds (fuel + 1) l a w := pure_ l' hi hN (any_of hT.out hc) hQ (Or.inl ⟨hw, hy⟩) ha h
/-- .. that is not wanted. -/
theorem pb {T : Bool × List (List Nat × List Nat)} (hT : Aside0 (rtab md ops = T)) (i N : Nat) {oi : Oper} {fuel : Nat} {l : Array Bool} {a a' : Act} {w : World} (l' : Array Bool)
    (h : wpAnyLast P md ops Q S ds fuel l' a' w)
    (hi : ops[i]? = some oi := by rfl) (hN : oi.dst = some N := by rfl) (hc : anyT T l.toList l'.toList i = true := by kernel_rfl)
    (hQ : ∀ c a w, Q (.panic c) (a.put oi.dst undef) w → Q (.panic c) a w := by exact fun _ _ _ h => h)
    (hw : Region.wanted oi (yielded ops a.tmps) = false := by rfl)
    (ha : a.put (some N) undef = a' := by simp only [Act.put, List.setIfInBounds_toArray, List.set_cons_zero, List.set_cons_succ, i64_w, i32_w]; rfl) :
    wpAnyLast P md ops Q S ds (fuel + 1) l a w := pure_ l' hi hN (any_of hT.out hc) hQ (Or.inr ⟨hw, rfl⟩) ha h
end

section
variable {α : Type} {d : Kd α} {e base : Nat} {ok : Nat → Prop} {v : Value} {xs : List α} {a b : World}
theorem rz (h : Aside0 (d.R e a base ok v xs)) [k : Wr a b] : d.R e b base ok v xs := Kd.R_below h.out k.out
theorem nz (h : Aside0 (Kd.N d e a base ok v xs)) [k : Wr a b] : Kd.N d e b base ok v xs := Kd.N_below h.out k.out
end
class Wv (a b : World) : Prop where
  out : ∀ {α : Type} (d : Kd α) (e base : Nat) (ok : Nat → Prop) (v : Value) (xs : List α), Kd.V d e a base ok v xs → Kd.V d e b base ok v xs
instance Wv.refl (a : World) : Wv a a := ⟨fun _ _ _ _ _ _ h => h⟩
instance Wv.alloc (a b : World) (o : Obj) [k : Wv a b] : Wv a (b.alloc o) := ⟨fun d e base ok v xs h => Kd.V_alloc (k.out d e base ok v xs h) o⟩
instance Wv.drew (a b : World) [k : Wv a b] : Wv a b.drew := ⟨fun d e base ok v xs h => Kd.V_drew (k.out d e base ok v xs h)⟩
instance Wv.drewN (a b : World) (n : Nat) [k : Wv a b] : Wv a (b.drewN n) := ⟨fun d e base ok v xs h => Kd.V_drewN (k.out d e base ok v xs h) n⟩
theorem vz {α : Type} {d : Kd α} {e base : Nat} {ok : Nat → Prop} {v : Value} {xs : List α} {a b : World} (h : Aside0 (Kd.V d e a base ok v xs)) [k : Wv a b] : Kd.V d e b base ok v xs := k.out d e base ok v xs h.out
class Wk (g : Nat) (a b : World) : Prop where
  out : ∀ w : World, KeepBut w a g none → KeepBut w b g none
instance Wk.refl (g : Nat) (a : World) : Wk g a a := ⟨fun _ h => h⟩
instance Wk.set_ (g : Nat) (a b : World) (i : Nat) (v : Value) [k : Wk g a b] : Wk g a (b.setCell ⟨g, i, none⟩ v) := ⟨fun w h => KeepBut.set_ (k.out w h) i v⟩
instance Wk.alloc (g : Nat) (a b : World) (o : Obj) [k : Wk g a b] : Wk g a (b.alloc o) := ⟨fun w h => keep_alloc (k.out w h) o⟩
instance Wk.drew (g : Nat) (a b : World) [k : Wk g a b] : Wk g a b.drew := ⟨fun w h => keep_drew (k.out w h)⟩
instance Wk.drewN (g : Nat) (a b : World) (n : Nat) [k : Wk g a b] : Wk g a (b.drewN n) := ⟨fun w h => keep_drewN (k.out w h) n⟩
theorem kz {w a b : World} {g : Nat} (h : Aside0 (KeepBut w a g none)) [k : Wk g a b] : KeepBut w b g none := k.out w h.out
theorem bc {w : World} {g : Nat} {t : TypeId} {cs : Array Value} {v : Value} (h : Aside0 (w.heap[g]? = some (.cells cs t (0, 0)))) (i : Nat) (hv : cs[i]? = some v := by rfl) : w.cell? ⟨g, i, none⟩ = some v := (blk_cell h.out i).trans hv
theorem hcl {w W : World} {p : Addr} {v : Value} (hb : Aside0 (Below w.heap.size w W)) (h : w.cell? p = some v) : W.cell? p = some v := (hb.out.cell (World.block_lt_of_cell? w _ h)).trans h
theorem hcm {w a W : World} {p : Addr} {v : Value} (hb : Aside0 (Below w.heap.size w a)) (h : w.cell? p = some v) [k : Wr a W] : W.cell? p = some v := ((bl hb : Below w.heap.size w W).cell (World.block_lt_of_cell? w _ h)).trans h
theorem fz {p q : Prop} (hq : q) (hp : p := by first | rfl | (simp [errW_none, errW_some] <;> rfl) | (simp [*, errW_none, errW_some] <;> rfl)) : p ∧ q := ⟨hp, hq⟩
section
variable {P : Program} {ops : Array Oper} {rest : List Oper} {oi : Oper} {a : Act} {Q : Exit → Act → World → Prop} {w : World} {K : Act → World → Prop}
theorem gl (N : Option Tmp) {f : FuncId} {fn : Func} {ags : Array Operand} {ts : Array TypeId} (hf : P.funcs[f]? = some fn) (args : Array Value)
    (h : Calls P f args w fun e w' => ∃ v, e = .returned v ∧ wpList P ops Q rest (a.put N v) w')
    (hd : oi.dst = N := by rfl) (hg : oi.guard = none := by rfl) (hname : (fn.name == "runtime.NumGoroutine") = false := by kernel_rfl) (hb : fn.body.isSome = true := by rfl)
    (hop : oi.op = .call { callee := .value (.func f), args := ags, argTypes := ts } := by rfl)
    (hargs : ags.map a.eval = args := by (try simp only [List.map_toArray, List.map_cons, List.map_nil]); first | done | rfl | (simp only [List.length_drop, List.length_take]; rfl)) : wpList P ops Q (oi :: rest) a w :=
  goesL_ N hd hg hf hname hb args hop hargs h
theorem gs {N : Option Tmp} {f : FuncId} {fn : Func} {ags : Array Operand} {ts : Array TypeId} (hf : P.funcs[f]? = some fn) (args : Array Value)
    (h : Calls P f args w fun e w' => ∃ v, e = .returned v ∧ K (a.put N v) w')
    (hname : (fn.name == "runtime.NumGoroutine") = false := by kernel_rfl) (hb : fn.body.isSome = true := by rfl) (hw : Region.wanted oi (yielded ops a.tmps) = true := by rfl) (hN : oi.dst = N := by rfl)
    (hop : oi.op = .call { callee := .value (.func f), args := ags, argTypes := ts } := by rfl)
    (hargs : ags.map a.eval = args := by (try simp only [List.map_toArray, List.map_cons, List.map_nil]); first | done | rfl | (simp only [List.length_drop, List.length_take]; rfl)) :
    if Region.wanted oi (yielded ops a.tmps) = true then Oper.wp P oi a w K Q else K (a.put N undef) w := goes_ hf hname hb args hw hN hop hargs h
theorem bx (N : Tmp) (cs : Array Value) (t : TypeId)
    (h : ∀ g, g = w.heap.size → ∀ w1, w1.heap[g]? = some (.cells cs t (0, 0)) → Below w.heap.size w w1 → wpList P ops Q rest (a.put oi.dst (.pointer (some ⟨g, 0, none⟩))) w1)
    (hd : oi.dst = some N := by rfl) (hgd : oi.guard = none := by rfl)
    (hrun : (execOp a.eval oi).run P w = .ok (.value (.pointer (some ⟨w.heap.size, 0, none⟩))) (w.alloc (.cells cs t (0, 0))) := by first | (go_simp; done) | (go_simp; rfl)) : wpList P ops Q (oi :: rest) a w :=
  box_event hgd hd hrun h
end

end Go.Proofs.YthdbjegppeekoaaDoor.P
