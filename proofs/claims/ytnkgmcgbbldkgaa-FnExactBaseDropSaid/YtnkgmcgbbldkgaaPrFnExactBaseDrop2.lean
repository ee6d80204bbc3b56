import Derived.Test.YtnkgmcgbbldkgaaPrFnExactBaseDrop1
import Derived.Lib.SliceRun
import Derived.Deep.RegionLaw
import Derived.Laws.IdiomCopy
import Derived.Test.YtnkgmcgbbldkgaaProg
import Derived.Below
import Derived.Deep.Draws
import Derived.Deep.AppendLies
import Derived.Maps.AppendAt
import Derived.OwnWalk
import Derived.Laws.BytesArg
import Derived.Laws.MakeOwn
import Derived.Laws.OwnMore
import Derived.Deep.OwnRows
import Derived.Tactics
import Derived.Lib.ConvBytes
import Derived.Laws.Slices
import Derived.WalkKit
import Derived.KernelRfl
import Derived.RowKit3
import Derived.Deep.LoopGhost
import Derived.Deep.QuietTactic
import Derived.BigQuiet
import Derived.WideLaws
import Derived.Deep.DeepCutAuto
import Derived.Deep.CutBlock
import Derived.Deep.RegionHeld3
import Derived.Laws.Rows
import Derived.Lib.AppendStr
import Derived.ArgAppend
import Derived.OrdersHeld
import Derived.Laws.BitsLemmas
import Derived.RowKit
import Derived.WalkLawsBesides
/- Texts of this claim, one behind the other: words on worlds and rows, printed functions and their walks, plain lemmas. -/
namespace Go.Proofs.Ytnkgmcgbbldkgaa.P
open Go.RowKit Go.Proofs.YtnkgmcgbbldkgaaW.PrintWords Go.Proofs.YtnkgmcgbbldkgaaW.PrintLast
class Wr (a b : World) : Prop where
  out : Below a.heap.size a b
instance Wr.refl (a : World) : Wr a a := ⟨Below.refl _ _⟩
instance Wr.alloc (a b : World) (o : Obj) [h : Wr a b] : Wr a (b.alloc o) := ⟨h.out.alloc h.out.size o⟩
instance Wr.drew (a b : World) [h : Wr a b] : Wr a b.drew := ⟨h.out.drew⟩
instance Wr.drewN (a b : World) (n : Nat) [h : Wr a b] : Wr a (b.drewN n) := ⟨⟨h.out.os, h.out.tape, h.out.output, h.out.size, h.out.block⟩⟩
theorem bl {w a b : World} (h : Aside0 (Below w.heap.size w a)) [k : Wr a b] : Below w.heap.size w b := h.out.trans (k.out.mono h.out.size)
theorem bk {a b : World} {g : Nat} {o : Obj} (h : Aside0 (a.heap[g]? = some o)) [k : Wr a b] : b.heap[g]? = some o := (k.out.block g (blk_lt h.out)).trans h.out
theorem kc {α : Type} {d : Kd α} {xs : List α} {w a b : World} {A : Option Addr} {n : Nat} (h : Aside0 (d.C w A n xs)) (hb : Aside0 (Below w.heap.size w a)) [k : Wr a b] : d.C b A n xs := Kd.C_below h.out (bl hb)
class Ws (g1 g2 g3 g4 : Nat) (a b : World) : Prop where
  out : ∀ w : World, Below w.heap.size w a → w.heap.size ≤ g1 → w.heap.size ≤ g2 → w.heap.size ≤ g3 → w.heap.size ≤ g4 → Below w.heap.size w b
instance Ws.refl (g1 g2 g3 g4 : Nat) (a : World) : Ws g1 g2 g3 g4 a a := ⟨fun _ h _ _ _ _ => h⟩
instance Ws.alloc (g1 g2 g3 g4 : Nat) (a b : World) (o : Obj) [h : Ws g1 g2 g3 g4 a b] : Ws g1 g2 g3 g4 a (b.alloc o) := ⟨fun w x h1 h2 h3 h4 => below_alloc (h.out w x h1 h2 h3 h4) o⟩
instance Ws.drew (g1 g2 g3 g4 : Nat) (a b : World) [h : Ws g1 g2 g3 g4 a b] : Ws g1 g2 g3 g4 a b.drew := ⟨fun w x h1 h2 h3 h4 => (h.out w x h1 h2 h3 h4).drew⟩
instance Ws.drewN (g1 g2 g3 g4 : Nat) (a b : World) (n : Nat) [h : Ws g1 g2 g3 g4 a b] : Ws g1 g2 g3 g4 a (b.drewN n) := ⟨fun w x h1 h2 h3 h4 => pw_below_drewN (h.out w x h1 h2 h3 h4) n⟩
instance Ws.s4 (g1 g2 g3 g4 : Nat) (a b : World) (i : Nat) (v : Value) [h : Ws g1 g2 g3 g4 a b] : Ws g1 g2 g3 g4 a (b.setCell ⟨g4, i, none⟩ v) := ⟨fun w x h1 h2 h3 h4 => below_set (h.out w x h1 h2 h3 h4) h4⟩
instance Ws.s3 (g1 g2 g3 g4 : Nat) (a b : World) (i : Nat) (v : Value) [h : Ws g1 g2 g3 g4 a b] : Ws g1 g2 g3 g4 a (b.setCell ⟨g3, i, none⟩ v) := ⟨fun w x h1 h2 h3 h4 => below_set (h.out w x h1 h2 h3 h4) h3⟩
instance Ws.s2 (g1 g2 g3 g4 : Nat) (a b : World) (i : Nat) (v : Value) [h : Ws g1 g2 g3 g4 a b] : Ws g1 g2 g3 g4 a (b.setCell ⟨g2, i, none⟩ v) := ⟨fun w x h1 h2 h3 h4 => below_set (h.out w x h1 h2 h3 h4) h2⟩
instance Ws.s1 (g1 g2 g3 g4 : Nat) (a b : World) (i : Nat) (v : Value) [h : Ws g1 g2 g3 g4 a b] : Ws g1 g2 g3 g4 a (b.setCell ⟨g1, i, none⟩ v) := ⟨fun w x h1 h2 h3 h4 => below_set (h.out w x h1 h2 h3 h4) h1⟩
theorem b1 {w a b : World} {g1 : Nat} (h : Aside0 (Below w.heap.size w a)) (h1 : Aside0 (w.heap.size ≤ g1)) [k : Ws g1 g1 g1 g1 a b] : Below w.heap.size w b := k.out w h.out h1.out h1.out h1.out h1.out
theorem b2 {w a b : World} {g1 g2 : Nat} (h : Aside0 (Below w.heap.size w a)) (h1 : Aside0 (w.heap.size ≤ g1)) (h2 : Aside0 (w.heap.size ≤ g2)) [k : Ws g1 g1 g1 g2 a b] : Below w.heap.size w b := k.out w h.out h1.out h1.out h1.out h2.out
theorem b3 {w a b : World} {g1 g2 g3 : Nat} (h : Aside0 (Below w.heap.size w a)) (h1 : Aside0 (w.heap.size ≤ g1)) (h2 : Aside0 (w.heap.size ≤ g2)) (h3 : Aside0 (w.heap.size ≤ g3)) [k : Ws g1 g1 g2 g3 a b] : Below w.heap.size w b := k.out w h.out h1.out h1.out h2.out h3.out
theorem b4 {w a b : World} {g1 g2 g3 g4 : Nat} (h : Aside0 (Below w.heap.size w a)) (h1 : Aside0 (w.heap.size ≤ g1)) (h2 : Aside0 (w.heap.size ≤ g2)) (h3 : Aside0 (w.heap.size ≤ g3)) (h4 : Aside0 (w.heap.size ≤ g4)) [k : Ws g1 g2 g3 g4 a b] : Below w.heap.size w b := k.out w h.out h1.out h2.out h3.out h4.out
class Wp (a : outParam World) (b : World) : Prop where
  out : Below a.heap.size a b
instance (priority := low) Wp.refl (a : World) : Wp a a := ⟨Below.refl _ _⟩
instance Wp.alloc (a b : World) (o : Obj) [h : Wp a b] : Wp a (b.alloc o) := ⟨h.out.alloc h.out.size o⟩
instance Wp.drew (a b : World) [h : Wp a b] : Wp a b.drew := ⟨h.out.drew⟩
instance Wp.drewN (a b : World) (n : Nat) [h : Wp a b] : Wp a (b.drewN n) := ⟨⟨h.out.os, h.out.tape, h.out.output, h.out.size, h.out.block⟩⟩
theorem bp {a b : World} {g : Nat} {o : Obj} [k : Wp a b] (h : a.heap[g]? = some o) : b.heap[g]? = some o := (k.out.block g (blk_lt h)).trans h
section
variable {P : Program} {ops : Array Oper} {Q : Exit → Act → World → Prop} {md : Region.Mode} {S : World → Prop} {ds : List Nat}
theorem pa {T : Bool × List (List Nat × List Nat)} (hT : Aside0 (rtab md ops = T)) (i N : Nat) {oi : Oper} {v : Value} {fuel : Nat} {l : Array Bool} {a a' : Act} {w : World} (l' : Array Bool)
    (h : wpAnyLast P md ops Q S ds fuel l' a' w)
    (hi : ops[i]? = some oi := by rfl) (hN : oi.dst = some N := by rfl) (hc : anyT T l.toList l'.toList i = true := by kernel_rfl)
    (hQ : ∀ c a w, Q (.panic c) (a.put oi.dst v) w → Q (.panic c) a w := by exact fun _ _ _ h => h)
    (hw : Region.wanted oi (yielded ops a.tmps) = true := by rfl) (hy : ∀ w, (execOp a.eval oi).run P w = .ok (.value v) w := by intro w'; go_simp; with_reducible rfl)
    (ha : a.put (some N) v = a' := by simp only [Act.put, List.setIfInBounds_toArray, List.set_cons_zero, List.set_cons_succ, i64_w, i32_w]; rfl) :
    wpAnyLast P md ops Q S ds (fuel + 1) l a w := pure_ l' hi hN (any_of hT.out hc) hQ (Or.inl ⟨hw, hy⟩) ha h
theorem pb {T : Bool × List (List Nat × List Nat)} (hT : Aside0 (rtab md ops = T)) (i N : Nat) {oi : Oper} {fuel : Nat} {l : Array Bool} {a a' : Act} {w : World} (l' : Array Bool)
    (h : wpAnyLast P md ops Q S ds fuel l' a' w)
    (hi : ops[i]? = some oi := by rfl) (hN : oi.dst = some N := by rfl) (hc : anyT T l.toList l'.toList i = true := by kernel_rfl)
    (hQ : ∀ c a w, Q (.panic c) (a.put oi.dst undef) w → Q (.panic c) a w := by exact fun _ _ _ h => h)
    (hw : Region.wanted oi (yielded ops a.tmps) = false := by rfl)
    (ha : a.put (some N) undef = a' := by simp only [Act.put, List.setIfInBounds_toArray, List.set_cons_zero, List.set_cons_succ, i64_w, i32_w]; rfl) :
    wpAnyLast P md ops Q S ds (fuel + 1) l a w := pure_ l' hi hN (any_of hT.out hc) hQ (Or.inr ⟨hw, rfl⟩) ha h
end
section
variable {α : Type} {d : Kd α} {e base : Nat} {ok : Nat → Prop} {v : Value} {xs : List α} {a b : World}
theorem rz (h : Aside0 (d.R e a base ok v xs)) [k : Wr a b] : d.R e b base ok v xs := Kd.R_below h.out k.out
theorem nz (h : Aside0 (Kd.N d e a base ok v xs)) [k : Wr a b] : Kd.N d e b base ok v xs := Kd.N_below h.out k.out
end
class Wv (a b : World) : Prop where
  out : ∀ {α : Type} (d : Kd α) (e base : Nat) (ok : Nat → Prop) (v : Value) (xs : List α), Kd.V d e a base ok v xs → Kd.V d e b base ok v xs
instance Wv.refl (a : World) : Wv a a := ⟨fun _ _ _ _ _ _ h => h⟩
instance Wv.alloc (a b : World) (o : Obj) [k : Wv a b] : Wv a (b.alloc o) := ⟨fun d e base ok v xs h => Kd.V_alloc (k.out d e base ok v xs h) o⟩
instance Wv.drew (a b : World) [k : Wv a b] : Wv a b.drew := ⟨fun d e base ok v xs h => Kd.V_drew (k.out d e base ok v xs h)⟩
instance Wv.drewN (a b : World) (n : Nat) [k : Wv a b] : Wv a (b.drewN n) := ⟨fun d e base ok v xs h => Kd.V_drewN (k.out d e base ok v xs h) n⟩
theorem vz {α : Type} {d : Kd α} {e base : Nat} {ok : Nat → Prop} {v : Value} {xs : List α} {a b : World} (h : Aside0 (Kd.V d e a base ok v xs)) [k : Wv a b] : Kd.V d e b base ok v xs := k.out d e base ok v xs h.out
class Wk (g : Nat) (a b : World) : Prop where
  out : ∀ w : World, KeepBut w a g none → KeepBut w b g none
instance Wk.refl (g : Nat) (a : World) : Wk g a a := ⟨fun _ h => h⟩
instance Wk.set_ (g : Nat) (a b : World) (i : Nat) (v : Value) [k : Wk g a b] : Wk g a (b.setCell ⟨g, i, none⟩ v) := ⟨fun w h => KeepBut.set_ (k.out w h) i v⟩
instance Wk.alloc (g : Nat) (a b : World) (o : Obj) [k : Wk g a b] : Wk g a (b.alloc o) := ⟨fun w h => keep_alloc (k.out w h) o⟩
instance Wk.drew (g : Nat) (a b : World) [k : Wk g a b] : Wk g a b.drew := ⟨fun w h => keep_drew (k.out w h)⟩
instance Wk.drewN (g : Nat) (a b : World) (n : Nat) [k : Wk g a b] : Wk g a (b.drewN n) := ⟨fun w h => keep_drewN (k.out w h) n⟩
theorem bc {w : World} {g : Nat} {t : TypeId} {cs : Array Value} {v : Value} (h : Aside0 (w.heap[g]? = some (.cells cs t (0, 0)))) (i : Nat) (hv : cs[i]? = some v := by rfl) : w.cell? ⟨g, i, none⟩ = some v := (blk_cell h.out i).trans hv
theorem hcl {w W : World} {p : Addr} {v : Value} (hb : Aside0 (Below w.heap.size w W)) (h : w.cell? p = some v) : W.cell? p = some v := (hb.out.cell (World.block_lt_of_cell? w _ h)).trans h
theorem hcm {w a W : World} {p : Addr} {v : Value} (hb : Aside0 (Below w.heap.size w a)) (h : w.cell? p = some v) [k : Wr a W] : W.cell? p = some v := ((bl hb : Below w.heap.size w W).cell (World.block_lt_of_cell? w _ h)).trans h
theorem fz {p q : Prop} (hq : q) (hp : p := by first | rfl | (simp [errW_none, errW_some] <;> rfl) | (simp [*, errW_none, errW_some] <;> rfl)) : p ∧ q := ⟨hp, hq⟩
section
variable {P : Program} {ops : Array Oper} {rest : List Oper} {oi : Oper} {a : Act} {Q : Exit → Act → World → Prop} {w : World} {K : Act → World → Prop}
theorem gl (N : Option Tmp) {f : FuncId} {fn : Func} {ags : Array Operand} {ts : Array TypeId} (hf : P.funcs[f]? = some fn) (args : Array Value)
    (h : Calls P f args w fun e w' => ∃ v, e = .returned v ∧ wpList P ops Q rest (a.put N v) w')
    (hd : oi.dst = N := by rfl) (hg : oi.guard = none := by rfl) (hname : (fn.name == "runtime.NumGoroutine") = false := by kernel_rfl) (hb : fn.body.isSome = true := by rfl)
    (hop : oi.op = .call { callee := .value (.func f), args := ags, argTypes := ts } := by rfl)
    (hargs : ags.map a.eval = args := by (try simp only [List.map_toArray, List.map_cons, List.map_nil]); first | done | rfl | (simp only [List.length_drop, List.length_take]; rfl)) : wpList P ops Q (oi :: rest) a w :=
  goesL_ N hd hg hf hname hb args hop hargs h
theorem gs {N : Option Tmp} {f : FuncId} {fn : Func} {ags : Array Operand} {ts : Array TypeId} (hf : P.funcs[f]? = some fn) (args : Array Value)
    (h : Calls P f args w fun e w' => ∃ v, e = .returned v ∧ K (a.put N v) w')
    (hname : (fn.name == "runtime.NumGoroutine") = false := by kernel_rfl) (hb : fn.body.isSome = true := by rfl) (hw : Region.wanted oi (yielded ops a.tmps) = true := by rfl) (hN : oi.dst = N := by rfl)
    (hop : oi.op = .call { callee := .value (.func f), args := ags, argTypes := ts } := by rfl)
    (hargs : ags.map a.eval = args := by (try simp only [List.map_toArray, List.map_cons, List.map_nil]); first | done | rfl | (simp only [List.length_drop, List.length_take]; rfl)) :
    if Region.wanted oi (yielded ops a.tmps) = true then Oper.wp P oi a w K Q else K (a.put N undef) w := goes_ hf hname hb args hw hN hop hargs h
theorem bx (N : Tmp) (cs : Array Value) (t : TypeId)
    (h : ∀ g, g = w.heap.size → ∀ w1, w1.heap[g]? = some (.cells cs t (0, 0)) → Below w.heap.size w w1 → wpList P ops Q rest (a.put oi.dst (.pointer (some ⟨g, 0, none⟩))) w1)
    (hd : oi.dst = some N := by rfl) (hgd : oi.guard = none := by rfl)
    (hrun : (execOp a.eval oi).run P w = .ok (.value (.pointer (some ⟨w.heap.size, 0, none⟩))) (w.alloc (.cells cs t (0, 0))) := by first | (go_simp; done) | (go_simp; rfl)) : wpList P ops Q (oi :: rest) a w :=
  box_event hgd hd hrun h
end
structure Ent where
  lo : Nat
  hi : Nat
  F : World → Prop
  mv : ∀ {W W' : World}, (∀ k, lo ≤ k → k < hi → W'.heap[k]? = W.heap[k]?) → F W → F W'
def Ok (W : World) : Nat → List Ent → Prop
  | n, [] => n ≤ W.heap.size
  | n, e :: r => n ≤ e.lo ∧ e.lo ≤ e.hi ∧ e.F W ∧ Ok W e.hi r
theorem Ok.start (W : World) : Ok W W.heap.size [] := Nat.le_refl _
theorem Ok.size {W : World} : ∀ {n : Nat} {es : List Ent}, Ok W n es → n ≤ W.heap.size
  | _, [], h => h
  | _, _ :: _, h => Nat.le_trans h.1 (Nat.le_trans h.2.1 (Ok.size h.2.2.2))
theorem Ok.same {W W' : World} (hs : W.heap.size ≤ W'.heap.size) : ∀ {n : Nat} {es : List Ent}, Ok W n es → (∀ k, n ≤ k → k < W.heap.size → W'.heap[k]? = W.heap[k]?) → Ok W' n es
  | _, [], h, _ => Nat.le_trans h hs
  | _, e :: _, h, hk => ⟨h.1, h.2.1, e.mv (fun k h1 h2 => hk k (Nat.le_trans h.1 h1) (Nat.lt_of_lt_of_le h2 (Ok.size h.2.2.2))) h.2.2.1, Ok.same hs h.2.2.2 (fun k h1 h2 => hk k (Nat.le_trans h.1 (Nat.le_trans h.2.1 h1)) h2)⟩
theorem Ok.below {W W' : World} {n : Nat} {es : List Ent} (h : Ok W n es) (hb : Below W.heap.size W W') : Ok W' n es := h.same hb.size (fun k _ hk => hb.block k hk)
theorem Ok.snocW {W : World} (e : Ent) (h1 : W.heap.size ≤ e.lo) (h2 : e.lo ≤ e.hi) {W' : World} (hb : Below W.heap.size W W') (h3 : e.hi ≤ W'.heap.size) (hF : e.F W') : ∀ {n : Nat} {es : List Ent}, Ok W n es → Ok W' n (es ++ [e])
  | _, [], h => ⟨Nat.le_trans h h1, h2, hF, h3⟩
  | _, a :: _, h => ⟨h.1, h.2.1, a.mv (fun k _ h5 => hb.block k (Nat.lt_of_lt_of_le h5 (Ok.size h.2.2.2))) h.2.2.1, Ok.snocW e h1 h2 hb h3 hF h.2.2.2⟩
theorem Ok.get {W : World} : ∀ {n : Nat} {es : List Ent} (_ : Ok W n es) (j : Nat) {e : Ent} (_ : es[j]? = some e), n ≤ e.lo ∧ e.lo ≤ e.hi ∧ e.hi ≤ W.heap.size ∧ e.F W
  | _, [], _, j, _, hj => by cases hj
  | _, a :: r, h, 0, e, hj => by
    have hj' : a = e := by simpa using hj
    subst hj'
    exact ⟨h.1, h.2.1, Ok.size h.2.2.2, h.2.2.1⟩
  | _, a :: r, h, j + 1, e, hj => by
    have := Ok.get h.2.2.2 j (e := e) (by simpa using hj)
    exact ⟨Nat.le_trans h.1 (Nat.le_trans h.2.1 this.1), this.2⟩
theorem Ok.put {W W' : World} (hs : W.heap.size ≤ W'.heap.size) (e' : Ent) (hF : e'.F W') : ∀ {n : Nat} {es : List Ent} (_ : Ok W n es) (j : Nat) {e : Ent} (_ : es[j]? = some e) (_ : e'.lo = e.lo) (_ : e'.hi = e.hi) (_ : ∀ k, k < W.heap.size → ¬ (e.lo ≤ k ∧ k < e.hi) → W'.heap[k]? = W.heap[k]?), Ok W' n (es.set j e')
  | _, [], _, j, _, hj, _, _, _ => by cases hj
  | _, a :: r, h, 0, e, hj, hl, hh, hk => by
    have hj' : a = e := by simpa using hj
    subst hj'
    refine ⟨by rw [hl]; exact h.1, by rw [hl, hh]; exact h.2.1, hF, ?_⟩
    rw [hh]
    exact Ok.same hs h.2.2.2 (fun k h1 h2 => hk k h2 (fun h3 => Nat.lt_irrefl _ (Nat.lt_of_lt_of_le h3.2 h1)))
  | _, a :: r, h, j + 1, e, hj, hl, hh, hk => by
    have hj' : r[j]? = some e := by simpa using hj
    have hg := Ok.get h.2.2.2 j hj'
    refine ⟨h.1, h.2.1, a.mv (fun k h1 h2 => hk k (Nat.lt_of_lt_of_le h2 (Ok.size h.2.2.2)) (fun h3 => Nat.lt_irrefl _ (Nat.lt_of_lt_of_le (Nat.lt_of_lt_of_le h2 hg.1) h3.1))) h.2.2.1, Ok.put hs e' hF h.2.2.2 j hj' hl hh hk⟩
def boxE (g : Nat) (c : Array Value) (t : Nat) : Ent := ⟨g, g + 1, fun W => W.heap[g]? = some (.cells c t (0, 0)), fun hm h => (hm g (Nat.le_refl _) (Nat.lt_succ_self _)).trans h⟩
def rowE {α : Type} (d : Kd α) (t b : Nat) (v : Value) (l : List α) (lo hi : Nat) : Ent := ⟨lo, hi, fun W => Kd.S d t W b (fun k => lo ≤ k ∧ k < hi) v l, fun hm h => Kd.S_move h (fun k hk => hm k hk.1 hk.2)⟩
def rowR {α : Type} (d : Kd α) (t b : Nat) (v : Value) (l : List α) (lo hi : Nat) : Ent := ⟨lo, hi, fun W => d.R t W b (fun k => lo ≤ k ∧ k < hi) v l, fun hm h => Kd.R_move h (fun k hk => hm k hk.1 hk.2)⟩
def rowN {α : Type} (d : Kd α) (t b : Nat) (v : Value) (l : List α) (lo hi : Nat) : Ent := ⟨lo, hi, fun W => Kd.N d t W b (fun k => lo ≤ k ∧ k < hi) v l, fun hm h => Kd.N_step h (fun k hk _ => hm k hk.1 hk.2)⟩
def rowT {α β γ : Type} (d4 : Kd α) (t4 : Nat) (d5 : Kd β) (t5 : Nat) (d6 : Kd γ) (t6 b : Nat) (v4 : Value) (l4 : List α) (v5 : Value) (l5 : List β) (v6 : Value) (l6 : List γ) (lo hi : Nat) : Ent :=
  ⟨lo, hi, fun W => d4.R t4 W b (fun k => lo ≤ k ∧ k < hi) v4 l4 ∧ d5.R t5 W b (fun k => lo ≤ k ∧ k < hi) v5 l5 ∧ d6.R t6 W b (fun k => lo ≤ k ∧ k < hi) v6 l6,
    fun hm h => ⟨Kd.R_move h.1 (fun k hk => hm k hk.1 hk.2), Kd.R_move h.2.1 (fun k hk => hm k hk.1 hk.2), Kd.R_move h.2.2 (fun k hk => hm k hk.1 hk.2)⟩⟩
section
variable {α : Type} {d : Kd α} {t b n : Nat} {v : Value} {l r : List α} {W W' : World} {es : List Ent} {okp : Nat → Prop}
theorem Ok.box (h : Ok W n es) {g : Nat} {c : Array Value} {t : TypeId} (hg : g = W.heap.size) (hx : W'.heap[g]? = some (.cells c t (0, 0))) (hb : Below W.heap.size W W') : Ok W' n (es ++ [boxE g c t]) :=
  Ok.snocW (boxE g c t) (Nat.le_of_eq hg.symm) (Nat.le_succ _) hb (blk_lt hx) hx h
theorem Ok.row (h : Ok W n es) (hle : b ≤ W.heap.size) (ho : Kd.S d t W' W.heap.size okp v r) (hb : Below W.heap.size W W') : Ok W' n (es ++ [rowE d t b v r W.heap.size W'.heap.size]) :=
  Ok.snocW (rowE d t b v r W.heap.size W'.heap.size) (Nat.le_refl _) hb.size hb (Nat.le_refl _) (Kd.S_mono (Kd.S_lower (Kd.S_bound ho) hle) (fun _ hk => ⟨hk.2.1, hk.2.2.1⟩)) h
theorem Ok.rowr (h : Ok W n es) (hle : b ≤ W.heap.size) (ho : d.R t W' W.heap.size okp v r) (hb : Below W.heap.size W W') : Ok W' n (es ++ [rowR d t b v r W.heap.size W'.heap.size]) :=
  Ok.snocW (rowR d t b v r W.heap.size W'.heap.size) (Nat.le_refl _) hb.size hb (Nat.le_refl _) (Kd.R_mono (Kd.R_lower (Kd.R_bound ho) hle) (fun _ hk => ⟨hk.2.1, hk.2.2.1⟩)) h
theorem Ok.cell (h : Ok W n es) (j : Nat) {g : Nat} {c : Array Value} {t : TypeId} (i : Nat) {u : Value} (hj : es[j]? = some (boxE g c t) := by rfl) (hu : c[i]? = some u := by rfl) : W.cell? ⟨g, i, none⟩ = some u := (blk_cell (Ok.get h j hj).2.2.2 i).trans hu
theorem Ok.frozen (h : Ok W n es) (j : Nat) {g : Nat} {c : Array Value} {t : TypeId} (i : Nat) (hj : es[j]? = some (boxE g c t) := by rfl) : W.frozen? ⟨g, i, none⟩ = false := blk_frozen (Ok.get h j hj).2.2.2 i
theorem Ok.store (h : Ok W n es) (j : Nat) {g : Nat} {c : Array Value} {t : TypeId} (hj : es[j]? = some (boxE g c t)) (i : Nat) (u : Value) : Ok (W.setCell ⟨g, i, none⟩ u) n (es.set j (boxE g (c.setIfInBounds i u) t)) :=
  Ok.put (by simp [World.setCell]) (boxE g (c.setIfInBounds i u) t) (blk_set (Ok.get h j hj).2.2.2 i u) h j hj rfl rfl (fun k _ hn => Below.heap_setCell W _ u k (fun he => hn (by subst he; exact ⟨Nat.le_refl _, Nat.lt_succ_self _⟩)))
theorem Ok.ge (h : Ok W n es) (j : Nat) {g : Nat} {c : Array Value} {t : TypeId} (hj : es[j]? = some (boxE g c t) := by rfl) : n ≤ g := (Ok.get h j hj).1
theorem Ok.s (h : Ok W n es) (j : Nat) {lo hi : Nat} (hj : es[j]? = some (rowE d t b v l lo hi) := by rfl) : Kd.S d t W b (fun k => lo ≤ k ∧ k < hi) v l := (Ok.get h j hj).2.2.2
theorem Ok.rr (h : Ok W n es) (j : Nat) {lo hi : Nat} (hj : es[j]? = some (rowR d t b v l lo hi) := by rfl) : d.R t W b (fun k => lo ≤ k ∧ k < hi) v l := (Ok.get h j hj).2.2.2
theorem Ok.sC {A : Option Addr} {n' c : Nat} (h : Ok W n es) (j : Nat) {lo hi : Nat} (hj : es[j]? = some (rowE d t b (.slice A n' c) l lo hi) := by rfl) : d.C W A l.length l := (Kd.S_reads' (Ok.s h j hj)).2.2
theorem Ok.sle {A : Option Addr} {n' c : Nat} (h : Ok W n es) (j : Nat) {lo hi : Nat} (hj : es[j]? = some (rowE d t b (.slice A n' c) l lo hi) := by rfl) : l.length ≤ c := by
  have h1 := Kd.S_reads' (Ok.s h j hj)
  exact h1.1 ▸ h1.2.1
theorem Ok.rown (h : Ok W n es) (hle : b ≤ W.heap.size) (ho : Kd.N d t W' W.heap.size (fun k_ => (W.heap.size ≤ k_)) v r) (hb : Below W.heap.size W W') : Ok W' n (es ++ [rowN d t b v r W.heap.size W'.heap.size]) :=
  Ok.snocW (rowN d t b v r W.heap.size W'.heap.size) (Nat.le_refl _) hb.size hb (Nat.le_refl _) (Kd.N_lower (Kd.N_bound ho) hle) h
theorem Ok.nC {A : Option Addr} {n' c : Nat} (h : Ok W n es) (j : Nat) {lo hi : Nat} (hj : es[j]? = some (rowN d t b (.slice A n' c) l lo hi) := by rfl) : d.C W A l.length l := (Kd.N_reads' (show Kd.N d t W b (fun k => lo ≤ k ∧ k < hi) (.slice A n' c) l from (Ok.get h j hj).2.2.2)).2.2
theorem Ok.nle {A : Option Addr} {n' c : Nat} (h : Ok W n es) (j : Nat) {lo hi : Nat} (hj : es[j]? = some (rowN d t b (.slice A n' c) l lo hi) := by rfl) : l.length ≤ c := by
  have h1 := Kd.N_reads' (show Kd.N d t W b (fun k => lo ≤ k ∧ k < hi) (.slice A n' c) l from (Ok.get h j hj).2.2.2)
  exact h1.1 ▸ h1.2.1
theorem Ok.mark (h : Ok W n es) (j : Nat) {lo hi : Nat} (hj : es[j]? = some (rowE d t b v l lo hi)) (ho : Kd.S d t W' b (fun k => lo ≤ k ∧ k < hi) v r) (hk : Kept W W' (fun k => lo ≤ k ∧ k < hi)) : Ok W' n (es.set j (rowE d t b v r lo hi)) :=
  Ok.put hk.1 (rowE d t b v r lo hi) ho h j hj rfl rfl (fun k h1 h2 => hk.2 k h1 h2)
end
theorem app_rows {α : Type} {d : Kd α} {t b n c : Nat} {ok : Nat → Prop} {A : Option Addr} {xs : List α} {W : World} (h : Kd.S d t W b ok (.slice A n c) xs) :
    ∃ f, ReadsRow ((Kd.tag f d).M W b (fun k => ok k ∧ some k ≠ (Value.slice A n c).ownBlock)) d.sz W A n xs.zipIdx := by
  obtain ⟨f, h⟩ := h
  obtain ⟨A', c', he, hl, hr⟩ := OwnRow.reads h.2
  injection he with h1 h2 h3
  subst h1
  subst h2
  exact ⟨f, hr⟩
theorem R_nil_any {α β : Type} {d : Kd α} {d' : Kd β} {t b : Nat} {ok : Nat → Prop} {v : Value} {W : World} (hsz : d'.sz = d.sz) (h : d.R t W b ok v []) : d'.R t W b ok v [] := by
  obtain ⟨h0, inner, ho, hr⟩ := h
  refine ⟨h0, inner, by rw [hsz]; exact ho, ⟨by rw [hr.1]; simp, fun j p hj => by simp at hj⟩⟩
theorem Ok.markV {α : Type} {d : Kd α} {t b n : Nat} {v v' : Value} {l r : List α} {W W' : World} {es : List Ent} (h : Ok W n es) (j : Nat) {lo hi : Nat} (hj : es[j]? = some (rowE d t b v l lo hi)) (ho : Kd.S d t W' b (fun k => lo ≤ k ∧ k < hi) v' r) (hk : Kept W W' (fun k => lo ≤ k ∧ k < hi)) : Ok W' n (es.set j (rowE d t b v' r lo hi)) :=
  Ok.put hk.1 (rowE d t b v' r lo hi) ho h j hj rfl rfl (fun k h1 h2 => hk.2 k h1 h2)
section
variable {α β γ : Type} {d4 : Kd α} {d5 : Kd β} {d6 : Kd γ} {t4 t5 t6 b n : Nat} {v4 v5 v6 : Value} {l4 r4 : List α} {l5 r5 : List β} {l6 r6 : List γ} {W W' : World} {es : List Ent} {o4 o5 o6 : Nat → Prop}
theorem Ok.tt (h : Ok W n es) (j : Nat) {lo hi : Nat} (hj : es[j]? = some (rowT d4 t4 d5 t5 d6 t6 b v4 l4 v5 l5 v6 l6 lo hi) := by rfl) : d4.R t4 W b (fun k => lo ≤ k ∧ k < hi) v4 l4 ∧ d5.R t5 W b (fun k => lo ≤ k ∧ k < hi) v5 l5 ∧ d6.R t6 W b (fun k => lo ≤ k ∧ k < hi) v6 l6 := (Ok.get h j hj).2.2.2
theorem Ok.markT (h : Ok W n es) (j : Nat) {lo hi : Nat} (hj : es[j]? = some (rowT d4 t4 d5 t5 d6 t6 b v4 l4 v5 l5 v6 l6 lo hi)) (e4 : d4.E = []) (e5 : d5.E = []) (e6 : d6.E = [])
    (h4 : d4.R t4 W' b o4 v4 r4) (h5 : d5.R t5 W' b o5 v5 r5) (h6 : d6.R t6 W' b o6 v6 r6) (hk : Kept W W' (fun k => some k = v4.ownBlock ∨ some k = v5.ownBlock ∨ some k = v6.ownBlock)) : Ok W' n (es.set j (rowT d4 t4 d5 t5 d6 t6 b v4 r4 v5 r5 v6 r6 lo hi)) := by
  obtain ⟨a4, a5, a6⟩ := Ok.tt h j hj
  exact Ok.put hk.1 (rowT d4 t4 d5 t5 d6 t6 b v4 r4 v5 r5 v6 r6 lo hi) ⟨Kd.R_reok e4 h4 a4.1, Kd.R_reok e5 h5 a5.1, Kd.R_reok e6 h6 a6.1⟩ h j hj rfl rfl
    (fun k h2 h3 => hk.2 k h2 (fun h => h.elim (fun e => h3 (a4.1 k e.symm)) (fun h => h.elim (fun e => h3 (a5.1 k e.symm)) (fun e => h3 (a6.1 k e.symm)))))
end
theorem ift {c : Prop} [Decidable c] {X : Option Bool} (h : (if c then X else some false) = some true) : c ∧ X = some true := by
  split at h
  · rename_i hc; exact ⟨hc, h⟩
  · cases h
theorem iff_ {c : Prop} [Decidable c] {X : Option Bool} (h : (if c then some false else X) = some true) : ¬ c ∧ X = some true := by
  split at h
  · cases h
  · rename_i hc; exact ⟨hc, h⟩
end Go.Proofs.Ytnkgmcgbbldkgaa.P
namespace Go.Proofs.Ytnkgmcgbbldkgaa.X
open Go.RowKit Go.Proofs.YtnkgmcgbbldkgaaW.PrintWords Go.Proofs.YtnkgmcgbbldkgaaW.PrintLast
theorem clear_tail {α : Type} (d : Kd α) {P : Program} {W : World} {base : Nat} {t e : TypeId} {z : Value} (ht : P.underlying t = some (.slice e)) (hv : ∀ w, (zeroValue e).run P w = .ok z w) (hzs : z.cells.size = d.sz) (hpos : 0 < d.sz) (h1 : ∀ u ∈ z.cells.toList, u.oneCell' = true)
    {g n m c c2 : Nat} {xs : List α} {ok : Nat → Prop} (HO : d.R e W base ok (.slice (some ⟨g, 0, none⟩) n c) xs) (hm : 0 < m) (hc : n + m ≤ c) (ty : TypeId) :
    ∃ w1, (Builtin.clear_ #[t] ty #[.slice (some ⟨g, n * d.sz, none⟩) m c2]).run P W = .ok (.tuple #[]) w1 ∧ d.R e w1 base ok (.slice (some ⟨g, 0, none⟩) n c) xs ∧ W.grownBy w1 (some g) := by
  obtain ⟨hn, hnc, _⟩ := Kd.R_reads' HO
  obtain ⟨hok, inner, hown, hr⟩ := HO
  rcases hown.2 with ⟨hv', _⟩ | ⟨g', cap', cur, hv', hb, hh, hle, hcm, hcs, htake⟩
  · cases hv'
  injection hv' with ha _ hc'
  injection ha with ha
  injection ha with hg
  subst hg; subst hc'
  obtain ⟨zs, hzs'⟩ : ∃ zs, zs = (Builtin.zeroCells z.cells m).toList := ⟨_, rfl⟩
  have hzl : zs.length = m * d.sz := by rw [hzs', Array.length_toList]; simp [Builtin.zeroCells, hzs]
  have hz1 : ∀ u ∈ zs, u.oneCell' = true := by
    intro u hu
    rw [hzs'] at hu
    simp only [Builtin.zeroCells, Array.toList_map, List.mem_map] at hu
    obtain ⟨j, _, rfl⟩ := hu
    have hj : j % z.cells.size < z.cells.size := Nat.mod_lt _ (by omega)
    rw [getElem!_pos z.cells _ hj]
    exact h1 _ (by rw [Array.mem_toList_iff]; exact Array.getElem_mem hj)
  have hmul : (n + m) * d.sz ≤ c * d.sz := Nat.mul_le_mul_right _ hc
  have hadd : (n + m) * d.sz = n * d.sz + m * d.sz := Nat.add_mul _ _ _
  have hst := run_storeCells_cells (P := P) g (n * d.sz) zs 0 W (fun j hj => by rw [cell_of_row W g _ cur e (0, 0) hh]; simp; omega) (fun j _ => blk_frozen hh _) hz1
  rw [Nat.add_zero] at hst
  obtain ⟨cur', h3, h4, h5⟩ := setCells_row zs (n * d.sz) W cur hh (by omega)
  obtain ⟨s1, s2, s3, s4⟩ := setCells_same g zs (n * d.sz) W
  have hfar : ∀ k', k' ≠ g → (W.setCells g (n * d.sz) zs).heap[k']? = W.heap[k']? := fun k' hk' => setCells_far zs _ k' hk'
  have hrun : (Builtin.clear_ #[t] ty #[.slice (some ⟨g, n * d.sz, none⟩) m c2]).run P W = .ok (.tuple #[]) (W.setCells g (n * d.sz) zs) := by
    obtain ⟨q, rfl⟩ : ∃ q, m = q + 1 := ⟨m - 1, by omega⟩
    simp [Builtin.clear_, run_underlying ht, hv, ← hzs', hst]
  refine ⟨_, hrun, ⟨hok, inner, ⟨hown.1, .inr ⟨g, c, cur', by rw [← hn], hb, h3, by omega, hcm, by rw [h4, hcs], ?_⟩⟩, ?_⟩, ⟨s1, s2, s3, by rw [s4]; exact Nat.le_refl _, fun k' _ hk' => hfar k' (fun he => hk' (by rw [he]))⟩⟩
  · rw [← hn] at htake ⊢
    rw [h5, List.append_assoc, List.take_append_of_le_length (by rw [List.length_take, Array.length_toList]; omega), List.take_take, Nat.min_self, htake]
  · have hgo : some g = (Value.slice (some ⟨g, 0, none⟩) n c).ownBlock := by simp [Value.ownBlock]
    exact hr.imp_ (fun p q hp => d.M_move (fun k' hk' => hfar k' (fun he => hk'.2 (by rw [he, hgo]))) hp)
theorem bl_self (a : List UInt8) : Op.bytesLess a a = false := by
  induction a with
  | nil => rfl
  | cons x r ih => simp [Op.bytesLess, ih]
theorem bl_same (a : List UInt8) : ∀ (b : List UInt8), Op.bytesLess a b = false → Op.bytesLess b a = false → a = b := by
  induction a with
  | nil =>
    intro b h _
    cases b with
    | nil => rfl
    | cons y b => simp [Op.bytesLess] at h
  | cons x a ih =>
    intro b h h'
    cases b with
    | nil => simp [Op.bytesLess] at h'
    | cons y b =>
      simp only [Op.bytesLess, Bool.or_eq_false_iff, Bool.and_eq_false_iff, decide_eq_false_iff_not, beq_eq_false_iff_ne] at h h'
      obtain rfl : x = y := UInt8.le_antisymm (UInt8.not_lt.1 h'.1) (UInt8.not_lt.1 h.1)
      rw [ih b (by simpa using h.2) (by simpa using h'.2)]
theorem bl_ne {a b : ByteArray} (h : Op.bytesLess b.toList a.toList = true) : (a.toList == b.toList) = false := by
  rw [beq_eq_false_iff_ne]
  intro e
  rw [e, bl_self] at h
  cases h
theorem bl_eq {a b : ByteArray} (h : Op.bytesLess a.toList b.toList = false) (h' : Op.bytesLess b.toList a.toList = false) : (a.toList == b.toList) = true := by
  rw [bl_same _ _ h h']
  exact beq_self_eq_true _
end Go.Proofs.Ytnkgmcgbbldkgaa.X
namespace Go.Proofs.Ytnkgmcgbbldkgaa.P
/-- Marks, by a number's bits. -/
def zb (n m : Nat) : Array Bool := ((List.range n).map fun j => m.testBit j).toArray
end Go.Proofs.Ytnkgmcgbbldkgaa.P
namespace Go.Proofs.Ytnkgmcgbbldkgaa.P
open Go.RowKit Go.Proofs.YtnkgmcgbbldkgaaW.PrintWords Go.Proofs.YtnkgmcgbbldkgaaW.PrintLast Go.Proofs.YtnkgmcgbbldkgaaW.PrintMore
theorem zq0 : type_of% @List.setIfInBounds_toArray.{0} := @List.setIfInBounds_toArray.{0}
theorem zq1 : type_of% @List.set_cons_zero.{0} := @List.set_cons_zero.{0}
theorem zq2 : type_of% @List.set_cons_succ.{0} := @List.set_cons_succ.{0}
theorem zq4 : type_of% @below_drew1 := @below_drew1
theorem zq5 : type_of% @below_alloc := @below_alloc
theorem zq6 : type_of% @blk_frozen := @blk_frozen
theorem zq7 : type_of% @blk_cell := @blk_cell
theorem zq8 : type_of% @World.block_lt_of_cell? := @World.block_lt_of_cell?
theorem zq9 : type_of% @Aside0.mk := @Aside0.mk
theorem zq10 : type_of% @Kd.R_alloc := @Kd.R_alloc
theorem zq11 : type_of% @Kd.R_drewN := @Kd.R_drewN
theorem zq12 : type_of% @Kd.R_drew := @Kd.R_drew
theorem zq18 : type_of% @Kd.C_alloc := @Kd.C_alloc
theorem zq19 : type_of% @Kd.C_drewN := @Kd.C_drewN
theorem zq20 : type_of% @Kd.C_drew := @Kd.C_drew
theorem zq21 : type_of% @Kd.V_alloc := @Kd.V_alloc
theorem zq22 : type_of% @Kd.V_drewN := @Kd.V_drewN
theorem zq23 : type_of% @Kd.V_drew := @Kd.V_drew
theorem zq24 : type_of% @gate_callee := @gate_callee
theorem zq25 : type_of% @gate_dst := @gate_dst
theorem zq26 : type_of% @gate_store := @gate_store
theorem zq27 : type_of% @below_step := @below_step
theorem zq28 : type_of% @below_set := @below_set
theorem zq29 : type_of% @below_size := @below_size
theorem zq30 : type_of% @blk_below := @blk_below
theorem zq31 : type_of% @Kd.C_below := @Kd.C_below
theorem zq32 : type_of% @World.drewN_drewN := @World.drewN_drewN
theorem zq33 : type_of% @List.length_drop.{0} := @List.length_drop.{0}
theorem zq34 : type_of% @List.length_take.{0} := @List.length_take.{0}
end Go.Proofs.Ytnkgmcgbbldkgaa.P

namespace Go.Proofs.Ytnkgmcgbbldkgaa.P
open Go.RowKit Go.Proofs.YtnkgmcgbbldkgaaW.PrintWords Go.Proofs.YtnkgmcgbbldkgaaW.PrintLast Go.Proofs.YtnkgmcgbbldkgaaW.PrintMore
attribute [local go_sem] max2_int min2_int max_two min_two max_three min_three max_four min_four   -- for this text's walks alone
set_option linter.unusedVariables false
set_option linter.unusedSimpArgs false
def errW : Option Int → Value
  | none => .nilIface
  | some c => .iface 0 (.int .i64 c)
theorem errW_none : errW none = .nilIface := rfl
theorem errW_some (c : Int) : errW (some c) = .iface 0 (.int .i64 c) := rfl
theorem info9 : (Try.prog.info? 9).map (fun i => (i.zero, i.size, i.bytes)) = some (some (.string ⟨#[]⟩), 1, 16) := by kernel_rfl
theorem info32 : (Try.prog.info? 32).map (fun i => (i.zero, i.size, i.bytes)) = some (some (.agg #[(.string ⟨#[]⟩), (.int .i64 0), (.int .i64 0), (.string ⟨#[]⟩), (.slice none 0 0), (.slice none 0 0), (.slice none 0 0)]), 7, 120) := by kernel_rfl
theorem info99 : (Try.prog.info? 99).map (fun i => (i.zero, i.size, i.bytes)) = some (some (.agg #[(.string ⟨#[]⟩), (.int .i64 0)]), 2, 24) := by kernel_rfl
theorem info101 : (Try.prog.info? 101).map (fun i => (i.zero, i.size, i.bytes)) = some (some (.agg #[(.string ⟨#[]⟩), (.string ⟨#[]⟩)]), 2, 32) := by kernel_rfl
structure S95 where
  f0 : ByteArray
  f1 : Int
def z95 : S95 := ⟨(⟨#[]⟩ : ByteArray), (0 : Int)⟩
def k95 : Kd S95 := Kd.iso (Kd.pair Kd.string (Kd.int .i64)) (fun x : S95 => (x.f0, x.f1))
theorem k95_open {w : World} {x : S95} {cs : List Value} (h : k95.K w x cs) : cs = [.string x.f0, .int .i64 x.f1] := by
  obtain ⟨_, _, rfl, rfl, rfl⟩ := h
  exact rfl
def rd_T95 (xs : List S95) (i : Int) : S95 := xs.getD i.toNat z95
theorem at_T95 {w : World} {A : Option Addr} {n : Nat} {xs : List S95} (h : Kd.C k95 w A n xs) (i : Int) (h0 : 0 ≤ i) (h1 : i < n) : ∃ ad , A = some ad ∧ w.cell? (ad.add (i.toNat * 2)) = some (.string (rd_T95 xs i).f0) ∧ w.cell? ⟨(ad.add (i.toNat * 2)).block, (ad.add (i.toNat * 2)).off + 1, none⟩ = some (.int .i64 (rd_T95 xs i).f1) := by
  obtain ⟨ad, c, e, _, hK, hc0⟩ := Kd.C_get h z95 i h0 h1
  have hc : ∀ j u, c[j]? = some u → w.cell? (ad.add (i.toNat * 2 + j)) = some u := hc0
  obtain rfl := k95_open hK
  exact ⟨ad, e, hc 0 _ rfl, by rw [← add_field _ _ 1 (by omega)]; exact hc 1 _ rfl⟩
structure S98 where
  f0 : ByteArray
  f1 : ByteArray
def z98 : S98 := ⟨(⟨#[]⟩ : ByteArray), (⟨#[]⟩ : ByteArray)⟩
def k98 : Kd S98 := Kd.iso (Kd.pair Kd.string Kd.string) (fun x : S98 => (x.f0, x.f1))
theorem k98_open {w : World} {x : S98} {cs : List Value} (h : k98.K w x cs) : cs = [.string x.f0, .string x.f1] := by
  obtain ⟨_, _, rfl, rfl, rfl⟩ := h
  exact rfl
def rd_T98 (xs : List S98) (i : Int) : S98 := xs.getD i.toNat z98
theorem at_T98 {w : World} {A : Option Addr} {n : Nat} {xs : List S98} (h : Kd.C k98 w A n xs) (i : Int) (h0 : 0 ≤ i) (h1 : i < n) : ∃ ad , A = some ad ∧ w.cell? (ad.add (i.toNat * 2)) = some (.string (rd_T98 xs i).f0) ∧ w.cell? ⟨(ad.add (i.toNat * 2)).block, (ad.add (i.toNat * 2)).off + 1, none⟩ = some (.string (rd_T98 xs i).f1) := by
  obtain ⟨ad, c, e, _, hK, hc0⟩ := Kd.C_get h z98 i h0 h1
  have hc : ∀ j u, c[j]? = some u → w.cell? (ad.add (i.toNat * 2 + j)) = some u := hc0
  obtain rfl := k98_open hK
  exact ⟨ad, e, hc 0 _ rfl, by rw [← add_field _ _ 1 (by omega)]; exact hc 1 _ rfl⟩
structure S99 where
  f0 : ByteArray
  f1 : Int
def z99 : S99 := ⟨(⟨#[]⟩ : ByteArray), (0 : Int)⟩
def k99 : Kd S99 := Kd.iso (Kd.pair Kd.string (Kd.int .i64)) (fun x : S99 => (x.f0, x.f1))
theorem k99_open {w : World} {x : S99} {cs : List Value} (h : k99.K w x cs) : cs = [.string x.f0, .int .i64 x.f1] := by
  obtain ⟨_, _, rfl, rfl, rfl⟩ := h
  exact rfl
theorem k99_openM {w : World} {base : Nat} {ok : Nat → Prop} {x : S99} {cs : List Value} (h : k99.M w base ok x cs) : cs = [.string x.f0, .int .i64 x.f1] := by
  obtain ⟨_, _, rfl, rfl, rfl⟩ := h
  exact rfl
theorem k99_mkM (w : World) (base : Nat) (ok : Nat → Prop) (x : S99)  : k99.M w base ok x [.string x.f0, .int .i64 x.f1] := ⟨[.string x.f0], [.int .i64 x.f1], rfl, rfl, rfl⟩
def rd_T99 (xs : List S99) (i : Int) : S99 := xs.getD i.toNat z99
theorem at_T99 {w : World} {A : Option Addr} {n : Nat} {xs : List S99} (h : Kd.C k99 w A n xs) (i : Int) (h0 : 0 ≤ i) (h1 : i < n) : ∃ ad , A = some ad ∧ w.cell? (ad.add (i.toNat * 2)) = some (.string (rd_T99 xs i).f0) ∧ w.cell? ⟨(ad.add (i.toNat * 2)).block, (ad.add (i.toNat * 2)).off + 1, none⟩ = some (.int .i64 (rd_T99 xs i).f1) := by
  obtain ⟨ad, c, e, _, hK, hc0⟩ := Kd.C_get h z99 i h0 h1
  have hc : ∀ j u, c[j]? = some u → w.cell? (ad.add (i.toNat * 2 + j)) = some u := hc0
  obtain rfl := k99_open hK
  exact ⟨ad, e, hc 0 _ rfl, by rw [← add_field _ _ 1 (by omega)]; exact hc 1 _ rfl⟩
structure S101 where
  f0 : ByteArray
  f1 : ByteArray
def z101 : S101 := ⟨(⟨#[]⟩ : ByteArray), (⟨#[]⟩ : ByteArray)⟩
def k101 : Kd S101 := Kd.iso (Kd.pair Kd.string Kd.string) (fun x : S101 => (x.f0, x.f1))
theorem k101_open {w : World} {x : S101} {cs : List Value} (h : k101.K w x cs) : cs = [.string x.f0, .string x.f1] := by
  obtain ⟨_, _, rfl, rfl, rfl⟩ := h
  exact rfl
theorem k101_openM {w : World} {base : Nat} {ok : Nat → Prop} {x : S101} {cs : List Value} (h : k101.M w base ok x cs) : cs = [.string x.f0, .string x.f1] := by
  obtain ⟨_, _, rfl, rfl, rfl⟩ := h
  exact rfl
theorem k101_mkM (w : World) (base : Nat) (ok : Nat → Prop) (x : S101)  : k101.M w base ok x [.string x.f0, .string x.f1] := ⟨[.string x.f0], [.string x.f1], rfl, rfl, rfl⟩
def rd_T101 (xs : List S101) (i : Int) : S101 := xs.getD i.toNat z101
theorem at_T101 {w : World} {A : Option Addr} {n : Nat} {xs : List S101} (h : Kd.C k101 w A n xs) (i : Int) (h0 : 0 ≤ i) (h1 : i < n) : ∃ ad , A = some ad ∧ w.cell? (ad.add (i.toNat * 2)) = some (.string (rd_T101 xs i).f0) ∧ w.cell? ⟨(ad.add (i.toNat * 2)).block, (ad.add (i.toNat * 2)).off + 1, none⟩ = some (.string (rd_T101 xs i).f1) := by
  obtain ⟨ad, c, e, _, hK, hc0⟩ := Kd.C_get h z101 i h0 h1
  have hc : ∀ j u, c[j]? = some u → w.cell? (ad.add (i.toNat * 2 + j)) = some u := hc0
  obtain rfl := k101_open hK
  exact ⟨ad, e, hc 0 _ rfl, by rw [← add_field _ _ 1 (by omega)]; exact hc 1 _ rfl⟩
structure S26 where
  f0 : ByteArray
  f1 : Int
  f2 : Int
  f3 : ByteArray
  f4 : (List ByteArray)
  f5 : (List S95)
  f6 : (List S98)
def z26 : S26 := ⟨(⟨#[]⟩ : ByteArray), (0 : Int), (0 : Int), (⟨#[]⟩ : ByteArray), ([] : List ByteArray), ([] : List S95), ([] : List S98)⟩
def k26 : Kd S26 := Kd.iso (Kd.pair Kd.string (Kd.pair (Kd.int .i64) (Kd.pair (Kd.int .i64) (Kd.pair Kd.string (Kd.pair (Kd.slice 9 Kd.string) (Kd.pair (Kd.slice 95 k95) (Kd.slice 98 k98))))))) (fun x : S26 => (x.f0, x.f1, x.f2, x.f3, x.f4, x.f5, x.f6))
theorem k26_open {w : World} {x : S26} {cs : List Value} (h : k26.K w x cs) : ∃ A4 c4 A5 c5 A6 c6, cs = [.string x.f0, .int .i64 x.f1, .int .i64 x.f2, .string x.f3, .slice A4 x.f4.length c4, .slice A5 x.f5.length c5, .slice A6 x.f6.length c6] ∧ x.f4.length ≤ c4 ∧ Kd.string.C w A4 x.f4.length x.f4 ∧ x.f5.length ≤ c5 ∧ k95.C w A5 x.f5.length x.f5 ∧ x.f6.length ≤ c6 ∧ k98.C w A6 x.f6.length x.f6 := by
  obtain ⟨_, _, rfl, rfl, ⟨_, _, rfl, rfl, ⟨_, _, rfl, rfl, ⟨_, _, rfl, rfl, ⟨_, _, rfl, ⟨A4, c4, rfl, l4, g4⟩, ⟨_, _, rfl, ⟨A5, c5, rfl, l5, g5⟩, ⟨A6, c6, rfl, l6, g6⟩⟩⟩⟩⟩⟩⟩ := h
  exact ⟨A4, c4, A5, c5, A6, c6, rfl, l4, g4, l5, g5, l6, g6⟩
def rd_T26 (xs : List S26) (i : Int) : S26 := xs.getD i.toNat z26
theorem at_T26 {w : World} {A : Option Addr} {n : Nat} {xs : List S26} (h : Kd.C k26 w A n xs) (i : Int) (h0 : 0 ≤ i) (h1 : i < n) : ∃ ad A4 c4 A5 c5 A6 c6, A = some ad ∧ w.cell? (ad.add (i.toNat * 7)) = some (.string (rd_T26 xs i).f0) ∧ w.cell? ⟨(ad.add (i.toNat * 7)).block, (ad.add (i.toNat * 7)).off + 1, none⟩ = some (.int .i64 (rd_T26 xs i).f1) ∧ w.cell? ⟨(ad.add (i.toNat * 7)).block, (ad.add (i.toNat * 7)).off + 2, none⟩ = some (.int .i64 (rd_T26 xs i).f2) ∧ w.cell? ⟨(ad.add (i.toNat * 7)).block, (ad.add (i.toNat * 7)).off + 3, none⟩ = some (.string (rd_T26 xs i).f3) ∧ w.cell? ⟨(ad.add (i.toNat * 7)).block, (ad.add (i.toNat * 7)).off + 4, none⟩ = some (.slice A4 (rd_T26 xs i).f4.length c4) ∧ w.cell? ⟨(ad.add (i.toNat * 7)).block, (ad.add (i.toNat * 7)).off + 5, none⟩ = some (.slice A5 (rd_T26 xs i).f5.length c5) ∧ w.cell? ⟨(ad.add (i.toNat * 7)).block, (ad.add (i.toNat * 7)).off + 6, none⟩ = some (.slice A6 (rd_T26 xs i).f6.length c6) ∧ (rd_T26 xs i).f4.length ≤ c4 ∧ Kd.string.C w A4 (rd_T26 xs i).f4.length (rd_T26 xs i).f4 ∧ (rd_T26 xs i).f5.length ≤ c5 ∧ k95.C w A5 (rd_T26 xs i).f5.length (rd_T26 xs i).f5 ∧ (rd_T26 xs i).f6.length ≤ c6 ∧ k98.C w A6 (rd_T26 xs i).f6.length (rd_T26 xs i).f6 := by
  obtain ⟨ad, c, e, _, hK, hc0⟩ := Kd.C_get h z26 i h0 h1
  have hc : ∀ j u, c[j]? = some u → w.cell? (ad.add (i.toNat * 7 + j)) = some u := hc0
  obtain ⟨A4, c4, A5, c5, A6, c6, rfl, l4, g4, l5, g5, l6, g6⟩ := k26_open hK
  exact ⟨ad, A4, c4, A5, c5, A6, c6, e, hc 0 _ rfl, by rw [← add_field _ _ 1 (by omega)]; exact hc 1 _ rfl, by rw [← add_field _ _ 2 (by omega)]; exact hc 2 _ rfl, by rw [← add_field _ _ 3 (by omega)]; exact hc 3 _ rfl, by rw [← add_field _ _ 4 (by omega)]; exact hc 4 _ rfl, by rw [← add_field _ _ 5 (by omega)]; exact hc 5 _ rfl, by rw [← add_field _ _ 6 (by omega)]; exact hc 6 _ rfl, l4, g4, l5, g5, l6, g6⟩
structure S32 where
  f0 : ByteArray
  f1 : Int
  f2 : Int
  f3 : ByteArray
  f4 : (List ByteArray)
  f5 : (List S99)
  f6 : (List S101)
def z32 : S32 := ⟨(⟨#[]⟩ : ByteArray), (0 : Int), (0 : Int), (⟨#[]⟩ : ByteArray), ([] : List ByteArray), ([] : List S99), ([] : List S101)⟩
def k32 : Kd S32 := Kd.iso (Kd.pair Kd.string (Kd.pair (Kd.int .i64) (Kd.pair (Kd.int .i64) (Kd.pair Kd.string (Kd.pair (Kd.slice 9 Kd.string) (Kd.pair (Kd.slice 99 k99) (Kd.slice 101 k101))))))) (fun x : S32 => (x.f0, x.f1, x.f2, x.f3, x.f4, x.f5, x.f6))
theorem k32_open {w : World} {x : S32} {cs : List Value} (h : k32.K w x cs) : ∃ A4 c4 A5 c5 A6 c6, cs = [.string x.f0, .int .i64 x.f1, .int .i64 x.f2, .string x.f3, .slice A4 x.f4.length c4, .slice A5 x.f5.length c5, .slice A6 x.f6.length c6] ∧ x.f4.length ≤ c4 ∧ Kd.string.C w A4 x.f4.length x.f4 ∧ x.f5.length ≤ c5 ∧ k99.C w A5 x.f5.length x.f5 ∧ x.f6.length ≤ c6 ∧ k101.C w A6 x.f6.length x.f6 := by
  obtain ⟨_, _, rfl, rfl, ⟨_, _, rfl, rfl, ⟨_, _, rfl, rfl, ⟨_, _, rfl, rfl, ⟨_, _, rfl, ⟨A4, c4, rfl, l4, g4⟩, ⟨_, _, rfl, ⟨A5, c5, rfl, l5, g5⟩, ⟨A6, c6, rfl, l6, g6⟩⟩⟩⟩⟩⟩⟩ := h
  exact ⟨A4, c4, A5, c5, A6, c6, rfl, l4, g4, l5, g5, l6, g6⟩
theorem k32_openM {w : World} {base : Nat} {ok : Nat → Prop} {x : S32} {cs : List Value} (h : k32.M w base ok x cs) : ∃ v4 v5 v6, cs = [.string x.f0, .int .i64 x.f1, .int .i64 x.f2, .string x.f3, v4, v5, v6] ∧ Kd.string.R 9 w base ok v4 x.f4 ∧ k99.R 99 w base ok v5 x.f5 ∧ k101.R 101 w base ok v6 x.f6 := by
  obtain ⟨_, _, rfl, rfl, ⟨_, _, rfl, rfl, ⟨_, _, rfl, rfl, ⟨_, _, rfl, rfl, ⟨_, _, rfl, ⟨v4, rfl, g4⟩, ⟨_, _, rfl, ⟨v5, rfl, g5⟩, ⟨v6, rfl, g6⟩⟩⟩⟩⟩⟩⟩ := h
  exact ⟨v4, v5, v6, rfl, g4, g5, g6⟩
theorem k32_mkM (w : World) (base : Nat) (ok : Nat → Prop) (x : S32) {v4 : Value} (g4 : Kd.string.R 9 w base ok v4 x.f4) {v5 : Value} (g5 : k99.R 99 w base ok v5 x.f5) {v6 : Value} (g6 : k101.R 101 w base ok v6 x.f6) : k32.M w base ok x [.string x.f0, .int .i64 x.f1, .int .i64 x.f2, .string x.f3, v4, v5, v6] := ⟨[.string x.f0], [.int .i64 x.f1, .int .i64 x.f2, .string x.f3, v4, v5, v6], rfl, rfl, ⟨[.int .i64 x.f1], [.int .i64 x.f2, .string x.f3, v4, v5, v6], rfl, rfl, ⟨[.int .i64 x.f2], [.string x.f3, v4, v5, v6], rfl, rfl, ⟨[.string x.f3], [v4, v5, v6], rfl, rfl, ⟨[v4], [v5, v6], rfl, ⟨v4, rfl, g4⟩, ⟨[v5], [v6], rfl, ⟨v5, rfl, g5⟩, ⟨v6, rfl, g6⟩⟩⟩⟩⟩⟩⟩
def rd_T32 (xs : List S32) (i : Int) : S32 := xs.getD i.toNat z32
theorem at_T32 {w : World} {A : Option Addr} {n : Nat} {xs : List S32} (h : Kd.C k32 w A n xs) (i : Int) (h0 : 0 ≤ i) (h1 : i < n) : ∃ ad A4 c4 A5 c5 A6 c6, A = some ad ∧ w.cell? (ad.add (i.toNat * 7)) = some (.string (rd_T32 xs i).f0) ∧ w.cell? ⟨(ad.add (i.toNat * 7)).block, (ad.add (i.toNat * 7)).off + 1, none⟩ = some (.int .i64 (rd_T32 xs i).f1) ∧ w.cell? ⟨(ad.add (i.toNat * 7)).block, (ad.add (i.toNat * 7)).off + 2, none⟩ = some (.int .i64 (rd_T32 xs i).f2) ∧ w.cell? ⟨(ad.add (i.toNat * 7)).block, (ad.add (i.toNat * 7)).off + 3, none⟩ = some (.string (rd_T32 xs i).f3) ∧ w.cell? ⟨(ad.add (i.toNat * 7)).block, (ad.add (i.toNat * 7)).off + 4, none⟩ = some (.slice A4 (rd_T32 xs i).f4.length c4) ∧ w.cell? ⟨(ad.add (i.toNat * 7)).block, (ad.add (i.toNat * 7)).off + 5, none⟩ = some (.slice A5 (rd_T32 xs i).f5.length c5) ∧ w.cell? ⟨(ad.add (i.toNat * 7)).block, (ad.add (i.toNat * 7)).off + 6, none⟩ = some (.slice A6 (rd_T32 xs i).f6.length c6) ∧ (rd_T32 xs i).f4.length ≤ c4 ∧ Kd.string.C w A4 (rd_T32 xs i).f4.length (rd_T32 xs i).f4 ∧ (rd_T32 xs i).f5.length ≤ c5 ∧ k99.C w A5 (rd_T32 xs i).f5.length (rd_T32 xs i).f5 ∧ (rd_T32 xs i).f6.length ≤ c6 ∧ k101.C w A6 (rd_T32 xs i).f6.length (rd_T32 xs i).f6 := by
  obtain ⟨ad, c, e, _, hK, hc0⟩ := Kd.C_get h z32 i h0 h1
  have hc : ∀ j u, c[j]? = some u → w.cell? (ad.add (i.toNat * 7 + j)) = some u := hc0
  obtain ⟨A4, c4, A5, c5, A6, c6, rfl, l4, g4, l5, g5, l6, g6⟩ := k32_open hK
  exact ⟨ad, A4, c4, A5, c5, A6, c6, e, hc 0 _ rfl, by rw [← add_field _ _ 1 (by omega)]; exact hc 1 _ rfl, by rw [← add_field _ _ 2 (by omega)]; exact hc 2 _ rfl, by rw [← add_field _ _ 3 (by omega)]; exact hc 3 _ rfl, by rw [← add_field _ _ 4 (by omega)]; exact hc 4 _ rfl, by rw [← add_field _ _ 5 (by omega)]; exact hc 5 _ rfl, by rw [← add_field _ _ 6 (by omega)]; exact hc 6 _ rfl, l4, g4, l5, g5, l6, g6⟩
structure S41 where
  f0 : Int
  f1 : (List S26)
def k41 : Kd S41 := Kd.iso (Kd.pair (Kd.int .i64) (Kd.slice 26 k26)) (fun x : S41 => (x.f0, x.f1))
theorem k41_open {w : World} {x : S41} {cs : List Value} (h : k41.K w x cs) : ∃ A1 c1, cs = [.int .i64 x.f0, .slice A1 x.f1.length c1] ∧ x.f1.length ≤ c1 ∧ k26.C w A1 x.f1.length x.f1 := by
  obtain ⟨_, _, rfl, rfl, ⟨A1, c1, rfl, l1, g1⟩⟩ := h
  exact ⟨A1, c1, rfl, l1, g1⟩
structure S46 where
  f0 : Int
  f1 : (List S32)
end Go.Proofs.Ytnkgmcgbbldkgaa.P
namespace Go.Proofs.Ytnkgmcgbbldkgaa.P
open Go.RowKit Go.Proofs.YtnkgmcgbbldkgaaW.PrintWords Go.Proofs.YtnkgmcgbbldkgaaW.PrintLast Go.Proofs.YtnkgmcgbbldkgaaW.PrintMore
attribute [local go_sem] max2_int min2_int max_two min_two max_three min_three max_four min_four   -- for this text's walks alone
set_option linter.unusedVariables false
set_option linter.unusedSimpArgs false
def laws_szStringS.l0 : Nat → List ByteArray → Int → Int → Option (Int)
  | 0, _, _, _ => none
  | k + 1, x0, x1, x5 => if x5 < (x0.length : Int) then (if 0 ≤ x5 then (if (wrap64 (x1 - ((rdOf ByteArray.empty x0 x5).size : Int))) < 0 then (some (-1)) else (laws_szStringS.l0 k x0 (wrap64 (x1 - ((rdOf ByteArray.empty x0 x5).size : Int))) (wrap64 (x5 + 1)))) else (none)) else (some x1)
def laws_szStringS.f (k : Nat) (l0 : List ByteArray) (a1 : Int) : Option (Int) := if (wrap64 (a1 - (l0.length : Int))) < 0 then (some (-1)) else (laws_szStringS.l0 k l0 (wrap64 (a1 - (l0.length : Int))) 0)
theorem laws_szStringS.mono_l : ∀ k, (∀ y0 y1 y2, LeO (laws_szStringS.l0 k y0 y1 y2) (laws_szStringS.l0 (k + 1) y0 y1 y2))
  | 0 => fun _ _ _ r h => by simp [laws_szStringS.l0] at h
  | k + 1 => by
    have ih0 := laws_szStringS.mono_l k
    · intro y0 y1 y2
      unfold laws_szStringS.l0
      repeat' first
      | (with_reducible first | exact ih0 _ _ _ | exact LeO.refl _ | exact LeO.none _ | refine LeO.ite ?_ ?_ | refine LeO.bind ?_ (fun _ => ?_))
theorem laws_szStringS.mono : ∀ a0 a1 k, LeO (laws_szStringS.f k a0 a1) (laws_szStringS.f (k + 1) a0 a1) := by
  intro a0 a1 k
  have ih0 := laws_szStringS.mono_l k
  unfold laws_szStringS.f
  repeat' first
      | (with_reducible first | exact ih0 _ _ _ | exact LeO.refl _ | exact LeO.none _ | refine LeO.ite ?_ ?_ | refine LeO.bind ?_ (fun _ => ?_))
def laws_szScore.f (a0_0 : ByteArray) (a0_1 : Int) (a1 : Int) : Option (Int) := if (wrap64 (a1 - (a0_0.size : Int))) < 0 then (some (-1)) else (some (wrap64 (a1 - (a0_0.size : Int))))
def laws_szScoreS.l0 : Nat → List (S95) → Int → Int → Option (Int)
  | 0, _, _, _ => none
  | k + 1, x0, x1, x5 => if x5 < (x0.length : Int) then (if 0 ≤ x5 then ((laws_szScore.f ((rd_T95 x0 x5).f0) ((rd_T95 x0 x5).f1) x1).bind fun t104 => (if t104 < 0 then (some (-1)) else (laws_szScoreS.l0 k x0 t104 (wrap64 (x5 + 1))))) else (none)) else (some x1)
def laws_szScoreS.f (k : Nat) (l0 : List (S95)) (a1 : Int) : Option (Int) := if (wrap64 (a1 - (l0.length : Int))) < 0 then (some (-1)) else (laws_szScoreS.l0 k l0 (wrap64 (a1 - (l0.length : Int))) 0)
theorem laws_szScoreS.mono_l : ∀ k, (∀ y0 y1 y2, LeO (laws_szScoreS.l0 k y0 y1 y2) (laws_szScoreS.l0 (k + 1) y0 y1 y2))
  | 0 => fun _ _ _ r h => by simp [laws_szScoreS.l0] at h
  | k + 1 => by
    have ih0 := laws_szScoreS.mono_l k
    · intro y0 y1 y2
      unfold laws_szScoreS.l0
      repeat' first
      | (with_reducible first | exact ih0 _ _ _ | exact LeO.refl _ | exact LeO.none _ | refine LeO.ite ?_ ?_ | refine LeO.bind ?_ (fun _ => ?_))
theorem laws_szScoreS.mono : ∀ a0 a1 k, LeO (laws_szScoreS.f k a0 a1) (laws_szScoreS.f (k + 1) a0 a1) := by
  intro a0 a1 k
  have ih0 := laws_szScoreS.mono_l k
  unfold laws_szScoreS.f
  repeat' first
      | (with_reducible first | exact ih0 _ _ _ | exact LeO.refl _ | exact LeO.none _ | refine LeO.ite ?_ ?_ | refine LeO.bind ?_ (fun _ => ?_))
def laws_szPair.f (a0_0 : ByteArray) (a0_1 : ByteArray) (a1 : Int) : Option (Int) := if (wrap64 (a1 - (a0_0.size : Int))) < 0 then (some (-1)) else (if (wrap64 ((wrap64 (a1 - (a0_0.size : Int))) - (a0_1.size : Int))) < 0 then (some (-1)) else (some (wrap64 ((wrap64 (a1 - (a0_0.size : Int))) - (a0_1.size : Int)))))
def laws_szPairS.l0 : Nat → List (S98) → Int → Int → Option (Int)
  | 0, _, _, _ => none
  | k + 1, x0, x1, x5 => if x5 < (x0.length : Int) then (if 0 ≤ x5 then ((laws_szPair.f ((rd_T98 x0 x5).f0) ((rd_T98 x0 x5).f1) x1).bind fun t107 => (if t107 < 0 then (some (-1)) else (laws_szPairS.l0 k x0 t107 (wrap64 (x5 + 1))))) else (none)) else (some x1)
def laws_szPairS.f (k : Nat) (l0 : List (S98)) (a1 : Int) : Option (Int) := if (wrap64 (a1 - (l0.length : Int))) < 0 then (some (-1)) else (laws_szPairS.l0 k l0 (wrap64 (a1 - (l0.length : Int))) 0)
theorem laws_szPairS.mono_l : ∀ k, (∀ y0 y1 y2, LeO (laws_szPairS.l0 k y0 y1 y2) (laws_szPairS.l0 (k + 1) y0 y1 y2))
  | 0 => fun _ _ _ r h => by simp [laws_szPairS.l0] at h
  | k + 1 => by
    have ih0 := laws_szPairS.mono_l k
    · intro y0 y1 y2
      unfold laws_szPairS.l0
      repeat' first
      | (with_reducible first | exact ih0 _ _ _ | exact LeO.refl _ | exact LeO.none _ | refine LeO.ite ?_ ?_ | refine LeO.bind ?_ (fun _ => ?_))
theorem laws_szPairS.mono : ∀ a0 a1 k, LeO (laws_szPairS.f k a0 a1) (laws_szPairS.f (k + 1) a0 a1) := by
  intro a0 a1 k
  have ih0 := laws_szPairS.mono_l k
  unfold laws_szPairS.f
  repeat' first
      | (with_reducible first | exact ih0 _ _ _ | exact LeO.refl _ | exact LeO.none _ | refine LeO.ite ?_ ?_ | refine LeO.bind ?_ (fun _ => ?_))
def laws_szEntry.f (k : Nat) (a0_0 : ByteArray) (a0_1 : Int) (a0_2 : Int) (a0_3 : ByteArray) (l0_4 : List ByteArray) (l0_5 : List (S95)) (l0_6 : List (S98)) (a1 : Int) : Option (Int) := if (wrap64 (a1 - (a0_0.size : Int))) < 0 then (some (-1)) else (if (wrap64 ((wrap64 (a1 - (a0_0.size : Int))) - (a0_3.size : Int))) < 0 then (some (-1)) else ((laws_szStringS.f k l0_4 (wrap64 ((wrap64 (a1 - (a0_0.size : Int))) - (a0_3.size : Int)))).bind fun t109 => (if t109 < 0 then (some (-1)) else ((laws_szScoreS.f k l0_5 t109).bind fun t110 => (if t110 < 0 then (some (-1)) else ((laws_szPairS.f k l0_6 t110).bind fun t111 => (if t111 < 0 then (some (-1)) else (some t111))))))))
theorem laws_szEntry.mono : ∀ a0 a1 a2 a3 a4 a5 a6 a7 k, LeO (laws_szEntry.f k a0 a1 a2 a3 a4 a5 a6 a7) (laws_szEntry.f (k + 1) a0 a1 a2 a3 a4 a5 a6 a7) := by
  intro a0 a1 a2 a3 a4 a5 a6 a7 k
  unfold laws_szEntry.f
  repeat' first
      | (with_reducible first | exact laws_szPairS.mono _ _ _ | exact laws_szScoreS.mono _ _ _ | exact laws_szStringS.mono _ _ _ | exact LeO.refl _ | exact LeO.none _ | refine LeO.ite ?_ ?_ | refine LeO.bind ?_ (fun _ => ?_))
def spec_l1In.f (a0 : Int) (a1 : Int) (a2 : Int) : Option (Bool) := if a0 ≥ a1 then (some (decide (a0 ≤ a2))) else (some false)
def spec_l4Key.f (a0 : ByteArray) : Option (Bool) := (spec_l1In.f (a0.size : Int) 1 12).bind fun t112 => (some t112)
def spec_l2Texts.l0 : Nat → List ByteArray → Int → Option (Bool)
  | 0, _, _ => none
  | k + 1, x0, x3 => if x3 < (x0.length : Int) then (if 0 ≤ x3 then (if ((rdOf ByteArray.empty x0 x3).size : Int) > 40 then (some false) else (spec_l2Texts.l0 k x0 (wrap64 (x3 + 1)))) else (none)) else (some (decide ((x0.length : Int) ≤ 16)))
def spec_l2Texts.f (k : Nat) (l0 : List ByteArray) : Option (Bool) := spec_l2Texts.l0 k l0 0
theorem spec_l2Texts.mono_l : ∀ k, (∀ y0 y1, LeO (spec_l2Texts.l0 k y0 y1) (spec_l2Texts.l0 (k + 1) y0 y1))
  | 0 => fun _ _ r h => by simp [spec_l2Texts.l0] at h
  | k + 1 => by
    have ih0 := spec_l2Texts.mono_l k
    · intro y0 y1
      unfold spec_l2Texts.l0
      repeat' first
      | (with_reducible first | exact ih0 _ _ | exact LeO.refl _ | exact LeO.none _ | refine LeO.ite ?_ ?_ | refine LeO.bind ?_ (fun _ => ?_))
theorem spec_l2Texts.mono : ∀ a0 k, LeO (spec_l2Texts.f k a0) (spec_l2Texts.f (k + 1) a0) := by
  intro a0 k
  have ih0 := spec_l2Texts.mono_l k
  unfold spec_l2Texts.f
  repeat' first
      | (with_reducible first | exact ih0 _ _ | exact LeO.refl _ | exact LeO.none _ | refine LeO.ite ?_ ?_ | refine LeO.bind ?_ (fun _ => ?_))
def spec_SetOk.l0 : Nat → List ByteArray → Int → Option (Bool)
  | 0, _, _ => none
  | k + 1, x0, x3 => if x3 < (x0.length : Int) then (if 0 ≤ (wrap64 (x3 - 1)) then (if (wrap64 (x3 - 1)) < (x0.length : Int) then (if 0 ≤ x3 then (if ((Op.bytesLess ((rdOf ByteArray.empty x0 (wrap64 (x3 - 1))).toList) ((rdOf ByteArray.empty x0 x3).toList)) = true) then (spec_SetOk.l0 k x0 (wrap64 (x3 + 1))) else (some false)) else (none)) else (none)) else (none)) else ((spec_l2Texts.f k x0).bind fun t116 => (some t116))
def spec_SetOk.f (k : Nat) (l0 : List ByteArray) : Option (Bool) := spec_SetOk.l0 k l0 1
theorem spec_SetOk.mono_l : ∀ k, (∀ y0 y1, LeO (spec_SetOk.l0 k y0 y1) (spec_SetOk.l0 (k + 1) y0 y1))
  | 0 => fun _ _ r h => by simp [spec_SetOk.l0] at h
  | k + 1 => by
    have ih0 := spec_SetOk.mono_l k
    · intro y0 y1
      unfold spec_SetOk.l0
      repeat' first
      | (with_reducible first | exact ih0 _ _ | exact spec_l2Texts.mono _ _ | exact LeO.refl _ | exact LeO.none _ | refine LeO.ite ?_ ?_ | refine LeO.bind ?_ (fun _ => ?_))
theorem spec_SetOk.mono : ∀ a0 k, LeO (spec_SetOk.f k a0) (spec_SetOk.f (k + 1) a0) := by
  intro a0 k
  have ih0 := spec_SetOk.mono_l k
  unfold spec_SetOk.f
  repeat' first
      | (with_reducible first | exact ih0 _ _ | exact spec_l2Texts.mono _ _ | exact LeO.refl _ | exact LeO.none _ | refine LeO.ite ?_ ?_ | refine LeO.bind ?_ (fun _ => ?_))
def spec_l3Ahead.f (a0_0 : ByteArray) (a0_1 : Int) (a1_0 : ByteArray) (a1_1 : Int) : Option (Bool) := if a0_1 < a1_1 then (some true) else (if a0_1 = a1_1 then (some (Op.bytesLess a0_0.toList a1_0.toList)) else (some false))
mutual
def spec_ScoresOk.l0 : Nat → List (S99) → Int → Option (Bool)
  | 0, _, _ => none
  | k + 1, x0, x3 => if x3 < (x0.length : Int) then (if 0 ≤ x3 then (if (((rd_T99 x0 x3).f0).size : Int) > 40 then (spec_ScoresOk.j1 k x0 x3 true) else ((spec_l1In.f ((rd_T99 x0 x3).f1) (-1000000000) 1000000000).bind fun t121 => (if t121 = true then (if x3 > 0 then (if 0 ≤ (wrap64 (x3 - 1)) then (if (wrap64 (x3 - 1)) < (x0.length : Int) then ((spec_l3Ahead.f ((rd_T99 x0 (wrap64 (x3 - 1))).f0) ((rd_T99 x0 (wrap64 (x3 - 1))).f1) ((rd_T99 x0 x3).f0) ((rd_T99 x0 x3).f1)).bind fun t124 => (spec_ScoresOk.j1 k x0 x3 (!t124))) else (none)) else (none)) else (spec_ScoresOk.j1 k x0 x3 false)) else (spec_ScoresOk.j1 k x0 x3 true)))) else (none)) else (some (decide ((x0.length : Int) ≤ 16)))
def spec_ScoresOk.j1 : Nat → List (S99) → Int → Bool → Option (Bool)
  | 0, _, _, _ => none
  | k + 1, x0, x3, x43 => if x43 = true then (some false) else (spec_ScoresOk.l1 k x0 x3 0)
def spec_ScoresOk.l1 : Nat → List (S99) → Int → Int → Option (Bool)
  | 0, _, _, _ => none
  | k + 1, x0, x3, x4 => if x4 < x3 then (if 0 ≤ x4 then (if x4 < (x0.length : Int) then (if 0 ≤ x3 then (if x3 < (x0.length : Int) then (if ((rd_T99 x0 x4).f0).toList = ((rd_T99 x0 x3).f0).toList then (some false) else (spec_ScoresOk.l1 k x0 x3 (wrap64 (x4 + 1)))) else (none)) else (none)) else (none)) else (none)) else (spec_ScoresOk.l0 k x0 (wrap64 (x3 + 1)))
end
def spec_ScoresOk.f (k : Nat) (l0 : List (S99)) : Option (Bool) := spec_ScoresOk.l0 k l0 0
theorem spec_ScoresOk.mono_l : ∀ k, (∀ y0 y1, LeO (spec_ScoresOk.l0 k y0 y1) (spec_ScoresOk.l0 (k + 1) y0 y1)) ∧ (∀ y0 y1 y2, LeO (spec_ScoresOk.j1 k y0 y1 y2) (spec_ScoresOk.j1 (k + 1) y0 y1 y2)) ∧ (∀ y0 y1 y2, LeO (spec_ScoresOk.l1 k y0 y1 y2) (spec_ScoresOk.l1 (k + 1) y0 y1 y2))
  | 0 => ⟨fun _ _ r h => by simp [spec_ScoresOk.l0] at h, fun _ _ _ r h => by simp [spec_ScoresOk.j1] at h, fun _ _ _ r h => by simp [spec_ScoresOk.l1] at h⟩
  | k + 1 => by
    obtain ⟨ih0, ih1, ih2⟩ := spec_ScoresOk.mono_l k
    refine ⟨?_, ?_, ?_⟩
    · intro y0 y1
      unfold spec_ScoresOk.l0
      repeat' first
      | (with_reducible first | exact ih0 _ _ | exact ih1 _ _ _ | exact ih2 _ _ _ | exact LeO.refl _ | exact LeO.none _ | refine LeO.ite ?_ ?_ | refine LeO.bind ?_ (fun _ => ?_))
    · intro y0 y1 y2
      unfold spec_ScoresOk.j1
      repeat' first
      | (with_reducible first | exact ih0 _ _ | exact ih1 _ _ _ | exact ih2 _ _ _ | exact LeO.refl _ | exact LeO.none _ | refine LeO.ite ?_ ?_ | refine LeO.bind ?_ (fun _ => ?_))
    · intro y0 y1 y2
      unfold spec_ScoresOk.l1
      repeat' first
      | (with_reducible first | exact ih0 _ _ | exact ih1 _ _ _ | exact ih2 _ _ _ | exact LeO.refl _ | exact LeO.none _ | refine LeO.ite ?_ ?_ | refine LeO.bind ?_ (fun _ => ?_))
theorem spec_ScoresOk.mono : ∀ a0 k, LeO (spec_ScoresOk.f k a0) (spec_ScoresOk.f (k + 1) a0) := by
  intro a0 k
  obtain ⟨ih0, ih1, ih2⟩ := spec_ScoresOk.mono_l k
  unfold spec_ScoresOk.f
  repeat' first
      | (with_reducible first | exact ih0 _ _ | exact ih1 _ _ _ | exact ih2 _ _ _ | exact LeO.refl _ | exact LeO.none _ | refine LeO.ite ?_ ?_ | refine LeO.bind ?_ (fun _ => ?_))
def spec_FieldsOk.l0 : Nat → List (S101) → Int → Option (Bool)
  | 0, _, _ => none
  | k + 1, x0, x3 => if x3 < (x0.length : Int) then (if 0 ≤ x3 then (if (((rd_T101 x0 x3).f0).size : Int) > 40 then (some false) else (if (((rd_T101 x0 x3).f1).size : Int) > 40 then (some false) else (if x3 > 0 then (if 0 ≤ (wrap64 (x3 - 1)) then (if (wrap64 (x3 - 1)) < (x0.length : Int) then (if ((Op.bytesLess (((rd_T101 x0 (wrap64 (x3 - 1))).f0).toList) (((rd_T101 x0 x3).f0).toList)) = true) then (spec_FieldsOk.l0 k x0 (wrap64 (x3 + 1))) else (some false)) else (none)) else (none)) else (spec_FieldsOk.l0 k x0 (wrap64 (x3 + 1)))))) else (none)) else (some (decide ((x0.length : Int) ≤ 16)))
def spec_FieldsOk.f (k : Nat) (l0 : List (S101)) : Option (Bool) := spec_FieldsOk.l0 k l0 0
theorem spec_FieldsOk.mono_l : ∀ k, (∀ y0 y1, LeO (spec_FieldsOk.l0 k y0 y1) (spec_FieldsOk.l0 (k + 1) y0 y1))
  | 0 => fun _ _ r h => by simp [spec_FieldsOk.l0] at h
  | k + 1 => by
    have ih0 := spec_FieldsOk.mono_l k
    · intro y0 y1
      unfold spec_FieldsOk.l0
      repeat' first
      | (with_reducible first | exact ih0 _ _ | exact LeO.refl _ | exact LeO.none _ | refine LeO.ite ?_ ?_ | refine LeO.bind ?_ (fun _ => ?_))
theorem spec_FieldsOk.mono : ∀ a0 k, LeO (spec_FieldsOk.f k a0) (spec_FieldsOk.f (k + 1) a0) := by
  intro a0 k
  have ih0 := spec_FieldsOk.mono_l k
  unfold spec_FieldsOk.f
  repeat' first
      | (with_reducible first | exact ih0 _ _ | exact LeO.refl _ | exact LeO.none _ | refine LeO.ite ?_ ?_ | refine LeO.bind ?_ (fun _ => ?_))
def spec_EntryOk.j0 : Nat → Bool → ByteArray → Int → Int → ByteArray → List ByteArray → List (S99) → List (S101) → Option (Bool)
  | 0, _, _, _, _, _, _, _, _ => none
  | k + 1, x16, x132000, x132001, x132002, x132003, x132004, x132005, x132006 => if x16 = true then (some false) else (if x132002 = 1 then (if (x132003.size : Int) ≤ 40 then (if (x132004.length : Int) = 0 then (if (x132005.length : Int) = 0 then (some ((x132006.length : Int) == 0)) else (some false)) else (some false)) else (some false)) else (if x132002 = 2 then (if x132003.toList = ([] : List UInt8) then (if ((x132004.length : Int) = 0) then (some false) else ((spec_l2Texts.f k x132004).bind fun t134 => (if t134 = true then (if (x132005.length : Int) = 0 then (some ((x132006.length : Int) == 0)) else (some false)) else (some false)))) else (some false)) else (if x132002 = 3 then (if x132003.toList = ([] : List UInt8) then (if ((x132004.length : Int) = 0) then (some false) else ((spec_SetOk.f k x132004).bind fun t135 => (if t135 = true then (if (x132005.length : Int) = 0 then (some ((x132006.length : Int) == 0)) else (some false)) else (some false)))) else (some false)) else (if x132002 = 4 then (if x132003.toList = ([] : List UInt8) then (if (x132004.length : Int) = 0 then (if ((x132005.length : Int) = 0) then (some false) else ((spec_ScoresOk.f k x132005).bind fun t136 => (if t136 = true then (some ((x132006.length : Int) == 0)) else (some false)))) else (some false)) else (some false)) else (if x132002 = 5 then (if x132003.toList = ([] : List UInt8) then (if (x132004.length : Int) = 0 then (if (x132005.length : Int) = 0 then (if ((x132006.length : Int) = 0) then (some false) else ((spec_FieldsOk.f k x132006).bind fun t137 => (some t137))) else (some false)) else (some false)) else (some false)) else (some false))))))
def spec_EntryOk.f (k : Nat) (a0_0 : ByteArray) (a0_1 : Int) (a0_2 : Int) (a0_3 : ByteArray) (l0_4 : List ByteArray) (l0_5 : List (S99)) (l0_6 : List (S101)) : Option (Bool) := (spec_l4Key.f a0_0).bind fun t132 => (if t132 = true then ((spec_l1In.f a0_1 0 2000000).bind fun t133 => (spec_EntryOk.j0 k (!t133) a0_0 a0_1 a0_2 a0_3 l0_4 l0_5 l0_6)) else (spec_EntryOk.j0 k true a0_0 a0_1 a0_2 a0_3 l0_4 l0_5 l0_6))
theorem spec_EntryOk.mono_l : ∀ k, (∀ y0 y1 y2 y3 y4 y5 y6 y7, LeO (spec_EntryOk.j0 k y0 y1 y2 y3 y4 y5 y6 y7) (spec_EntryOk.j0 (k + 1) y0 y1 y2 y3 y4 y5 y6 y7))
  | 0 => fun _ _ _ _ _ _ _ _ r h => by simp [spec_EntryOk.j0] at h
  | k + 1 => by
    have ih0 := spec_EntryOk.mono_l k
    · intro y0 y1 y2 y3 y4 y5 y6 y7
      unfold spec_EntryOk.j0
      repeat' first
      | (with_reducible first | exact ih0 _ _ _ _ _ _ _ _ | exact spec_FieldsOk.mono _ _ | exact spec_ScoresOk.mono _ _ | exact spec_SetOk.mono _ _ | exact spec_l2Texts.mono _ _ | exact LeO.refl _ | exact LeO.none _ | refine LeO.ite ?_ ?_ | refine LeO.bind ?_ (fun _ => ?_))
theorem spec_EntryOk.mono : ∀ a0 a1 a2 a3 a4 a5 a6 k, LeO (spec_EntryOk.f k a0 a1 a2 a3 a4 a5 a6) (spec_EntryOk.f (k + 1) a0 a1 a2 a3 a4 a5 a6) := by
  intro a0 a1 a2 a3 a4 a5 a6 k
  have ih0 := spec_EntryOk.mono_l k
  unfold spec_EntryOk.f
  repeat' first
      | (with_reducible first | exact ih0 _ _ _ _ _ _ _ _ | exact spec_FieldsOk.mono _ _ | exact spec_ScoresOk.mono _ _ | exact spec_SetOk.mono _ _ | exact spec_l2Texts.mono _ _ | exact LeO.refl _ | exact LeO.none _ | refine LeO.ite ?_ ?_ | refine LeO.bind ?_ (fun _ => ?_))
def laws_toStringS.l0 : Nat → List ByteArray → List ByteArray → Int → Option (List ByteArray)
  | 0, _, _, _ => none
  | k + 1, x0, x3, x4 => if x4 < (x0.length : Int) then (if 0 ≤ x4 then (if x4 < (x3.length : Int) then (laws_toStringS.l0 k x0 (x3.set (x4 : Int).toNat (rdOf ByteArray.empty x0 x4)) (wrap64 (x4 + 1))) else (none)) else (none)) else (some x3)
def laws_toStringS.f (k : Nat) (l0 : List ByteArray) : Option (List ByteArray) := if 0 ≤ (l0.length : Int) then (if ((l0.length : Int) : Int).toNat ≤ 17592186044416 then (laws_toStringS.l0 k l0 (List.replicate ((l0.length : Int) : Int).toNat (⟨#[]⟩ : ByteArray)) 0) else (none)) else (none)
theorem laws_toStringS.mono_l : ∀ k, (∀ y0 y1 y2, LeO (laws_toStringS.l0 k y0 y1 y2) (laws_toStringS.l0 (k + 1) y0 y1 y2))
  | 0 => fun _ _ _ r h => by simp [laws_toStringS.l0] at h
  | k + 1 => by
    have ih0 := laws_toStringS.mono_l k
    · intro y0 y1 y2
      unfold laws_toStringS.l0
      repeat' first
      | (with_reducible first | exact ih0 _ _ _ | exact LeO.refl _ | exact LeO.none _ | refine LeO.ite ?_ ?_ | refine LeO.bind ?_ (fun _ => ?_))
theorem laws_toStringS.mono : ∀ a0 k, LeO (laws_toStringS.f k a0) (laws_toStringS.f (k + 1) a0) := by
  intro a0 k
  have ih0 := laws_toStringS.mono_l k
  unfold laws_toStringS.f
  repeat' first
      | (with_reducible first | exact ih0 _ _ _ | exact LeO.refl _ | exact LeO.none _ | refine LeO.ite ?_ ?_ | refine LeO.bind ?_ (fun _ => ?_))
def laws_toScore.f (a0_0 : ByteArray) (a0_1 : Int) : Option (ByteArray × Int) := some (a0_0, a0_1)
def laws_toScoreS.l0 : Nat → List (S95) → List (S99) → Int → Option ((List (S99)))
  | 0, _, _, _ => none
  | k + 1, x0, x3, x4 => if x4 < (x0.length : Int) then (if 0 ≤ x4 then ((laws_toScore.f ((rd_T95 x0 x4).f0) ((rd_T95 x0 x4).f1)).bind fun bt150 => (if x4 < (x3.length : Int) then (laws_toScoreS.l0 k x0 (x3.set (x4 : Int).toNat (⟨bt150.1, bt150.2⟩ : S99)) (wrap64 (x4 + 1))) else (none))) else (none)) else (some x3)
def laws_toScoreS.f (k : Nat) (l0 : List (S95)) : Option ((List (S99))) := if 0 ≤ (l0.length : Int) then (if ((l0.length : Int) : Int).toNat ≤ 11728124029610 then (laws_toScoreS.l0 k l0 (List.replicate ((l0.length : Int) : Int).toNat z99) 0) else (none)) else (none)
theorem laws_toScoreS.mono_l : ∀ k, (∀ y0 y1 y2, LeO (laws_toScoreS.l0 k y0 y1 y2) (laws_toScoreS.l0 (k + 1) y0 y1 y2))
  | 0 => fun _ _ _ r h => by simp [laws_toScoreS.l0] at h
  | k + 1 => by
    have ih0 := laws_toScoreS.mono_l k
    · intro y0 y1 y2
      unfold laws_toScoreS.l0
      repeat' first
      | (with_reducible first | exact ih0 _ _ _ | exact LeO.refl _ | exact LeO.none _ | refine LeO.ite ?_ ?_ | refine LeO.bind ?_ (fun _ => ?_))
theorem laws_toScoreS.mono : ∀ a0 k, LeO (laws_toScoreS.f k a0) (laws_toScoreS.f (k + 1) a0) := by
  intro a0 k
  have ih0 := laws_toScoreS.mono_l k
  unfold laws_toScoreS.f
  repeat' first
      | (with_reducible first | exact ih0 _ _ _ | exact LeO.refl _ | exact LeO.none _ | refine LeO.ite ?_ ?_ | refine LeO.bind ?_ (fun _ => ?_))
def laws_toPair.f (a0_0 : ByteArray) (a0_1 : ByteArray) : Option (ByteArray × ByteArray) := some (a0_0, a0_1)
def laws_toPairS.l0 : Nat → List (S98) → List (S101) → Int → Option ((List (S101)))
  | 0, _, _, _ => none
  | k + 1, x0, x3, x4 => if x4 < (x0.length : Int) then (if 0 ≤ x4 then ((laws_toPair.f ((rd_T98 x0 x4).f0) ((rd_T98 x0 x4).f1)).bind fun bt160 => (if x4 < (x3.length : Int) then (laws_toPairS.l0 k x0 (x3.set (x4 : Int).toNat (⟨bt160.1, bt160.2⟩ : S101)) (wrap64 (x4 + 1))) else (none))) else (none)) else (some x3)
def laws_toPairS.f (k : Nat) (l0 : List (S98)) : Option ((List (S101))) := if 0 ≤ (l0.length : Int) then (if ((l0.length : Int) : Int).toNat ≤ 8796093022208 then (laws_toPairS.l0 k l0 (List.replicate ((l0.length : Int) : Int).toNat z101) 0) else (none)) else (none)
theorem laws_toPairS.mono_l : ∀ k, (∀ y0 y1 y2, LeO (laws_toPairS.l0 k y0 y1 y2) (laws_toPairS.l0 (k + 1) y0 y1 y2))
  | 0 => fun _ _ _ r h => by simp [laws_toPairS.l0] at h
  | k + 1 => by
    have ih0 := laws_toPairS.mono_l k
    · intro y0 y1 y2
      unfold laws_toPairS.l0
      repeat' first
      | (with_reducible first | exact ih0 _ _ _ | exact LeO.refl _ | exact LeO.none _ | refine LeO.ite ?_ ?_ | refine LeO.bind ?_ (fun _ => ?_))
theorem laws_toPairS.mono : ∀ a0 k, LeO (laws_toPairS.f k a0) (laws_toPairS.f (k + 1) a0) := by
  intro a0 k
  have ih0 := laws_toPairS.mono_l k
  unfold laws_toPairS.f
  repeat' first
      | (with_reducible first | exact ih0 _ _ _ | exact LeO.refl _ | exact LeO.none _ | refine LeO.ite ?_ ?_ | refine LeO.bind ?_ (fun _ => ?_))
def laws_toEntry.f (k : Nat) (a0_0 : ByteArray) (a0_1 : Int) (a0_2 : Int) (a0_3 : ByteArray) (l0_4 : List ByteArray) (l0_5 : List (S95)) (l0_6 : List (S98)) : Option (ByteArray × Int × Int × ByteArray × List ByteArray × (List (S99)) × (List (S101))) := (laws_toStringS.f k l0_4).bind fun t166 => ((laws_toScoreS.f k l0_5).bind fun t169 => ((laws_toPairS.f k l0_6).bind fun t172 => (some (a0_0, a0_1, a0_2, a0_3, t166, t169, t172))))
theorem laws_toEntry.mono : ∀ a0 a1 a2 a3 a4 a5 a6 k, LeO (laws_toEntry.f k a0 a1 a2 a3 a4 a5 a6) (laws_toEntry.f (k + 1) a0 a1 a2 a3 a4 a5 a6) := by
  intro a0 a1 a2 a3 a4 a5 a6 k
  unfold laws_toEntry.f
  repeat' first
      | (with_reducible first | exact laws_toPairS.mono _ _ | exact laws_toScoreS.mono _ _ | exact laws_toStringS.mono _ _ | exact LeO.refl _ | exact LeO.none _ | refine LeO.ite ?_ ?_ | refine LeO.bind ?_ (fun _ => ?_))
def impl_within.f (a0 : Int) (a1 : Int) (a2 : Int) : Option (Bool) := if a0 ≥ a1 then (some (decide (a0 ≤ a2))) else (some false)
def impl_keyOk.f (a0 : ByteArray) : Option (Bool) := (impl_within.f (a0.size : Int) 1 12).bind fun t175 => (some t175)
def impl_textsOk.l0 : Nat → List ByteArray → Int → List ByteArray → Int → Int → Option (Bool)
  | 0, _, _, _, _, _ => none
  | k + 1, x0, x1, x7, x8, x9 => if x9 < x8 then (if 0 ≤ x9 then (if x9 < (x7.length : Int) then (if ((rdOf ByteArray.empty x7 x9).size : Int) > 40 then (some false) else (impl_textsOk.l0 k x0 x1 x7 x8 (wrap64 (x9 + 1)))) else (none)) else (none)) else (some (decide ((x0.length : Int) ≤ x1)))
def impl_textsOk.f (k : Nat) (l0 : List ByteArray) (a1 : Int) : Option (Bool) := impl_textsOk.l0 k l0 a1 l0 (l0.length : Int) 0
theorem impl_textsOk.mono_l : ∀ k, (∀ y0 y1 y2 y3 y4, LeO (impl_textsOk.l0 k y0 y1 y2 y3 y4) (impl_textsOk.l0 (k + 1) y0 y1 y2 y3 y4))
  | 0 => fun _ _ _ _ _ r h => by simp [impl_textsOk.l0] at h
  | k + 1 => by
    have ih0 := impl_textsOk.mono_l k
    · intro y0 y1 y2 y3 y4
      unfold impl_textsOk.l0
      repeat' first
      | (with_reducible first | exact ih0 _ _ _ _ _ | exact LeO.refl _ | exact LeO.none _ | refine LeO.ite ?_ ?_ | refine LeO.bind ?_ (fun _ => ?_))
theorem impl_textsOk.mono : ∀ a0 a1 k, LeO (impl_textsOk.f k a0 a1) (impl_textsOk.f (k + 1) a0 a1) := by
  intro a0 a1 k
  have ih0 := impl_textsOk.mono_l k
  unfold impl_textsOk.f
  repeat' first
      | (with_reducible first | exact ih0 _ _ _ _ _ | exact LeO.refl _ | exact LeO.none _ | refine LeO.ite ?_ ?_ | refine LeO.bind ?_ (fun _ => ?_))
def impl_listOk.f (k : Nat) (l0 : List ByteArray) : Option (Bool) := (impl_textsOk.f k l0 16).bind fun t177 => (some t177)
theorem impl_listOk.mono : ∀ a0 k, LeO (impl_listOk.f k a0) (impl_listOk.f (k + 1) a0) := by
  intro a0 k
  unfold impl_listOk.f
  repeat' first
      | (with_reducible first | exact impl_textsOk.mono _ _ _ | exact LeO.refl _ | exact LeO.none _ | refine LeO.ite ?_ ?_ | refine LeO.bind ?_ (fun _ => ?_))
def impl_SetOk.l0 : Nat → List ByteArray → Int → Option (Bool)
  | 0, _, _ => none
  | k + 1, x0, x3 => if x3 < (x0.length : Int) then (if 0 ≤ (wrap64 (x3 - 1)) then (if (wrap64 (x3 - 1)) < (x0.length : Int) then (if 0 ≤ x3 then (if ((Op.bytesLess ((rdOf ByteArray.empty x0 (wrap64 (x3 - 1))).toList) ((rdOf ByteArray.empty x0 x3).toList)) = true) then (impl_SetOk.l0 k x0 (wrap64 (x3 + 1))) else (some false)) else (none)) else (none)) else (none)) else ((impl_listOk.f k x0).bind fun t180 => (some t180))
def impl_SetOk.f (k : Nat) (l0 : List ByteArray) : Option (Bool) := impl_SetOk.l0 k l0 1
theorem impl_SetOk.mono_l : ∀ k, (∀ y0 y1, LeO (impl_SetOk.l0 k y0 y1) (impl_SetOk.l0 (k + 1) y0 y1))
  | 0 => fun _ _ r h => by simp [impl_SetOk.l0] at h
  | k + 1 => by
    have ih0 := impl_SetOk.mono_l k
    · intro y0 y1
      unfold impl_SetOk.l0
      repeat' first
      | (with_reducible first | exact ih0 _ _ | exact impl_listOk.mono _ _ | exact LeO.refl _ | exact LeO.none _ | refine LeO.ite ?_ ?_ | refine LeO.bind ?_ (fun _ => ?_))
theorem impl_SetOk.mono : ∀ a0 k, LeO (impl_SetOk.f k a0) (impl_SetOk.f (k + 1) a0) := by
  intro a0 k
  have ih0 := impl_SetOk.mono_l k
  unfold impl_SetOk.f
  repeat' first
      | (with_reducible first | exact ih0 _ _ | exact impl_listOk.mono _ _ | exact LeO.refl _ | exact LeO.none _ | refine LeO.ite ?_ ?_ | refine LeO.bind ?_ (fun _ => ?_))
def impl_position.f (a0 : Int) : Option (Bool) := (impl_within.f a0 (-1000000000) 1000000000).bind fun t181 => (some t181)
def cmp_Or_int.l0 : Nat → Int → List Int → Int → Int → Option (Int)
  | 0, _, _, _, _ => none
  | k + 1, x3, x6, x7, x8 => if x8 < x7 then (if 0 ≤ x8 then (if x8 < (x6.length : Int) then (if (rd x6 x8) = x3 then (cmp_Or_int.l0 k x3 x6 x7 (wrap64 (x8 + 1))) else (some (rd x6 x8))) else (none)) else (none)) else (some x3)
def cmp_Or_int.f (k : Nat) (l0 : List Int) : Option (Int) := cmp_Or_int.l0 k 0 l0 (l0.length : Int) 0
theorem cmp_Or_int.mono_l : ∀ k, (∀ y0 y1 y2 y3, LeO (cmp_Or_int.l0 k y0 y1 y2 y3) (cmp_Or_int.l0 (k + 1) y0 y1 y2 y3))
  | 0 => fun _ _ _ _ r h => by simp [cmp_Or_int.l0] at h
  | k + 1 => by
    have ih0 := cmp_Or_int.mono_l k
    · intro y0 y1 y2 y3
      unfold cmp_Or_int.l0
      repeat' first
      | (with_reducible first | exact ih0 _ _ _ _ | exact LeO.refl _ | exact LeO.none _ | refine LeO.ite ?_ ?_ | refine LeO.bind ?_ (fun _ => ?_))
theorem cmp_Or_int.mono : ∀ a0 k, LeO (cmp_Or_int.f k a0) (cmp_Or_int.f (k + 1) a0) := by
  intro a0 k
  have ih0 := cmp_Or_int.mono_l k
  unfold cmp_Or_int.f
  repeat' first
      | (with_reducible first | exact ih0 _ _ _ _ | exact LeO.refl _ | exact LeO.none _ | refine LeO.ite ?_ ?_ | refine LeO.bind ?_ (fun _ => ?_))
def cmp_isNaN_int.f (a0 : Int) : Option (Bool) := some (a0 != a0)
def cmp_Compare_int.f (a0 : Int) (a1 : Int) : Option (Int) := (cmp_isNaN_int.f a0).bind fun t183 => ((cmp_isNaN_int.f a1).bind fun t184 => (if t183 = true then (if t184 = true then (some 0) else (some (-1))) else (if t184 = true then (some 1) else (if a0 < a1 then (some (-1)) else (if a0 > a1 then (some 1) else (some 0))))))
def cmp_isNaN_string.f (a0 : ByteArray) : Option (Bool) := some (a0.toList != a0.toList)
def cmp_Compare_string.f (a0 : ByteArray) (a1 : ByteArray) : Option (Int) := (cmp_isNaN_string.f a0).bind fun t185 => ((cmp_isNaN_string.f a1).bind fun t186 => (if t185 = true then (if t186 = true then (some 0) else (some (-1))) else (if t186 = true then (some 1) else (if (Op.bytesLess a0.toList a1.toList) = true then (some (-1)) else (if (Op.bytesLess a1.toList a0.toList) = true then (some 1) else (some 0))))))
def impl_scoreOrder.f (k : Nat) (a0_0 : ByteArray) (a0_1 : Int) (a1_0 : ByteArray) (a1_1 : Int) : Option (Int) := (cmp_Compare_int.f a0_1 a1_1).bind fun t189 => ((cmp_Compare_string.f a0_0 a1_0).bind fun t190 => ((cmp_Or_int.f k (([t189, t190] : List Int))).bind fun t194 => (some t194)))
theorem impl_scoreOrder.mono : ∀ a0 a1 a2 a3 k, LeO (impl_scoreOrder.f k a0 a1 a2 a3) (impl_scoreOrder.f (k + 1) a0 a1 a2 a3) := by
  intro a0 a1 a2 a3 k
  unfold impl_scoreOrder.f
  repeat' first
      | (with_reducible first | exact cmp_Or_int.mono _ _ | exact LeO.refl _ | exact LeO.none _ | refine LeO.ite ?_ ?_ | refine LeO.bind ?_ (fun _ => ?_))
def impl_scoreAt.from (t : ByteArray) : List S99 → Nat → Int
  | [], _ => -1
  | x :: r, i => if x.f0.toList = t.toList then (i : Int) else impl_scoreAt.from t r (i + 1)
def impl_scoreAt.f (l0 : List S99) (a1 : ByteArray) : Option Int := some (impl_scoreAt.from a1 l0 0)
def impl_ScoresOk.l0 : Nat → List (S99) → List (S99) → Int → Int → Option (Bool)
  | 0, _, _, _, _ => none
  | k + 1, x0, x5, x6, x7 => if x7 < x6 then (if 0 ≤ x7 then (if x7 < (x5.length : Int) then (if (((rd_T99 x5 x7).f0).size : Int) > 40 then (some false) else ((impl_position.f ((rd_T99 x5 x7).f1)).bind fun t197 => (if t197 = true then (if x7 > 0 then (if 0 ≤ (wrap64 (x7 - 1)) then (if (wrap64 (x7 - 1)) < (x0.length : Int) then ((impl_scoreOrder.f k ((rd_T99 x0 (wrap64 (x7 - 1))).f0) ((rd_T99 x0 (wrap64 (x7 - 1))).f1) ((rd_T99 x5 x7).f0) ((rd_T99 x5 x7).f1)).bind fun t199 => (if t199 ≥ 0 then (some false) else ((impl_scoreAt.f x0 ((rd_T99 x5 x7).f0)).bind fun t200 => (if t200 = x7 then (impl_ScoresOk.l0 k x0 x5 x6 (wrap64 (x7 + 1))) else (some false))))) else (none)) else (none)) else ((impl_scoreAt.f x0 ((rd_T99 x5 x7).f0)).bind fun t201 => (if t201 = x7 then (impl_ScoresOk.l0 k x0 x5 x6 (wrap64 (x7 + 1))) else (some false)))) else (some false)))) else (none)) else (none)) else (some (decide ((x0.length : Int) ≤ 16)))
def impl_ScoresOk.f (k : Nat) (l0 : List (S99)) : Option (Bool) := impl_ScoresOk.l0 k l0 l0 (l0.length : Int) 0
theorem impl_ScoresOk.mono_l : ∀ k, (∀ y0 y1 y2 y3, LeO (impl_ScoresOk.l0 k y0 y1 y2 y3) (impl_ScoresOk.l0 (k + 1) y0 y1 y2 y3))
  | 0 => fun _ _ _ _ r h => by simp [impl_ScoresOk.l0] at h
  | k + 1 => by
    have ih0 := impl_ScoresOk.mono_l k
    · intro y0 y1 y2 y3
      unfold impl_ScoresOk.l0
      repeat' first
      | (with_reducible first | exact ih0 _ _ _ _ | exact impl_scoreOrder.mono _ _ _ _ _ | exact LeO.refl _ | exact LeO.none _ | refine LeO.ite ?_ ?_ | refine LeO.bind ?_ (fun _ => ?_))
theorem impl_ScoresOk.mono : ∀ a0 k, LeO (impl_ScoresOk.f k a0) (impl_ScoresOk.f (k + 1) a0) := by
  intro a0 k
  have ih0 := impl_ScoresOk.mono_l k
  unfold impl_ScoresOk.f
  repeat' first
      | (with_reducible first | exact ih0 _ _ _ _ | exact impl_scoreOrder.mono _ _ _ _ _ | exact LeO.refl _ | exact LeO.none _ | refine LeO.ite ?_ ?_ | refine LeO.bind ?_ (fun _ => ?_))
def impl_FieldsOk.l0 : Nat → List (S101) → List (S101) → Int → Int → Option (Bool)
  | 0, _, _, _, _ => none
  | k + 1, x0, x5, x6, x7 => if x7 < x6 then (if 0 ≤ x7 then (if x7 < (x5.length : Int) then (if (((rd_T101 x5 x7).f0).size : Int) > 40 then (some false) else (if (((rd_T101 x5 x7).f1).size : Int) > 40 then (some false) else (if x7 > 0 then (if 0 ≤ (wrap64 (x7 - 1)) then (if (wrap64 (x7 - 1)) < (x0.length : Int) then (if ((Op.bytesLess (((rd_T101 x0 (wrap64 (x7 - 1))).f0).toList) (((rd_T101 x5 x7).f0).toList)) = true) then (impl_FieldsOk.l0 k x0 x5 x6 (wrap64 (x7 + 1))) else (some false)) else (none)) else (none)) else (impl_FieldsOk.l0 k x0 x5 x6 (wrap64 (x7 + 1)))))) else (none)) else (none)) else (some (decide ((x0.length : Int) ≤ 16)))
def impl_FieldsOk.f (k : Nat) (l0 : List (S101)) : Option (Bool) := impl_FieldsOk.l0 k l0 l0 (l0.length : Int) 0
theorem impl_FieldsOk.mono_l : ∀ k, (∀ y0 y1 y2 y3, LeO (impl_FieldsOk.l0 k y0 y1 y2 y3) (impl_FieldsOk.l0 (k + 1) y0 y1 y2 y3))
  | 0 => fun _ _ _ _ r h => by simp [impl_FieldsOk.l0] at h
  | k + 1 => by
    have ih0 := impl_FieldsOk.mono_l k
    · intro y0 y1 y2 y3
      unfold impl_FieldsOk.l0
      repeat' first
      | (with_reducible first | exact ih0 _ _ _ _ | exact LeO.refl _ | exact LeO.none _ | refine LeO.ite ?_ ?_ | refine LeO.bind ?_ (fun _ => ?_))
theorem impl_FieldsOk.mono : ∀ a0 k, LeO (impl_FieldsOk.f k a0) (impl_FieldsOk.f (k + 1) a0) := by
  intro a0 k
  have ih0 := impl_FieldsOk.mono_l k
  unfold impl_FieldsOk.f
  repeat' first
      | (with_reducible first | exact ih0 _ _ _ _ | exact LeO.refl _ | exact LeO.none _ | refine LeO.ite ?_ ?_ | refine LeO.bind ?_ (fun _ => ?_))
def impl_EntryOk.j0 : Nat → Bool → ByteArray → Int → Int → ByteArray → List ByteArray → List (S99) → List (S101) → Option (Bool)
  | 0, _, _, _, _, _, _, _, _ => none
  | k + 1, x16, x206000, x206001, x206002, x206003, x206004, x206005, x206006 => if x16 = true then (some false) else (if x206002 = 1 then (if (x206003.size : Int) ≤ 40 then (if ((x206004.length : Int) > 0) then (some false) else (if ((x206005.length : Int) > 0) then (some false) else (some (!(decide ((x206006.length : Int) > 0)))))) else (some false)) else (if x206002 = 2 then (if (x206004.length : Int) > 0 then ((impl_listOk.f k x206004).bind fun t208 => (if t208 = true then (if (¬ x206003.toList = ([] : List UInt8)) then (some false) else (if ((x206005.length : Int) > 0) then (some false) else (some (!(decide ((x206006.length : Int) > 0)))))) else (some false))) else (some false)) else (if x206002 = 3 then (if (x206004.length : Int) > 0 then ((impl_SetOk.f k x206004).bind fun t209 => (if t209 = true then (if (¬ x206003.toList = ([] : List UInt8)) then (some false) else (if ((x206005.length : Int) > 0) then (some false) else (some (!(decide ((x206006.length : Int) > 0)))))) else (some false))) else (some false)) else (if x206002 = 4 then (if (x206005.length : Int) > 0 then ((impl_ScoresOk.f k x206005).bind fun t210 => (if t210 = true then (if (¬ x206003.toList = ([] : List UInt8)) then (some false) else (if ((x206004.length : Int) > 0) then (some false) else (some (!(decide ((x206006.length : Int) > 0)))))) else (some false))) else (some false)) else (if x206002 = 5 then (if (x206006.length : Int) > 0 then ((impl_FieldsOk.f k x206006).bind fun t211 => (if t211 = true then (if (¬ x206003.toList = ([] : List UInt8)) then (some false) else (if ((x206004.length : Int) > 0) then (some false) else (some (!(decide ((x206005.length : Int) > 0)))))) else (some false))) else (some false)) else (some false))))))
def impl_EntryOk.f (k : Nat) (a0_0 : ByteArray) (a0_1 : Int) (a0_2 : Int) (a0_3 : ByteArray) (l0_4 : List ByteArray) (l0_5 : List (S99)) (l0_6 : List (S101)) : Option (Bool) := (impl_keyOk.f a0_0).bind fun t206 => (if t206 = true then ((impl_within.f a0_1 0 2000000).bind fun t207 => (impl_EntryOk.j0 k (!t207) a0_0 a0_1 a0_2 a0_3 l0_4 l0_5 l0_6)) else (impl_EntryOk.j0 k true a0_0 a0_1 a0_2 a0_3 l0_4 l0_5 l0_6))
theorem impl_EntryOk.mono_l : ∀ k, (∀ y0 y1 y2 y3 y4 y5 y6 y7, LeO (impl_EntryOk.j0 k y0 y1 y2 y3 y4 y5 y6 y7) (impl_EntryOk.j0 (k + 1) y0 y1 y2 y3 y4 y5 y6 y7))
  | 0 => fun _ _ _ _ _ _ _ _ r h => by simp [impl_EntryOk.j0] at h
  | k + 1 => by
    have ih0 := impl_EntryOk.mono_l k
    · intro y0 y1 y2 y3 y4 y5 y6 y7
      unfold impl_EntryOk.j0
      repeat' first
      | (with_reducible first | exact ih0 _ _ _ _ _ _ _ _ | exact impl_FieldsOk.mono _ _ | exact impl_ScoresOk.mono _ _ | exact impl_SetOk.mono _ _ | exact impl_listOk.mono _ _ | exact LeO.refl _ | exact LeO.none _ | refine LeO.ite ?_ ?_ | refine LeO.bind ?_ (fun _ => ?_))
theorem impl_EntryOk.mono : ∀ a0 a1 a2 a3 a4 a5 a6 k, LeO (impl_EntryOk.f k a0 a1 a2 a3 a4 a5 a6) (impl_EntryOk.f (k + 1) a0 a1 a2 a3 a4 a5 a6) := by
  intro a0 a1 a2 a3 a4 a5 a6 k
  have ih0 := impl_EntryOk.mono_l k
  unfold impl_EntryOk.f
  repeat' first
      | (with_reducible first | exact ih0 _ _ _ _ _ _ _ _ | exact impl_FieldsOk.mono _ _ | exact impl_ScoresOk.mono _ _ | exact impl_SetOk.mono _ _ | exact impl_listOk.mono _ _ | exact LeO.refl _ | exact LeO.none _ | refine LeO.ite ?_ ?_ | refine LeO.bind ?_ (fun _ => ?_))
def laws_eqStringS.l0 : Nat → List ByteArray → List ByteArray → Int → Option (Bool)
  | 0, _, _, _ => none
  | k + 1, x0, x1, x5 => if x5 < (x0.length : Int) then (if 0 ≤ x5 then (if x5 < (x1.length : Int) then (if (rdOf ByteArray.empty x0 x5).toList = (rdOf ByteArray.empty x1 x5).toList then (laws_eqStringS.l0 k x0 x1 (wrap64 (x5 + 1))) else (some false)) else (none)) else (none)) else (some true)
def laws_eqStringS.f (k : Nat) (l0 : List ByteArray) (l1 : List ByteArray) : Option (Bool) := if (l0.length : Int) = (l1.length : Int) then (laws_eqStringS.l0 k l0 l1 0) else (some false)
theorem laws_eqStringS.mono_l : ∀ k, (∀ y0 y1 y2, LeO (laws_eqStringS.l0 k y0 y1 y2) (laws_eqStringS.l0 (k + 1) y0 y1 y2))
  | 0 => fun _ _ _ r h => by simp [laws_eqStringS.l0] at h
  | k + 1 => by
    have ih0 := laws_eqStringS.mono_l k
    · intro y0 y1 y2
      unfold laws_eqStringS.l0
      repeat' first
      | (with_reducible first | exact ih0 _ _ _ | exact LeO.refl _ | exact LeO.none _ | refine LeO.ite ?_ ?_ | refine LeO.bind ?_ (fun _ => ?_))
theorem laws_eqStringS.mono : ∀ a0 a1 k, LeO (laws_eqStringS.f k a0 a1) (laws_eqStringS.f (k + 1) a0 a1) := by
  intro a0 a1 k
  have ih0 := laws_eqStringS.mono_l k
  unfold laws_eqStringS.f
  repeat' first
      | (with_reducible first | exact ih0 _ _ _ | exact LeO.refl _ | exact LeO.none _ | refine LeO.ite ?_ ?_ | refine LeO.bind ?_ (fun _ => ?_))
def laws_eqScore.f (a0_0 : ByteArray) (a0_1 : Int) (a1_0 : ByteArray) (a1_1 : Int) : Option (Bool) := if a0_0.toList = a1_0.toList then (if a0_1 = a1_1 then (some true) else (some false)) else (some false)
def laws_eqScoreS.l0 : Nat → List (S99) → List (S99) → Int → Option (Bool)
  | 0, _, _, _ => none
  | k + 1, x0, x1, x5 => if x5 < (x0.length : Int) then (if 0 ≤ x5 then (if x5 < (x1.length : Int) then ((laws_eqScore.f ((rd_T99 x0 x5).f0) ((rd_T99 x0 x5).f1) ((rd_T99 x1 x5).f0) ((rd_T99 x1 x5).f1)).bind fun t218 => (if t218 = true then (laws_eqScoreS.l0 k x0 x1 (wrap64 (x5 + 1))) else (some false))) else (none)) else (none)) else (some true)
def laws_eqScoreS.f (k : Nat) (l0 : List (S99)) (l1 : List (S99)) : Option (Bool) := if (l0.length : Int) = (l1.length : Int) then (laws_eqScoreS.l0 k l0 l1 0) else (some false)
theorem laws_eqScoreS.mono_l : ∀ k, (∀ y0 y1 y2, LeO (laws_eqScoreS.l0 k y0 y1 y2) (laws_eqScoreS.l0 (k + 1) y0 y1 y2))
  | 0 => fun _ _ _ r h => by simp [laws_eqScoreS.l0] at h
  | k + 1 => by
    have ih0 := laws_eqScoreS.mono_l k
    · intro y0 y1 y2
      unfold laws_eqScoreS.l0
      repeat' first
      | (with_reducible first | exact ih0 _ _ _ | exact LeO.refl _ | exact LeO.none _ | refine LeO.ite ?_ ?_ | refine LeO.bind ?_ (fun _ => ?_))
theorem laws_eqScoreS.mono : ∀ a0 a1 k, LeO (laws_eqScoreS.f k a0 a1) (laws_eqScoreS.f (k + 1) a0 a1) := by
  intro a0 a1 k
  have ih0 := laws_eqScoreS.mono_l k
  unfold laws_eqScoreS.f
  repeat' first
      | (with_reducible first | exact ih0 _ _ _ | exact LeO.refl _ | exact LeO.none _ | refine LeO.ite ?_ ?_ | refine LeO.bind ?_ (fun _ => ?_))
def laws_eqPair.f (a0_0 : ByteArray) (a0_1 : ByteArray) (a1_0 : ByteArray) (a1_1 : ByteArray) : Option (Bool) := if a0_0.toList = a1_0.toList then (if a0_1.toList = a1_1.toList then (some true) else (some false)) else (some false)
def laws_eqPairS.l0 : Nat → List (S101) → List (S101) → Int → Option (Bool)
  | 0, _, _, _ => none
  | k + 1, x0, x1, x5 => if x5 < (x0.length : Int) then (if 0 ≤ x5 then (if x5 < (x1.length : Int) then ((laws_eqPair.f ((rd_T101 x0 x5).f0) ((rd_T101 x0 x5).f1) ((rd_T101 x1 x5).f0) ((rd_T101 x1 x5).f1)).bind fun t223 => (if t223 = true then (laws_eqPairS.l0 k x0 x1 (wrap64 (x5 + 1))) else (some false))) else (none)) else (none)) else (some true)
def laws_eqPairS.f (k : Nat) (l0 : List (S101)) (l1 : List (S101)) : Option (Bool) := if (l0.length : Int) = (l1.length : Int) then (laws_eqPairS.l0 k l0 l1 0) else (some false)
theorem laws_eqPairS.mono_l : ∀ k, (∀ y0 y1 y2, LeO (laws_eqPairS.l0 k y0 y1 y2) (laws_eqPairS.l0 (k + 1) y0 y1 y2))
  | 0 => fun _ _ _ r h => by simp [laws_eqPairS.l0] at h
  | k + 1 => by
    have ih0 := laws_eqPairS.mono_l k
    · intro y0 y1 y2
      unfold laws_eqPairS.l0
      repeat' first
      | (with_reducible first | exact ih0 _ _ _ | exact LeO.refl _ | exact LeO.none _ | refine LeO.ite ?_ ?_ | refine LeO.bind ?_ (fun _ => ?_))
theorem laws_eqPairS.mono : ∀ a0 a1 k, LeO (laws_eqPairS.f k a0 a1) (laws_eqPairS.f (k + 1) a0 a1) := by
  intro a0 a1 k
  have ih0 := laws_eqPairS.mono_l k
  unfold laws_eqPairS.f
  repeat' first
      | (with_reducible first | exact ih0 _ _ _ | exact LeO.refl _ | exact LeO.none _ | refine LeO.ite ?_ ?_ | refine LeO.bind ?_ (fun _ => ?_))
def laws_eqEntry.f (k : Nat) (a0_0 : ByteArray) (a0_1 : Int) (a0_2 : Int) (a0_3 : ByteArray) (l0_4 : List ByteArray) (l0_5 : List (S99)) (l0_6 : List (S101)) (a1_0 : ByteArray) (a1_1 : Int) (a1_2 : Int) (a1_3 : ByteArray) (l1_4 : List ByteArray) (l1_5 : List (S99)) (l1_6 : List (S101)) : Option (Bool) := if a0_0.toList = a1_0.toList then (if a0_1 = a1_1 then (if a0_2 = a1_2 then (if a0_3.toList = a1_3.toList then ((laws_eqStringS.f k l0_4 l1_4).bind fun t226 => (if t226 = true then ((laws_eqScoreS.f k l0_5 l1_5).bind fun t227 => (if t227 = true then ((laws_eqPairS.f k l0_6 l1_6).bind fun t228 => (if t228 = true then (some true) else (some false))) else (some false))) else (some false))) else (some false)) else (some false)) else (some false)) else (some false)
theorem laws_eqEntry.mono : ∀ a0 a1 a2 a3 a4 a5 a6 a7 a8 a9 a10 a11 a12 a13 k, LeO (laws_eqEntry.f k a0 a1 a2 a3 a4 a5 a6 a7 a8 a9 a10 a11 a12 a13) (laws_eqEntry.f (k + 1) a0 a1 a2 a3 a4 a5 a6 a7 a8 a9 a10 a11 a12 a13) := by
  intro a0 a1 a2 a3 a4 a5 a6 a7 a8 a9 a10 a11 a12 a13 k
  unfold laws_eqEntry.f
  repeat' first
      | (with_reducible first | exact laws_eqPairS.mono _ _ _ | exact laws_eqScoreS.mono _ _ _ | exact laws_eqStringS.mono _ _ _ | exact LeO.refl _ | exact LeO.none _ | refine LeO.ite ?_ ?_ | refine LeO.bind ?_ (fun _ => ?_))
def laws_FnExactEntryOk.f (k : Nat) (a0_0 : ByteArray) (a0_1 : Int) (a0_2 : Int) (a0_3 : ByteArray) (l0_4 : List ByteArray) (l0_5 : List (S95)) (l0_6 : List (S98)) : Option (Bool) := (laws_szEntry.f k a0_0 a0_1 a0_2 a0_3 l0_4 l0_5 l0_6 1048576).bind fun t230 => (if t230 < 0 then (some true) else ((laws_toEntry.f k a0_0 a0_1 a0_2 a0_3 l0_4 l0_5 l0_6).bind fun bt231 => ((spec_EntryOk.f k bt231.1 bt231.2.1 bt231.2.2.1 bt231.2.2.2.1 bt231.2.2.2.2.1 bt231.2.2.2.2.2.1 bt231.2.2.2.2.2.2).bind fun t244 => ((laws_toEntry.f k a0_0 a0_1 a0_2 a0_3 l0_4 l0_5 l0_6).bind fun bt245 => ((impl_EntryOk.f k bt245.1 bt245.2.1 bt245.2.2.1 bt245.2.2.2.1 bt245.2.2.2.2.1 bt245.2.2.2.2.2.1 bt245.2.2.2.2.2.2).bind fun t259 => (if (t259 != t244) = true then (some false) else ((laws_toEntry.f k a0_0 a0_1 a0_2 a0_3 l0_4 l0_5 l0_6).bind fun bt260 => ((laws_eqEntry.f k bt245.1 bt245.2.1 bt245.2.2.1 bt245.2.2.2.1 bt245.2.2.2.2.1 bt245.2.2.2.2.2.1 bt245.2.2.2.2.2.2 bt260.1 bt260.2.1 bt260.2.2.1 bt260.2.2.2.1 bt260.2.2.2.2.1 bt260.2.2.2.2.2.1 bt260.2.2.2.2.2.2).bind fun t273 => (if t273 = true then (some true) else (some false))))))))))
theorem laws_FnExactEntryOk.mono : ∀ a0 a1 a2 a3 a4 a5 a6 k, LeO (laws_FnExactEntryOk.f k a0 a1 a2 a3 a4 a5 a6) (laws_FnExactEntryOk.f (k + 1) a0 a1 a2 a3 a4 a5 a6) := by
  intro a0 a1 a2 a3 a4 a5 a6 k
  unfold laws_FnExactEntryOk.f
  repeat' first
      | (with_reducible first | exact impl_EntryOk.mono _ _ _ _ _ _ _ _ | exact laws_eqEntry.mono _ _ _ _ _ _ _ _ _ _ _ _ _ _ _ | exact laws_szEntry.mono _ _ _ _ _ _ _ _ _ | exact laws_toEntry.mono _ _ _ _ _ _ _ _ | exact spec_EntryOk.mono _ _ _ _ _ _ _ _ | exact LeO.refl _ | exact LeO.none _ | refine LeO.ite ?_ ?_ | refine LeO.bind ?_ (fun _ => ?_))
def IsS118 (w0 W : World) (g : Nat) (f0 : List Int) (f1 : Int) : Prop := ∃ A0 c0, W.heap[g]? = some (.cells #[.slice A0 f0.length c0, .int .i64 f1] 118 (0, 0)) ∧ w0.heap.size ≤ g ∧ Kd.C (Kd.int .u8) w0 A0 f0.length f0
theorem IsS118.grown {w0 W : World} {g : Nat} {f0 : List Int} {f1 : Int} {W1 : World} {row : Option Nat} (h : IsS118 w0 W g f0 f1) (hw : W.grownBy W1 row) (hne : some g ≠ row) : IsS118 w0 W1 g f0 f1 := by
  obtain ⟨A0, c0, hb, hg, hr0⟩ := h
  exact ⟨A0, c0, blk_grown hb hw hne, hg, hr0⟩
theorem IsS118.fresh {w0 W : World} {g : Nat} {f0 : List Int} {f1 : Int} (h : IsS118 w0 W g f0 f1) : ∀ k, W.heap.size ≤ k → k ≠ g := by
  obtain ⟨A0, c0, hb, hg, hr0⟩ := h
  exact Kd.freshB hb
theorem IsS118.kept {w0 W : World} {g : Nat} {f0 : List Int} {f1 : Int} {W1 : World} {S : Nat → Prop} (h : IsS118 w0 W g f0 f1) (hk : Kept W W1 S) (hne : ¬ S g) : IsS118 w0 W1 g f0 f1 := by
  obtain ⟨A0, c0, hb, hg, hr0⟩ := h
  exact ⟨A0, c0, blk_kept hb hk hne, hg, hr0⟩
theorem IsS118.below {w0 W : World} {g : Nat} {f0 : List Int} {f1 : Int} {W1 : World} (h : IsS118 w0 W g f0 f1) (hw : Below W.heap.size W W1) : IsS118 w0 W1 g f0 f1 := h.grown (grown_of_below hw none) (by simp)
theorem IsS118.alloc {w0 W : World} {g : Nat} {f0 : List Int} {f1 : Int} (h : IsS118 w0 W g f0 f1) (o : Obj) : IsS118 w0 (W.alloc o) g f0 f1 := h.below (zq5 (Below.refl _ _) o)
theorem IsS118.drewN {w0 W : World} {g : Nat} {f0 : List Int} {f1 : Int} (h : IsS118 w0 W g f0 f1) (m : Nat) : IsS118 w0 (W.drewN m) g f0 f1 := h
theorem IsS118.drew {w0 W : World} {g : Nat} {f0 : List Int} {f1 : Int} (h : IsS118 w0 W g f0 f1) : IsS118 w0 W.drew g f0 f1 := h
theorem IsS118.at_ {w0 W : World} {g : Nat} {f0 : List Int} {f1 : Int} {w' : World} {m : Nat} (hq : W.drewN m = w') (h : IsS118 w0 W g f0 f1) : IsS118 w0 w' g f0 f1 := by subst hq; exact IsS118.drewN h m
theorem IsS118.apart {w0 W : World} {g : Nat} {f0 : List Int} {f1 : Int} {α : Type} {d : Kd α} {e : Nat} {base : Nat} {ok : Nat → Prop} {v : Value} {xs : List α} (h : IsS118 w0 W g f0 f1) (ho : d.R e W base ok v xs) (ht : ∀ q, q ∈ e :: d.E → q ≠ 118) : d.R e W base (fun k => ok k ∧ k ≠ g) v xs := by
  obtain ⟨A0, c0, hb, hg, hr0⟩ := h
  exact Kd.R_types ho hb ht
theorem IsS118.own_ne {w0 W : World} {g : Nat} {f0 : List Int} {f1 : Int} {α : Type} {d : Kd α} {e : Nat} {base : Nat} {ok : Nat → Prop} {v : Value} {xs : List α} (h : IsS118 w0 W g f0 f1) (ho : d.R e W base ok v xs) (ht : e ≠ 118) : some g ≠ v.ownBlock := by
  obtain ⟨A0, c0, hb, hg, hr0⟩ := h
  exact Kd.R_ne ho hb ht
theorem IsS118.lt {w0 W : World} {g : Nat} {f0 : List Int} {f1 : Int} (h : IsS118 w0 W g f0 f1) : g < W.heap.size := by
  obtain ⟨A0, c0, hb, hg, hr0⟩ := h
  exact blk_lt hb
theorem IsS118.ge {w0 W : World} {g : Nat} {f0 : List Int} {f1 : Int} (h : IsS118 w0 W g f0 f1) : w0.heap.size ≤ g := by
  obtain ⟨A0, c0, hb, hg, hr0⟩ := h
  exact hg
theorem IsS118.set_1 {w0 W : World} {g : Nat} {f0 : List Int} {f1 : Int} (h : IsS118 w0 W g f0 f1) (x : Int) : IsS118 w0 (W.setCell ⟨g, 1, none⟩ (.int .i64 x)) g f0 x := by
  obtain ⟨A0, c0, hb, hg, hr0⟩ := h
  exact ⟨A0, c0, by simpa using blk_set hb 1 (.int .i64 x), hg, hr0⟩
class Wi118 (a b : World) (g : Nat) (f : Int) (f' : outParam Int) : Prop where
  out : ∀ (w0 : World) (f0 : List Int), IsS118 w0 a g f0 f → IsS118 w0 b g f0 f'
instance Wi118.refl (a : World) (g : Nat) (f : Int) : Wi118 a a g f f := ⟨fun _ _ h => h⟩
instance Wi118.alloc (a b : World) (g : Nat) (f f' : Int) (o : Obj) [k : Wi118 a b g f f'] : Wi118 a (b.alloc o) g f f' := ⟨fun w0 f0 h => IsS118.alloc (k.out w0 f0 h) o⟩
instance Wi118.drew (a b : World) (g : Nat) (f f' : Int) [k : Wi118 a b g f f'] : Wi118 a b.drew g f f' := ⟨fun w0 f0 h => IsS118.drew (k.out w0 f0 h)⟩
instance Wi118.drewN (a b : World) (g : Nat) (f f' : Int) (n : Nat) [k : Wi118 a b g f f'] : Wi118 a (b.drewN n) g f f' := ⟨fun w0 f0 h => IsS118.drewN (k.out w0 f0 h) n⟩
instance Wi118.set_1 (a b : World) (g : Nat) (f f' x : Int) [k : Wi118 a b g f f'] : Wi118 a (b.setCell ⟨g, 1, none⟩ (.int .i64 x)) g f x := ⟨fun w0 f0 h => IsS118.set_1 (k.out w0 f0 h) x⟩
def spec_l1Rd_pick.j0 : Nat → Int → Bool → List Int → Int → Option (Int × Int)
  | 0, _, _, _, _ => none
  | k + 1, x1, x24, x1000, x1001 => if x24 = true then (some (0, x1001)) else (if (wrap64 (x1001 - 1)) < (x1000.length : Int) then (if 0 ≤ (wrap64 (x1001 - 1)) then (if x1 = 0 then (none) else (some (Int.tmod (wrap64 (rd x1000 (wrap64 (x1001 - 1)))) x1, x1001))) else (none)) else (if (x1000.length : Int) = 0 then (none) else (if 0 ≤ (Int.tmod (wrap64 (x1001 - 1)) (x1000.length : Int)) then (if (Int.tmod (wrap64 (x1001 - 1)) (x1000.length : Int)) < (x1000.length : Int) then (if 0 ≤ (Int.tmod (wrap64 ((wrap64 ((wrap64 (x1001 - 1)) * 7)) + 3)) (x1000.length : Int)) then (if (Int.tmod (wrap64 ((wrap64 ((wrap64 (x1001 - 1)) * 7)) + 3)) (x1000.length : Int)) < (x1000.length : Int) then (if x1 = 0 then (none) else (some (Int.tmod (Go.bits .xor .i64 (wrap64 ((wrap64 ((wrap64 ((wrap64 ((wrap64 (rd x1000 (Int.tmod (wrap64 (x1001 - 1)) (x1000.length : Int)))) * 131)) + (wrap64 ((wrap64 (rd x1000 (Int.tmod (wrap64 ((wrap64 ((wrap64 (x1001 - 1)) * 7)) + 3)) (x1000.length : Int)))) * 1117)))) + (wrap64 ((wrap64 (x1001 - 1)) * 29)))) + (wrap64 ((wrap64 (Int.tdiv (wrap64 (x1001 - 1)) (x1000.length : Int))) * 53)))) (wrap64 (Int.tdiv (wrap64 ((wrap64 ((wrap64 ((wrap64 ((wrap64 (rd x1000 (Int.tmod (wrap64 (x1001 - 1)) (x1000.length : Int)))) * 131)) + (wrap64 ((wrap64 (rd x1000 (Int.tmod (wrap64 ((wrap64 ((wrap64 (x1001 - 1)) * 7)) + 3)) (x1000.length : Int)))) * 1117)))) + (wrap64 ((wrap64 (x1001 - 1)) * 29)))) + (wrap64 ((wrap64 (Int.tdiv (wrap64 (x1001 - 1)) (x1000.length : Int))) * 53)))) 64))) x1, x1001))) else (none)) else (none)) else (none)) else (none))))
def spec_l1Rd_pick.f (k : Nat) (s0_0 : List Int) (s0_1 : Int) (a1 : Int) : Option (Int × Int) := if a1 < 1 then (spec_l1Rd_pick.j0 k a1 true s0_0 (wrap64 (s0_1 + 1))) else (spec_l1Rd_pick.j0 k a1 ((s0_0.length : Int) == 0) s0_0 (wrap64 (s0_1 + 1)))
theorem spec_l1Rd_pick.mono_l : ∀ k, (∀ y0 y1 y2 y3, LeO (spec_l1Rd_pick.j0 k y0 y1 y2 y3) (spec_l1Rd_pick.j0 (k + 1) y0 y1 y2 y3))
  | 0 => fun _ _ _ _ r h => by simp [spec_l1Rd_pick.j0] at h
  | k + 1 => by
    have ih0 := spec_l1Rd_pick.mono_l k
    · intro y0 y1 y2 y3
      unfold spec_l1Rd_pick.j0
      repeat' first
      | (with_reducible first | exact ih0 _ _ _ _ | exact LeO.refl _ | exact LeO.none _ | refine LeO.ite ?_ ?_ | refine LeO.bind ?_ (fun _ => ?_))
theorem spec_l1Rd_pick.mono : ∀ a0 a1 a2 k, LeO (spec_l1Rd_pick.f k a0 a1 a2) (spec_l1Rd_pick.f (k + 1) a0 a1 a2) := by
  intro a0 a1 a2 k
  have ih0 := spec_l1Rd_pick.mono_l k
  unfold spec_l1Rd_pick.f
  repeat' first
      | (with_reducible first | exact ih0 _ _ _ _ | exact LeO.refl _ | exact LeO.none _ | refine LeO.ite ?_ ?_ | refine LeO.bind ?_ (fun _ => ?_))
def spec_l1Rd_of.f (k : Nat) (s0_0 : List Int) (s0_1 : Int) (l1 : List ByteArray) : Option (ByteArray × Int) := (spec_l1Rd_pick.f k s0_0 s0_1 (l1.length : Int)).bind fun bt277 => (if 0 ≤ bt277.1 then (if bt277.1 < (l1.length : Int) then (some (rdOf ByteArray.empty l1 bt277.1, bt277.2)) else (none)) else (none))
theorem spec_l1Rd_of.mono : ∀ a0 a1 a2 k, LeO (spec_l1Rd_of.f k a0 a1 a2) (spec_l1Rd_of.f (k + 1) a0 a1 a2) := by
  intro a0 a1 a2 k
  unfold spec_l1Rd_of.f
  repeat' first
      | (with_reducible first | exact spec_l1Rd_pick.mono _ _ _ _ | exact LeO.refl _ | exact LeO.none _ | refine LeO.ite ?_ ?_ | refine LeO.bind ?_ (fun _ => ?_))
def spec_l1Rd_one.f (k : Nat) (s0_0 : List Int) (s0_1 : Int) (l1 : List Int) : Option (Int × Int) := (spec_l1Rd_pick.f k s0_0 s0_1 (l1.length : Int)).bind fun bt280 => (if 0 ≤ bt280.1 then (if bt280.1 < (l1.length : Int) then (some (rd l1 bt280.1, bt280.2)) else (none)) else (none))
theorem spec_l1Rd_one.mono : ∀ a0 a1 a2 k, LeO (spec_l1Rd_one.f k a0 a1 a2) (spec_l1Rd_one.f (k + 1) a0 a1 a2) := by
  intro a0 a1 a2 k
  unfold spec_l1Rd_one.f
  repeat' first
      | (with_reducible first | exact spec_l1Rd_pick.mono _ _ _ _ | exact LeO.refl _ | exact LeO.none _ | refine LeO.ite ?_ ?_ | refine LeO.bind ?_ (fun _ => ?_))
def spec_l1Many.l0 : Nat → ByteArray → Int → ByteArray → Option (ByteArray)
  | 0, _, _, _ => none
  | k + 1, x0, x1, x5 => if x1 > 0 then (if (Int.tmod x1 2) = 1 then (if x5.size + x0.size ≤ 9223372036854775807 then (if x0.size + x0.size ≤ 9223372036854775807 then (spec_l1Many.l0 k (x0 ++ x0) (wrap64 (Int.tdiv x1 2)) (x5 ++ x0)) else (none)) else (none)) else (if x0.size + x0.size ≤ 9223372036854775807 then (spec_l1Many.l0 k (x0 ++ x0) (wrap64 (Int.tdiv x1 2)) x5) else (none))) else (some x5)
def spec_l1Many.f (k : Nat) (a0 : ByteArray) (a1 : Int) : Option (ByteArray) := spec_l1Many.l0 k a0 a1 (⟨#[]⟩ : ByteArray)
theorem spec_l1Many.mono_l : ∀ k, (∀ y0 y1 y2, LeO (spec_l1Many.l0 k y0 y1 y2) (spec_l1Many.l0 (k + 1) y0 y1 y2))
  | 0 => fun _ _ _ r h => by simp [spec_l1Many.l0] at h
  | k + 1 => by
    have ih0 := spec_l1Many.mono_l k
    · intro y0 y1 y2
      unfold spec_l1Many.l0
      repeat' first
      | (with_reducible first | exact ih0 _ _ _ | exact LeO.refl _ | exact LeO.none _ | refine LeO.ite ?_ ?_ | refine LeO.bind ?_ (fun _ => ?_))
theorem spec_l1Many.mono : ∀ a0 a1 k, LeO (spec_l1Many.f k a0 a1) (spec_l1Many.f (k + 1) a0 a1) := by
  intro a0 a1 k
  have ih0 := spec_l1Many.mono_l k
  unfold spec_l1Many.f
  repeat' first
      | (with_reducible first | exact ih0 _ _ _ | exact LeO.refl _ | exact LeO.none _ | refine LeO.ite ?_ ?_ | refine LeO.bind ?_ (fun _ => ?_))
def spec_l11Text.f (k : Nat) (s0_0 : List Int) (s0_1 : Int) : Option (ByteArray × Int) := (spec_l1Many.f k (⟨#[120]⟩ : ByteArray) 40).bind fun t283 => ((spec_l1Rd_of.f k s0_0 s0_1 (([(⟨#[]⟩ : ByteArray), (⟨#[97]⟩ : ByteArray), (⟨#[98]⟩ : ByteArray), (⟨#[99]⟩ : ByteArray), (⟨#[53]⟩ : ByteArray), (⟨#[45, 51]⟩ : ByteArray), (⟨#[104, 101, 108, 108, 111]⟩ : ByteArray), (⟨#[13, 10]⟩ : ByteArray), (⟨#[255]⟩ : ByteArray), t283, (⟨#[57, 57, 57, 57, 57, 57, 57, 57, 57]⟩ : ByteArray)] : List ByteArray))).bind fun bt287 => (some (bt287.1, bt287.2)))
theorem spec_l11Text.mono : ∀ a0 a1 k, LeO (spec_l11Text.f k a0 a1) (spec_l11Text.f (k + 1) a0 a1) := by
  intro a0 a1 k
  unfold spec_l11Text.f
  repeat' first
      | (with_reducible first | exact spec_l1Many.mono _ _ _ | exact spec_l1Rd_of.mono _ _ _ _ | exact LeO.refl _ | exact LeO.none _ | refine LeO.ite ?_ ?_ | refine LeO.bind ?_ (fun _ => ?_))
def spec_l11Texts.l0 : Nat → List ByteArray → Int → List Int → Int → Option (List ByteArray × Int)
  | 0, _, _, _, _ => none
  | k + 1, x5, x6, x1000, x1001 => if x6 > 0 then ((spec_l11Text.f k x1000 x1001).bind fun bt294 => (if x5.length < 8796093022208 then (spec_l11Texts.l0 k (x5 ++ [bt294.1]) (wrap64 (x6 - 1)) x1000 bt294.2) else (none))) else (some (x5, x1001))
def spec_l11Texts.f (k : Nat) (s0_0 : List Int) (s0_1 : Int) (a1 : Int) : Option (List ByteArray × Int) := (spec_l1Rd_pick.f k s0_0 s0_1 (wrap64 (a1 + 1))).bind fun bt292 => (spec_l11Texts.l0 k (([] : List ByteArray)) bt292.1 s0_0 bt292.2)
theorem spec_l11Texts.mono_l : ∀ k, (∀ y0 y1 y2 y3, LeO (spec_l11Texts.l0 k y0 y1 y2 y3) (spec_l11Texts.l0 (k + 1) y0 y1 y2 y3))
  | 0 => fun _ _ _ _ r h => by simp [spec_l11Texts.l0] at h
  | k + 1 => by
    have ih0 := spec_l11Texts.mono_l k
    · intro y0 y1 y2 y3
      unfold spec_l11Texts.l0
      repeat' first
      | (with_reducible first | exact ih0 _ _ _ _ | exact spec_l11Text.mono _ _ _ | exact spec_l1Rd_pick.mono _ _ _ _ | exact LeO.refl _ | exact LeO.none _ | refine LeO.ite ?_ ?_ | refine LeO.bind ?_ (fun _ => ?_))
theorem spec_l11Texts.mono : ∀ a0 a1 a2 k, LeO (spec_l11Texts.f k a0 a1 a2) (spec_l11Texts.f (k + 1) a0 a1 a2) := by
  intro a0 a1 a2 k
  have ih0 := spec_l11Texts.mono_l k
  unfold spec_l11Texts.f
  repeat' first
      | (with_reducible first | exact ih0 _ _ _ _ | exact spec_l11Text.mono _ _ _ | exact spec_l1Rd_pick.mono _ _ _ _ | exact LeO.refl _ | exact LeO.none _ | refine LeO.ite ?_ ?_ | refine LeO.bind ?_ (fun _ => ?_))
def spec_l1Dec.f : Nat → Int → Option (ByteArray)
  | 0, _ => none
  | k + 1, a0 => if a0 < (-9223372036854775807) then (some (⟨#[45, 57, 50, 50, 51, 51, 55, 50, 48, 51, 54, 56, 53, 52, 55, 55, 53, 56, 48, 56]⟩ : ByteArray)) else (if a0 < 0 then ((spec_l1Dec.f k (wrap64 (-a0))).bind fun t299 => (if 1 + t299.size ≤ 9223372036854775807 then (some ((⟨#[45]⟩ : ByteArray) ++ t299)) else (none))) else (if a0 < 10 then (some (strOfNums (([(wrap64 (48 + a0)) % 256] : List Int)))) else ((spec_l1Dec.f k (wrap64 (Int.tdiv a0 10))).bind fun t303 => ((some (([(wrap64 (48 + (Int.tmod a0 10))) % 256] : List Int) : List Int)).bind fun y304 => (if t303.size + (strOfNums y304).size ≤ 9223372036854775807 then (some (t303 ++ (strOfNums y304))) else (none))))))
theorem spec_l1Dec.mono_l : ∀ k, (∀ y0, LeO (spec_l1Dec.f k y0) (spec_l1Dec.f (k + 1) y0))
  | 0 => fun _ r h => by simp [spec_l1Dec.f] at h
  | k + 1 => by
    have ih0 := spec_l1Dec.mono_l k
    · intro y0
      unfold spec_l1Dec.f
      repeat' first
      | (with_reducible first | exact ih0 _ | exact LeO.refl _ | exact LeO.none _ | refine LeO.ite ?_ ?_ | refine LeO.bind ?_ (fun _ => ?_))
theorem spec_l1Dec.mono : ∀ a0 k, LeO (spec_l1Dec.f k a0) (spec_l1Dec.f (k + 1) a0) := by
  intro a0 k
  have ih0 := spec_l1Dec.mono_l k
  exact ih0 a0
def spec_l11AnyTexts.l0 : Nat → List ByteArray → List Int → Int → Option (List ByteArray × Int)
  | 0, _, _, _ => none
  | k + 1, x3, x1000, x1001 => (spec_l1Rd_pick.f k x1000 x1001 2).bind fun bt317 => (if (x3.length : Int) < (wrap64 (16 + bt317.1)) then ((spec_l1Dec.f k (x3.length : Int)).bind fun t319 => (if 1 + t319.size ≤ 9223372036854775807 then (if x3.length < 8796093022208 then (spec_l11AnyTexts.l0 k (x3 ++ [(⟨#[110]⟩ : ByteArray) ++ t319]) x1000 bt317.2) else (none)) else (none))) else (some (x3, bt317.2)))
def spec_l11AnyTexts.f (k : Nat) (s0_0 : List Int) (s0_1 : Int) : Option (List ByteArray × Int) := (spec_l11Texts.f k s0_0 s0_1 6).bind fun bt307 => ((spec_l1Rd_pick.f k s0_0 bt307.2 16).bind fun bt311 => (if bt311.1 = 0 then ((spec_l1Many.f k (⟨#[121]⟩ : ByteArray) 41).bind fun t313 => (if bt307.1.length < 8796093022208 then (some ((bt307.1 ++ [t313]), bt311.2)) else (none))) else (if bt311.1 = 1 then (spec_l11AnyTexts.l0 k bt307.1 s0_0 bt311.2) else (some (bt307.1, bt311.2)))))
theorem spec_l11AnyTexts.mono_l : ∀ k, (∀ y0 y1 y2, LeO (spec_l11AnyTexts.l0 k y0 y1 y2) (spec_l11AnyTexts.l0 (k + 1) y0 y1 y2))
  | 0 => fun _ _ _ r h => by simp [spec_l11AnyTexts.l0] at h
  | k + 1 => by
    have ih0 := spec_l11AnyTexts.mono_l k
    · intro y0 y1 y2
      unfold spec_l11AnyTexts.l0
      repeat' first
      | (with_reducible first | exact ih0 _ _ _ | exact spec_l11Texts.mono _ _ _ _ | exact spec_l1Dec.mono _ _ | exact spec_l1Many.mono _ _ _ | exact spec_l1Rd_pick.mono _ _ _ _ | exact LeO.refl _ | exact LeO.none _ | refine LeO.ite ?_ ?_ | refine LeO.bind ?_ (fun _ => ?_))
theorem spec_l11AnyTexts.mono : ∀ a0 a1 k, LeO (spec_l11AnyTexts.f k a0 a1) (spec_l11AnyTexts.f (k + 1) a0 a1) := by
  intro a0 a1 k
  have ih0 := spec_l11AnyTexts.mono_l k
  unfold spec_l11AnyTexts.f
  repeat' first
      | (with_reducible first | exact ih0 _ _ _ | exact spec_l11Texts.mono _ _ _ _ | exact spec_l1Dec.mono _ _ | exact spec_l1Many.mono _ _ _ | exact spec_l1Rd_pick.mono _ _ _ _ | exact LeO.refl _ | exact LeO.none _ | refine LeO.ite ?_ ?_ | refine LeO.bind ?_ (fun _ => ?_))
def spec_l2Put.l0 : Nat → List ByteArray → ByteArray → Int → Option (List ByteArray)
  | 0, _, _, _ => none
  | k + 1, x0, x1, x5 => if x5 < (x0.length : Int) then (if 0 ≤ x5 then (if (Op.bytesLess ((rdOf ByteArray.empty x0 x5).toList) x1.toList) = true then (spec_l2Put.l0 k x0 x1 (wrap64 (x5 + 1))) else (if (rdOf ByteArray.empty x0 x5).toList = x1.toList then (some x0) else ((some (([] : List ByteArray) : List ByteArray)).bind fun y325 => (if x5 ≤ (x0.length : Int) then ((some (x0.take (x5 : Int).toNat : List ByteArray)).bind fun y328 => (if y325.length + y328.length < 8796093022208 then ((some (y325 ++ y328 : List ByteArray)).bind fun y333 => ((some (([x1] : List ByteArray) : List ByteArray)).bind fun y336 => (if y333.length + y336.length < 8796093022208 then ((some (y333 ++ y336 : List ByteArray)).bind fun y339 => ((some (x0.drop (x5 : Int).toNat : List ByteArray)).bind fun y342 => (if y339.length + y342.length < 8796093022208 then (some (y339 ++ y342)) else (none)))) else (none)))) else (none))) else (none))))) else (none)) else ((some (([] : List ByteArray) : List ByteArray)).bind fun y350 => (if 0 ≤ x5 then (if x5 ≤ (x0.length : Int) then ((some (x0.take (x5 : Int).toNat : List ByteArray)).bind fun y353 => (if y350.length + y353.length < 8796093022208 then ((some (y350 ++ y353 : List ByteArray)).bind fun y358 => ((some (([x1] : List ByteArray) : List ByteArray)).bind fun y361 => (if y358.length + y361.length < 8796093022208 then ((some (y358 ++ y361 : List ByteArray)).bind fun y364 => ((some (x0.drop (x5 : Int).toNat : List ByteArray)).bind fun y367 => (if y364.length + y367.length < 8796093022208 then (some (y364 ++ y367)) else (none)))) else (none)))) else (none))) else (none)) else (none)))
def spec_l2Put.f (k : Nat) (l0 : List ByteArray) (a1 : ByteArray) : Option (List ByteArray) := spec_l2Put.l0 k l0 a1 0
theorem spec_l2Put.mono_l : ∀ k, (∀ y0 y1 y2, LeO (spec_l2Put.l0 k y0 y1 y2) (spec_l2Put.l0 (k + 1) y0 y1 y2))
  | 0 => fun _ _ _ r h => by simp [spec_l2Put.l0] at h
  | k + 1 => by
    have ih0 := spec_l2Put.mono_l k
    · intro y0 y1 y2
      unfold spec_l2Put.l0
      repeat' first
      | (with_reducible first | exact ih0 _ _ _ | exact LeO.refl _ | exact LeO.none _ | refine LeO.ite ?_ ?_ | refine LeO.bind ?_ (fun _ => ?_))
theorem spec_l2Put.mono : ∀ a0 a1 k, LeO (spec_l2Put.f k a0 a1) (spec_l2Put.f (k + 1) a0 a1) := by
  intro a0 a1 k
  have ih0 := spec_l2Put.mono_l k
  unfold spec_l2Put.f
  repeat' first
      | (with_reducible first | exact ih0 _ _ _ | exact LeO.refl _ | exact LeO.none _ | refine LeO.ite ?_ ?_ | refine LeO.bind ?_ (fun _ => ?_))
def spec_l11Set.l0 : Nat → List ByteArray → List ByteArray → Int → List Int → Int → Option (List ByteArray × Int)
  | 0, _, _, _, _, _ => none
  | k + 1, x3, x4, x5, x1000, x1001 => if x5 < (x4.length : Int) then (if 0 ≤ x5 then (if ((rdOf ByteArray.empty x4 x5).size : Int) ≤ 40 then ((spec_l2Put.f k x3 (rdOf ByteArray.empty x4 x5)).bind fun t384 => (spec_l11Set.l0 k t384 x4 (wrap64 (x5 + 1)) x1000 x1001)) else (spec_l11Set.l0 k x3 x4 (wrap64 (x5 + 1)) x1000 x1001)) else (none)) else (some (x3, x1001))
def spec_l11Set.f (k : Nat) (s0_0 : List Int) (s0_1 : Int) : Option (List ByteArray × Int) := (spec_l11AnyTexts.f k s0_0 s0_1).bind fun bt378 => (spec_l11Set.l0 k (([] : List ByteArray)) bt378.1 0 s0_0 bt378.2)
theorem spec_l11Set.mono_l : ∀ k, (∀ y0 y1 y2 y3 y4, LeO (spec_l11Set.l0 k y0 y1 y2 y3 y4) (spec_l11Set.l0 (k + 1) y0 y1 y2 y3 y4))
  | 0 => fun _ _ _ _ _ r h => by simp [spec_l11Set.l0] at h
  | k + 1 => by
    have ih0 := spec_l11Set.mono_l k
    · intro y0 y1 y2 y3 y4
      unfold spec_l11Set.l0
      repeat' first
      | (with_reducible first | exact ih0 _ _ _ _ _ | exact spec_l11AnyTexts.mono _ _ _ | exact spec_l2Put.mono _ _ _ | exact LeO.refl _ | exact LeO.none _ | refine LeO.ite ?_ ?_ | refine LeO.bind ?_ (fun _ => ?_))
theorem spec_l11Set.mono : ∀ a0 a1 k, LeO (spec_l11Set.f k a0 a1) (spec_l11Set.f (k + 1) a0 a1) := by
  intro a0 a1 k
  have ih0 := spec_l11Set.mono_l k
  unfold spec_l11Set.f
  repeat' first
      | (with_reducible first | exact ih0 _ _ _ _ _ | exact spec_l11AnyTexts.mono _ _ _ | exact spec_l2Put.mono _ _ _ | exact LeO.refl _ | exact LeO.none _ | refine LeO.ite ?_ ?_ | refine LeO.bind ?_ (fun _ => ?_))
def spec_l11AnySet.f (k : Nat) (s0_0 : List Int) (s0_1 : Int) : Option (List ByteArray × Int) := (spec_l1Rd_pick.f k s0_0 s0_1 10).bind fun bt387 => (if bt387.1 = 0 then ((spec_l11AnyTexts.f k s0_0 bt387.2).bind fun bt389 => (some (bt389.1, bt389.2))) else ((spec_l11Set.f k s0_0 bt387.2).bind fun bt393 => (some (bt393.1, bt393.2))))
theorem spec_l11AnySet.mono : ∀ a0 a1 k, LeO (spec_l11AnySet.f k a0 a1) (spec_l11AnySet.f (k + 1) a0 a1) := by
  intro a0 a1 k
  unfold spec_l11AnySet.f
  repeat' first
      | (with_reducible first | exact spec_l11AnyTexts.mono _ _ _ | exact spec_l11Set.mono _ _ _ | exact spec_l1Rd_pick.mono _ _ _ _ | exact LeO.refl _ | exact LeO.none _ | refine LeO.ite ?_ ?_ | refine LeO.bind ?_ (fun _ => ?_))
def spec_l3Without.l0 : Nat → List (S99) → ByteArray → List (S99) → Int → Option ((List (S99)))
  | 0, _, _, _, _ => none
  | k + 1, x0, x1, x5, x6 => if x6 < (x0.length : Int) then (if 0 ≤ x6 then (if ((rd_T99 x0 x6).f0).toList = x1.toList then (spec_l3Without.l0 k x0 x1 x5 (wrap64 (x6 + 1))) else (if x5.length < 5864062014805 then (spec_l3Without.l0 k x0 x1 (x5 ++ [(⟨(rd_T99 x0 x6).f0, (rd_T99 x0 x6).f1⟩ : S99)]) (wrap64 (x6 + 1))) else (none))) else (none)) else (some x5)
def spec_l3Without.f (k : Nat) (l0 : List (S99)) (a1 : ByteArray) : Option ((List (S99))) := spec_l3Without.l0 k l0 a1 (([] : List (S99))) 0
theorem spec_l3Without.mono_l : ∀ k, (∀ y0 y1 y2 y3, LeO (spec_l3Without.l0 k y0 y1 y2 y3) (spec_l3Without.l0 (k + 1) y0 y1 y2 y3))
  | 0 => fun _ _ _ _ r h => by simp [spec_l3Without.l0] at h
  | k + 1 => by
    have ih0 := spec_l3Without.mono_l k
    · intro y0 y1 y2 y3
      unfold spec_l3Without.l0
      repeat' first
      | (with_reducible first | exact ih0 _ _ _ _ | exact LeO.refl _ | exact LeO.none _ | refine LeO.ite ?_ ?_ | refine LeO.bind ?_ (fun _ => ?_))
theorem spec_l3Without.mono : ∀ a0 a1 k, LeO (spec_l3Without.f k a0 a1) (spec_l3Without.f (k + 1) a0 a1) := by
  intro a0 a1 k
  have ih0 := spec_l3Without.mono_l k
  unfold spec_l3Without.f
  repeat' first
      | (with_reducible first | exact ih0 _ _ _ _ | exact LeO.refl _ | exact LeO.none _ | refine LeO.ite ?_ ?_ | refine LeO.bind ?_ (fun _ => ?_))
mutual
def spec_ScoresPut.j1 : Nat → List (S99) → List (S99) → Int → ByteArray → Int → Option ((List (S99)) × Bool × Bool)
  | 0, _, _, _, _, _ => none
  | k + 1, x0, x7, x8, x406000, x406001 => (some (([] : List (S99)) : List (S99))).bind fun y415 => (if 0 ≤ x8 then (if x8 ≤ (x7.length : Int) then ((some (x7.take (x8 : Int).toNat : List (S99))).bind fun y418 => (if y415.length + y418.length < 5864062014805 then ((some (y415 ++ y418 : List (S99))).bind fun y422 => ((some (([(⟨x406000, x406001⟩ : S99)] : List (S99)) : List (S99))).bind fun y425 => (if y422.length + y425.length < 5864062014805 then ((some (y422 ++ y425 : List (S99))).bind fun y428 => ((some (x7.drop (x8 : Int).toNat : List (S99))).bind fun y431 => (if y428.length + y431.length < 5864062014805 then ((some (y428 ++ y431 : List (S99))).bind fun y435 => ((spec_ScoresOk.f k y435).bind fun t438 => (if t438 = true then (some (y435, ((x7.length : Int) == (x0.length : Int)), true)) else ((some (([] : List (S99)) : List (S99))).bind fun y439 => (if y439.length + x0.length < 5864062014805 then (some ((y439 ++ x0), false, false)) else (none)))))) else (none)))) else (none)))) else (none))) else (none)) else (none))
def spec_ScoresPut.l0 : Nat → List (S99) → List (S99) → Int → ByteArray → Int → Option ((List (S99)) × Bool × Bool)
  | 0, _, _, _, _, _ => none
  | k + 1, x0, x7, x8, x406000, x406001 => if x8 < (x7.length : Int) then (if 0 ≤ x8 then ((spec_l3Ahead.f ((rd_T99 x7 x8).f0) ((rd_T99 x7 x8).f1) x406000 x406001).bind fun t414 => (if t414 = true then (spec_ScoresPut.l0 k x0 x7 (wrap64 (x8 + 1)) x406000 x406001) else (spec_ScoresPut.j1 k x0 x7 x8 x406000 x406001))) else (none)) else (spec_ScoresPut.j1 k x0 x7 x8 x406000 x406001)
end
def spec_ScoresPut.f (k : Nat) (l0 : List (S99)) (a1_0 : ByteArray) (a1_1 : Int) : Option ((List (S99)) × Bool × Bool) := (spec_ScoresOk.f k l0).bind fun t406 => (if t406 = true then ((spec_l3Without.f k l0 a1_0).bind fun t410 => (spec_ScoresPut.l0 k l0 t410 0 a1_0 a1_1)) else (some ((([] : List (S99))), false, false)))
theorem spec_ScoresPut.mono_l : ∀ k, (∀ y0 y1 y2 y3 y4, LeO (spec_ScoresPut.j1 k y0 y1 y2 y3 y4) (spec_ScoresPut.j1 (k + 1) y0 y1 y2 y3 y4)) ∧ (∀ y0 y1 y2 y3 y4, LeO (spec_ScoresPut.l0 k y0 y1 y2 y3 y4) (spec_ScoresPut.l0 (k + 1) y0 y1 y2 y3 y4))
  | 0 => ⟨fun _ _ _ _ _ r h => by simp [spec_ScoresPut.j1] at h, fun _ _ _ _ _ r h => by simp [spec_ScoresPut.l0] at h⟩
  | k + 1 => by
    obtain ⟨ih0, ih1⟩ := spec_ScoresPut.mono_l k
    refine ⟨?_, ?_⟩
    · intro y0 y1 y2 y3 y4
      unfold spec_ScoresPut.j1
      repeat' first
      | (with_reducible first | exact ih0 _ _ _ _ _ | exact ih1 _ _ _ _ _ | exact spec_ScoresOk.mono _ _ | exact spec_l3Without.mono _ _ _ | exact LeO.refl _ | exact LeO.none _ | refine LeO.ite ?_ ?_ | refine LeO.bind ?_ (fun _ => ?_))
    · intro y0 y1 y2 y3 y4
      unfold spec_ScoresPut.l0
      repeat' first
      | (with_reducible first | exact ih0 _ _ _ _ _ | exact ih1 _ _ _ _ _ | exact spec_ScoresOk.mono _ _ | exact spec_l3Without.mono _ _ _ | exact LeO.refl _ | exact LeO.none _ | refine LeO.ite ?_ ?_ | refine LeO.bind ?_ (fun _ => ?_))
theorem spec_ScoresPut.mono : ∀ a0 a1 a2 k, LeO (spec_ScoresPut.f k a0 a1 a2) (spec_ScoresPut.f (k + 1) a0 a1 a2) := by
  intro a0 a1 a2 k
  obtain ⟨ih0, ih1⟩ := spec_ScoresPut.mono_l k
  unfold spec_ScoresPut.f
  repeat' first
      | (with_reducible first | exact ih0 _ _ _ _ _ | exact ih1 _ _ _ _ _ | exact spec_ScoresOk.mono _ _ | exact spec_l3Without.mono _ _ _ | exact LeO.refl _ | exact LeO.none _ | refine LeO.ite ?_ ?_ | refine LeO.bind ?_ (fun _ => ?_))
mutual
def spec_l11Scores.l0 : Nat → List (S99) → Int → List Int → Int → Option ((List (S99)) × Int)
  | 0, _, _, _, _ => none
  | k + 1, x3, x4, x1000, x1001 => if x4 > 0 then ((spec_l11Text.f k x1000 x1001).bind fun bt450 => ((spec_l1Rd_one.f k x1000 bt450.2 (([0, 1, 1, 2, (-5), 7, 1000000000] : List Int))).bind fun bt455 => ((spec_ScoresPut.f k x3 bt450.1 bt455.1).bind fun bt457 => (spec_l11Scores.l0 k bt457.1 (wrap64 (x4 - 1)) x1000 bt455.2)))) else ((spec_l1Rd_pick.f k x1000 x1001 30).bind fun bt462 => (if bt462.1 = 0 then (spec_l11Scores.l1 k x3 0 x1000 bt462.2) else (some (x3, bt462.2))))
def spec_l11Scores.l1 : Nat → List (S99) → Int → List Int → Int → Option ((List (S99)) × Int)
  | 0, _, _, _, _ => none
  | k + 1, x3, x5, x1000, x1001 => if (x3.length : Int) < 16 then ((spec_l1Dec.f k x5).bind fun t464 => (if 1 + t464.size ≤ 9223372036854775807 then ((spec_ScoresPut.f k x3 ((⟨#[110]⟩ : ByteArray) ++ t464) (Int.tmod x5 3)).bind fun bt465 => (spec_l11Scores.l1 k bt465.1 (wrap64 (x5 + 1)) x1000 x1001)) else (none))) else (some (x3, x1001))
end
def spec_l11Scores.f (k : Nat) (s0_0 : List Int) (s0_1 : Int) : Option ((List (S99)) × Int) := (spec_l1Rd_pick.f k s0_0 s0_1 7).bind fun bt448 => (spec_l11Scores.l0 k (([] : List (S99))) bt448.1 s0_0 bt448.2)
theorem spec_l11Scores.mono_l : ∀ k, (∀ y0 y1 y2 y3, LeO (spec_l11Scores.l0 k y0 y1 y2 y3) (spec_l11Scores.l0 (k + 1) y0 y1 y2 y3)) ∧ (∀ y0 y1 y2 y3, LeO (spec_l11Scores.l1 k y0 y1 y2 y3) (spec_l11Scores.l1 (k + 1) y0 y1 y2 y3))
  | 0 => ⟨fun _ _ _ _ r h => by simp [spec_l11Scores.l0] at h, fun _ _ _ _ r h => by simp [spec_l11Scores.l1] at h⟩
  | k + 1 => by
    obtain ⟨ih0, ih1⟩ := spec_l11Scores.mono_l k
    refine ⟨?_, ?_⟩
    · intro y0 y1 y2 y3
      unfold spec_l11Scores.l0
      repeat' first
      | (with_reducible first | exact ih0 _ _ _ _ | exact ih1 _ _ _ _ | exact spec_ScoresPut.mono _ _ _ _ | exact spec_l11Text.mono _ _ _ | exact spec_l1Dec.mono _ _ | exact spec_l1Rd_one.mono _ _ _ _ | exact spec_l1Rd_pick.mono _ _ _ _ | exact LeO.refl _ | exact LeO.none _ | refine LeO.ite ?_ ?_ | refine LeO.bind ?_ (fun _ => ?_))
    · intro y0 y1 y2 y3
      unfold spec_l11Scores.l1
      repeat' first
      | (with_reducible first | exact ih0 _ _ _ _ | exact ih1 _ _ _ _ | exact spec_ScoresPut.mono _ _ _ _ | exact spec_l11Text.mono _ _ _ | exact spec_l1Dec.mono _ _ | exact spec_l1Rd_one.mono _ _ _ _ | exact spec_l1Rd_pick.mono _ _ _ _ | exact LeO.refl _ | exact LeO.none _ | refine LeO.ite ?_ ?_ | refine LeO.bind ?_ (fun _ => ?_))
theorem spec_l11Scores.mono : ∀ a0 a1 k, LeO (spec_l11Scores.f k a0 a1) (spec_l11Scores.f (k + 1) a0 a1) := by
  intro a0 a1 k
  obtain ⟨ih0, ih1⟩ := spec_l11Scores.mono_l k
  unfold spec_l11Scores.f
  repeat' first
      | (with_reducible first | exact ih0 _ _ _ _ | exact ih1 _ _ _ _ | exact spec_ScoresPut.mono _ _ _ _ | exact spec_l11Text.mono _ _ _ | exact spec_l1Dec.mono _ _ | exact spec_l1Rd_one.mono _ _ _ _ | exact spec_l1Rd_pick.mono _ _ _ _ | exact LeO.refl _ | exact LeO.none _ | refine LeO.ite ?_ ?_ | refine LeO.bind ?_ (fun _ => ?_))
def spec_l11AnyScores.f (k : Nat) (s0_0 : List Int) (s0_1 : Int) : Option ((List (S99)) × Int) := (spec_l11Scores.f k s0_0 s0_1).bind fun bt470 => ((spec_l1Rd_pick.f k s0_0 bt470.2 10).bind fun bt474 => (if bt474.1 = 0 then ((spec_l11Text.f k s0_0 bt474.2).bind fun bt476 => ((spec_l1Rd_one.f k s0_0 bt476.2 (([0, 1000000001] : List Int))).bind fun bt481 => (if bt470.1.length < 5864062014805 then (some ((bt470.1 ++ [(⟨bt476.1, bt481.1⟩ : S99)]), bt481.2)) else (none)))) else (some (bt470.1, bt474.2))))
theorem spec_l11AnyScores.mono : ∀ a0 a1 k, LeO (spec_l11AnyScores.f k a0 a1) (spec_l11AnyScores.f (k + 1) a0 a1) := by
  intro a0 a1 k
  unfold spec_l11AnyScores.f
  repeat' first
      | (with_reducible first | exact spec_l11Scores.mono _ _ _ | exact spec_l11Text.mono _ _ _ | exact spec_l1Rd_one.mono _ _ _ _ | exact spec_l1Rd_pick.mono _ _ _ _ | exact LeO.refl _ | exact LeO.none _ | refine LeO.ite ?_ ?_ | refine LeO.bind ?_ (fun _ => ?_))
def spec_l3At.l0 : Nat → List (S101) → ByteArray → Int → Option (Int × Bool)
  | 0, _, _, _ => none
  | k + 1, x0, x1, x6 => if x6 < (x0.length : Int) then (if 0 ≤ x6 then (if (Op.bytesLess (((rd_T101 x0 x6).f0).toList) x1.toList) = true then (spec_l3At.l0 k x0 x1 (wrap64 (x6 + 1))) else (some (x6, (((rd_T101 x0 x6).f0).toList == x1.toList)))) else (none)) else (some (x6, false))
def spec_l3At.f (k : Nat) (l0 : List (S101)) (a1 : ByteArray) : Option (Int × Bool) := spec_l3At.l0 k l0 a1 0
theorem spec_l3At.mono_l : ∀ k, (∀ y0 y1 y2, LeO (spec_l3At.l0 k y0 y1 y2) (spec_l3At.l0 (k + 1) y0 y1 y2))
  | 0 => fun _ _ _ r h => by simp [spec_l3At.l0] at h
  | k + 1 => by
    have ih0 := spec_l3At.mono_l k
    · intro y0 y1 y2
      unfold spec_l3At.l0
      repeat' first
      | (with_reducible first | exact ih0 _ _ _ | exact LeO.refl _ | exact LeO.none _ | refine LeO.ite ?_ ?_ | refine LeO.bind ?_ (fun _ => ?_))
theorem spec_l3At.mono : ∀ a0 a1 k, LeO (spec_l3At.f k a0 a1) (spec_l3At.f (k + 1) a0 a1) := by
  intro a0 a1 k
  have ih0 := spec_l3At.mono_l k
  unfold spec_l3At.f
  repeat' first
      | (with_reducible first | exact ih0 _ _ _ | exact LeO.refl _ | exact LeO.none _ | refine LeO.ite ?_ ?_ | refine LeO.bind ?_ (fun _ => ?_))
def spec_FieldsPut.j0 : Nat → List (S101) → Bool → List (S101) → Option ((List (S101)) × Bool × Bool)
  | 0, _, _, _ => none
  | k + 1, x0, x8, x9 => (spec_FieldsOk.f k x9).bind fun t525 => (if t525 = true then (some (x9, !x8, true)) else ((some (([] : List (S101)) : List (S101))).bind fun y526 => (if y526.length + x0.length < 4398046511104 then (some ((y526 ++ x0), false, false)) else (none))))
def spec_FieldsPut.f (k : Nat) (l0 : List (S101)) (a1_0 : ByteArray) (a1_1 : ByteArray) : Option ((List (S101)) × Bool × Bool) := (spec_FieldsOk.f k l0).bind fun t489 => (if t489 = true then ((spec_l3At.f k l0 a1_0).bind fun bt493 => ((some (([] : List (S101)) : List (S101))).bind fun y495 => (if y495.length + l0.length < 4398046511104 then ((some (y495 ++ l0 : List (S101))).bind fun y498 => (if bt493.2 = true then (if 0 ≤ bt493.1 then (if bt493.1 < (y498.length : Int) then (spec_FieldsPut.j0 k l0 bt493.2 (y498.set (bt493.1 : Int).toNat (⟨a1_0, a1_1⟩ : S101))) else (none)) else (none)) else ((some (([] : List (S101)) : List (S101))).bind fun y502 => (if 0 ≤ bt493.1 then (if bt493.1 ≤ (l0.length : Int) then ((some (l0.take (bt493.1 : Int).toNat : List (S101))).bind fun y505 => (if y502.length + y505.length < 4398046511104 then ((some (y502 ++ y505 : List (S101))).bind fun y509 => ((some (([(⟨a1_0, a1_1⟩ : S101)] : List (S101)) : List (S101))).bind fun y512 => (if y509.length + y512.length < 4398046511104 then ((some (y509 ++ y512 : List (S101))).bind fun y515 => ((some (l0.drop (bt493.1 : Int).toNat : List (S101))).bind fun y518 => (if y515.length + y518.length < 4398046511104 then (spec_FieldsPut.j0 k l0 bt493.2 (y515 ++ y518)) else (none)))) else (none)))) else (none))) else (none)) else (none))))) else (none)))) else (some ((([] : List (S101))), false, false)))
theorem spec_FieldsPut.mono_l : ∀ k, (∀ y0 y1 y2, LeO (spec_FieldsPut.j0 k y0 y1 y2) (spec_FieldsPut.j0 (k + 1) y0 y1 y2))
  | 0 => fun _ _ _ r h => by simp [spec_FieldsPut.j0] at h
  | k + 1 => by
    have ih0 := spec_FieldsPut.mono_l k
    · intro y0 y1 y2
      unfold spec_FieldsPut.j0
      repeat' first
      | (with_reducible first | exact ih0 _ _ _ | exact spec_FieldsOk.mono _ _ | exact spec_l3At.mono _ _ _ | exact LeO.refl _ | exact LeO.none _ | refine LeO.ite ?_ ?_ | refine LeO.bind ?_ (fun _ => ?_))
theorem spec_FieldsPut.mono : ∀ a0 a1 a2 k, LeO (spec_FieldsPut.f k a0 a1 a2) (spec_FieldsPut.f (k + 1) a0 a1 a2) := by
  intro a0 a1 a2 k
  have ih0 := spec_FieldsPut.mono_l k
  unfold spec_FieldsPut.f
  repeat' first
      | (with_reducible first | exact ih0 _ _ _ | exact spec_FieldsOk.mono _ _ | exact spec_l3At.mono _ _ _ | exact LeO.refl _ | exact LeO.none _ | refine LeO.ite ?_ ?_ | refine LeO.bind ?_ (fun _ => ?_))
def spec_l11Fields.l0 : Nat → List (S101) → Int → List Int → Int → Option ((List (S101)) × Int)
  | 0, _, _, _, _ => none
  | k + 1, x3, x4, x1000, x1001 => if x4 > 0 then ((spec_l11Text.f k x1000 x1001).bind fun bt537 => ((spec_l11Text.f k x1000 bt537.2).bind fun bt539 => ((spec_FieldsPut.f k x3 bt537.1 bt539.1).bind fun bt541 => (spec_l11Fields.l0 k bt541.1 (wrap64 (x4 - 1)) x1000 bt539.2)))) else (some (x3, x1001))
def spec_l11Fields.f (k : Nat) (s0_0 : List Int) (s0_1 : Int) : Option ((List (S101)) × Int) := (spec_l1Rd_pick.f k s0_0 s0_1 5).bind fun bt535 => (spec_l11Fields.l0 k (([] : List (S101))) bt535.1 s0_0 bt535.2)
theorem spec_l11Fields.mono_l : ∀ k, (∀ y0 y1 y2 y3, LeO (spec_l11Fields.l0 k y0 y1 y2 y3) (spec_l11Fields.l0 (k + 1) y0 y1 y2 y3))
  | 0 => fun _ _ _ _ r h => by simp [spec_l11Fields.l0] at h
  | k + 1 => by
    have ih0 := spec_l11Fields.mono_l k
    · intro y0 y1 y2 y3
      unfold spec_l11Fields.l0
      repeat' first
      | (with_reducible first | exact ih0 _ _ _ _ | exact spec_FieldsPut.mono _ _ _ _ | exact spec_l11Text.mono _ _ _ | exact spec_l1Rd_pick.mono _ _ _ _ | exact LeO.refl _ | exact LeO.none _ | refine LeO.ite ?_ ?_ | refine LeO.bind ?_ (fun _ => ?_))
theorem spec_l11Fields.mono : ∀ a0 a1 k, LeO (spec_l11Fields.f k a0 a1) (spec_l11Fields.f (k + 1) a0 a1) := by
  intro a0 a1 k
  have ih0 := spec_l11Fields.mono_l k
  unfold spec_l11Fields.f
  repeat' first
      | (with_reducible first | exact ih0 _ _ _ _ | exact spec_FieldsPut.mono _ _ _ _ | exact spec_l11Text.mono _ _ _ | exact spec_l1Rd_pick.mono _ _ _ _ | exact LeO.refl _ | exact LeO.none _ | refine LeO.ite ?_ ?_ | refine LeO.bind ?_ (fun _ => ?_))
def spec_l11AnyFields.l0 : Nat → List (S101) → Int → List Int → Int → Option ((List (S101)) × Int)
  | 0, _, _, _, _ => none
  | k + 1, x3, x4, x1000, x1001 => if (x3.length : Int) < 16 then ((spec_l1Dec.f k x4).bind fun t557 => (if 1 + t557.size ≤ 9223372036854775807 then ((spec_FieldsPut.f k x3 ((⟨#[102]⟩ : ByteArray) ++ t557) (⟨#[]⟩ : ByteArray)).bind fun bt558 => (spec_l11AnyFields.l0 k bt558.1 (wrap64 (x4 + 1)) x1000 x1001)) else (none))) else (some (x3, x1001))
def spec_l11AnyFields.f (k : Nat) (s0_0 : List Int) (s0_1 : Int) : Option ((List (S101)) × Int) := (spec_l11Fields.f k s0_0 s0_1).bind fun bt546 => ((spec_l1Rd_pick.f k s0_0 bt546.2 12).bind fun bt550 => (if bt550.1 = 0 then ((spec_l11Text.f k s0_0 bt550.2).bind fun bt552 => (if bt546.1.length < 4398046511104 then (some ((bt546.1 ++ [(⟨bt552.1, (⟨#[]⟩ : ByteArray)⟩ : S101)]), bt552.2)) else (none))) else (if bt550.1 = 1 then (spec_l11AnyFields.l0 k bt546.1 10 s0_0 bt550.2) else (some (bt546.1, bt550.2)))))
theorem spec_l11AnyFields.mono_l : ∀ k, (∀ y0 y1 y2 y3, LeO (spec_l11AnyFields.l0 k y0 y1 y2 y3) (spec_l11AnyFields.l0 (k + 1) y0 y1 y2 y3))
  | 0 => fun _ _ _ _ r h => by simp [spec_l11AnyFields.l0] at h
  | k + 1 => by
    have ih0 := spec_l11AnyFields.mono_l k
    · intro y0 y1 y2 y3
      unfold spec_l11AnyFields.l0
      repeat' first
      | (with_reducible first | exact ih0 _ _ _ _ | exact spec_FieldsPut.mono _ _ _ _ | exact spec_l11Fields.mono _ _ _ | exact spec_l11Text.mono _ _ _ | exact spec_l1Dec.mono _ _ | exact spec_l1Rd_pick.mono _ _ _ _ | exact LeO.refl _ | exact LeO.none _ | refine LeO.ite ?_ ?_ | refine LeO.bind ?_ (fun _ => ?_))
theorem spec_l11AnyFields.mono : ∀ a0 a1 k, LeO (spec_l11AnyFields.f k a0 a1) (spec_l11AnyFields.f (k + 1) a0 a1) := by
  intro a0 a1 k
  have ih0 := spec_l11AnyFields.mono_l k
  unfold spec_l11AnyFields.f
  repeat' first
      | (with_reducible first | exact ih0 _ _ _ _ | exact spec_FieldsPut.mono _ _ _ _ | exact spec_l11Fields.mono _ _ _ | exact spec_l11Text.mono _ _ _ | exact spec_l1Dec.mono _ _ | exact spec_l1Rd_pick.mono _ _ _ _ | exact LeO.refl _ | exact LeO.none _ | refine LeO.ite ?_ ?_ | refine LeO.bind ?_ (fun _ => ?_))
def spec_l11Entry.j0 : Nat → List Int → Int → ByteArray → Int → Int → ByteArray → List ByteArray → List (S99) → List (S101) → Option (ByteArray × Int × Int × ByteArray × List ByteArray × (List (S99)) × (List (S101)) × Int)
  | 0, _, _, _, _, _, _, _, _, _ => none
  | k + 1, x1000, x1001, x577000, x577001, x577002, x577003, x577004, x577005, x577006 => (spec_l1Rd_pick.f k x1000 x1001 16).bind fun bt595 => (if bt595.1 = 0 then ((spec_l1Rd_pick.f k x1000 bt595.2 7).bind fun bt597 => (some (x577000, x577001, bt597.1, x577003, x577004, x577005, x577006, bt597.2))) else (some (x577000, x577001, x577002, x577003, x577004, x577005, x577006, bt595.2)))
def spec_l11Entry.f (k : Nat) (s0_0 : List Int) (s0_1 : Int) : Option (ByteArray × Int × Int × ByteArray × List ByteArray × (List (S99)) × (List (S101)) × Int) := (spec_l1Rd_of.f k s0_0 s0_1 (([(⟨#[107]⟩ : ByteArray), (⟨#[108]⟩ : ByteArray), (⟨#[110, 101, 119]⟩ : ByteArray), (⟨#[]⟩ : ByteArray), (⟨#[109, 117, 99, 104, 116, 111, 111, 108, 111, 110, 103, 107, 101, 121]⟩ : ByteArray)] : List ByteArray))).bind fun bt567 => ((spec_l1Rd_pick.f k s0_0 bt567.2 5).bind fun bt569 => ((spec_l1Rd_one.f k s0_0 bt569.2 (([0, 0, 20, 2000001, 1] : List Int))).bind fun bt574 => (if (wrap64 (1 + bt569.1)) = 1 then ((spec_l11Text.f k s0_0 bt574.2).bind fun bt577 => (spec_l11Entry.j0 k s0_0 bt577.2 bt567.1 bt574.1 (wrap64 (1 + bt569.1)) bt577.1 ([] : List ByteArray) ([] : List (S99)) ([] : List (S101)))) else (if (wrap64 (1 + bt569.1)) = 2 then ((spec_l11AnyTexts.f k s0_0 bt574.2).bind fun bt579 => (spec_l11Entry.j0 k s0_0 bt579.2 bt567.1 bt574.1 (wrap64 (1 + bt569.1)) (⟨#[]⟩ : ByteArray) bt579.1 ([] : List (S99)) ([] : List (S101)))) else (if (wrap64 (1 + bt569.1)) = 3 then ((spec_l11AnySet.f k s0_0 bt574.2).bind fun bt583 => (spec_l11Entry.j0 k s0_0 bt583.2 bt567.1 bt574.1 (wrap64 (1 + bt569.1)) (⟨#[]⟩ : ByteArray) bt583.1 ([] : List (S99)) ([] : List (S101)))) else (if (wrap64 (1 + bt569.1)) = 4 then ((spec_l11AnyScores.f k s0_0 bt574.2).bind fun bt587 => (spec_l11Entry.j0 k s0_0 bt587.2 bt567.1 bt574.1 (wrap64 (1 + bt569.1)) (⟨#[]⟩ : ByteArray) ([] : List ByteArray) bt587.1 ([] : List (S101)))) else (if (wrap64 (1 + bt569.1)) = 5 then ((spec_l11AnyFields.f k s0_0 bt574.2).bind fun bt591 => (spec_l11Entry.j0 k s0_0 bt591.2 bt567.1 bt574.1 (wrap64 (1 + bt569.1)) (⟨#[]⟩ : ByteArray) ([] : List ByteArray) ([] : List (S99)) bt591.1)) else (spec_l11Entry.j0 k s0_0 bt574.2 bt567.1 bt574.1 (wrap64 (1 + bt569.1)) (⟨#[]⟩ : ByteArray) ([] : List ByteArray) ([] : List (S99)) ([] : List (S101))))))))))
theorem spec_l11Entry.mono_l : ∀ k, (∀ y0 y1 y2 y3 y4 y5 y6 y7 y8, LeO (spec_l11Entry.j0 k y0 y1 y2 y3 y4 y5 y6 y7 y8) (spec_l11Entry.j0 (k + 1) y0 y1 y2 y3 y4 y5 y6 y7 y8))
  | 0 => fun _ _ _ _ _ _ _ _ _ r h => by simp [spec_l11Entry.j0] at h
  | k + 1 => by
    have ih0 := spec_l11Entry.mono_l k
    · intro y0 y1 y2 y3 y4 y5 y6 y7 y8
      unfold spec_l11Entry.j0
      repeat' first
      | (with_reducible first | exact ih0 _ _ _ _ _ _ _ _ _ | exact spec_l11AnyFields.mono _ _ _ | exact spec_l11AnyScores.mono _ _ _ | exact spec_l11AnySet.mono _ _ _ | exact spec_l11AnyTexts.mono _ _ _ | exact spec_l11Text.mono _ _ _ | exact spec_l1Rd_of.mono _ _ _ _ | exact spec_l1Rd_one.mono _ _ _ _ | exact spec_l1Rd_pick.mono _ _ _ _ | exact LeO.refl _ | exact LeO.none _ | refine LeO.ite ?_ ?_ | refine LeO.bind ?_ (fun _ => ?_))
theorem spec_l11Entry.mono : ∀ a0 a1 k, LeO (spec_l11Entry.f k a0 a1) (spec_l11Entry.f (k + 1) a0 a1) := by
  intro a0 a1 k
  have ih0 := spec_l11Entry.mono_l k
  unfold spec_l11Entry.f
  repeat' first
      | (with_reducible first | exact ih0 _ _ _ _ _ _ _ _ _ | exact spec_l11AnyFields.mono _ _ _ | exact spec_l11AnyScores.mono _ _ _ | exact spec_l11AnySet.mono _ _ _ | exact spec_l11AnyTexts.mono _ _ _ | exact spec_l11Text.mono _ _ _ | exact spec_l1Rd_of.mono _ _ _ _ | exact spec_l1Rd_one.mono _ _ _ _ | exact spec_l1Rd_pick.mono _ _ _ _ | exact LeO.refl _ | exact LeO.none _ | refine LeO.ite ?_ ?_ | refine LeO.bind ?_ (fun _ => ?_))
def spec_l1Open.f (l0 : List Int) : Option (List Int × Int) := if (l0.length : Int) > 2000 then (if 2000 ≤ (l0.length : Int) then (some (l0.take 2000, 0)) else (none)) else (some (l0, 0))
def spec_DrawEntryOk.f (k : Nat) (l0 : List Int) : Option (ByteArray × Int × Int × ByteArray × List ByteArray × (List (S99)) × (List (S101))) := (spec_l1Open.f l0).bind fun bt603 => ((spec_l11Entry.f k bt603.1 bt603.2).bind fun bt606 => (some (bt606.1, bt606.2.1, bt606.2.2.1, bt606.2.2.2.1, bt606.2.2.2.2.1, bt606.2.2.2.2.2.1, bt606.2.2.2.2.2.2.1)))
theorem spec_DrawEntryOk.mono : ∀ a0 k, LeO (spec_DrawEntryOk.f k a0) (spec_DrawEntryOk.f (k + 1) a0) := by
  intro a0 k
  unfold spec_DrawEntryOk.f
  repeat' first
      | (with_reducible first | exact spec_l11Entry.mono _ _ _ | exact LeO.refl _ | exact LeO.none _ | refine LeO.ite ?_ ?_ | refine LeO.bind ?_ (fun _ => ?_))
mutual
def laws_FnEntryOk.j0 : Nat → Bool → Bool → ByteArray → Int → Int → ByteArray → List ByteArray → List (S99) → List (S101) → Option (Bool)
  | 0, _, _, _, _, _, _, _, _, _ => none
  | k + 1, x4, x21, x634000, x634001, x634002, x634003, x634004, x634005, x634006 => if x21 = true then ((spec_EntryOk.f k x634000 x634001 x634002 x634003 x634004 x634005 x634006).bind fun t636 => (some (x4 == t636))) else (if x634002 = 2 then (laws_FnEntryOk.j1 k true x634000 x634001 x634002 x634003 x634004 x634005 x634006 x634000 x634001 (wrap64 ((Int.tmod x634002 5) + 1)) x634003 x634004 x634005 x634006) else (if x634002 = 1 then (laws_FnEntryOk.j1 k (x634003.toList == ([] : List UInt8)) x634000 x634001 x634002 x634003 x634004 x634005 x634006 x634000 x634001 (wrap64 ((Int.tmod x634002 5) + 1)) x634003 x634004 x634005 x634006) else (laws_FnEntryOk.j1 k false x634000 x634001 x634002 x634003 x634004 x634005 x634006 x634000 x634001 (wrap64 ((Int.tmod x634002 5) + 1)) x634003 x634004 x634005 x634006)))
def laws_FnEntryOk.j1 : Nat → Bool → ByteArray → Int → Int → ByteArray → List ByteArray → List (S99) → List (S101) → ByteArray → Int → Int → ByteArray → List ByteArray → List (S99) → List (S101) → Option (Bool)
  | 0, _, _, _, _, _, _, _, _, _, _, _, _, _, _, _ => none
  | k + 1, x44, x634000, x634001, x634002, x634003, x634004, x634005, x634006, x638000, x638001, x638002, x638003, x638004, x638005, x638006 => if x44 = true then (laws_FnEntryOk.j2 k x634000 x634001 x634002 x634003 x634004 x634005 x634006 x638000 x638001 4 x638003 x638004 x638005 x638006) else (laws_FnEntryOk.j2 k x634000 x634001 x634002 x634003 x634004 x634005 x634006 x638000 x638001 x638002 x638003 x638004 x638005 x638006)
def laws_FnEntryOk.j2 : Nat → ByteArray → Int → Int → ByteArray → List ByteArray → List (S99) → List (S101) → ByteArray → Int → Int → ByteArray → List ByteArray → List (S99) → List (S101) → Option (Bool)
  | 0, _, _, _, _, _, _, _, _, _, _, _, _, _, _ => none
  | k + 1, x634000, x634001, x634002, x634003, x634004, x634005, x634006, x638000, x638001, x638002, x638003, x638004, x638005, x638006 => (impl_EntryOk.f k x638000 x638001 x638002 x638003 x638004 x638005 x638006).bind fun t639 => (if t639 = true then (some false) else ((impl_EntryOk.f k x634000 x634001 0 x634003 x634004 x634005 x634006).bind fun t640 => (if t640 = true then (some false) else (if x634002 = 1 then (some true) else (some (decide ((wrap64 ((wrap64 ((x634004.length : Int) + (x634005.length : Int))) + (x634006.length : Int))) > 0)))))))
end
def laws_FnEntryOk.f (k : Nat) (l0 : List Int) : Option (Bool) := if (l0.length : Int) > 1048576 then (some true) else ((spec_DrawEntryOk.f k l0).bind fun bt620 => ((impl_EntryOk.f k bt620.1 bt620.2.1 bt620.2.2.1 bt620.2.2.2.1 bt620.2.2.2.2.1 bt620.2.2.2.2.2.1 bt620.2.2.2.2.2.2).bind fun t634 => ((spec_EntryOk.f k bt620.1 bt620.2.1 bt620.2.2.1 bt620.2.2.2.1 bt620.2.2.2.2.1 bt620.2.2.2.2.2.1 bt620.2.2.2.2.2.2).bind fun t635 => (if (t634 != t635) = true then (laws_FnEntryOk.j0 k t634 true bt620.1 bt620.2.1 bt620.2.2.1 bt620.2.2.2.1 bt620.2.2.2.2.1 bt620.2.2.2.2.2.1 bt620.2.2.2.2.2.2) else (laws_FnEntryOk.j0 k t634 (!t634) bt620.1 bt620.2.1 bt620.2.2.1 bt620.2.2.2.1 bt620.2.2.2.2.1 bt620.2.2.2.2.2.1 bt620.2.2.2.2.2.2)))))
theorem laws_FnEntryOk.mono_l : ∀ k, (∀ y0 y1 y2 y3 y4 y5 y6 y7 y8, LeO (laws_FnEntryOk.j0 k y0 y1 y2 y3 y4 y5 y6 y7 y8) (laws_FnEntryOk.j0 (k + 1) y0 y1 y2 y3 y4 y5 y6 y7 y8)) ∧ (∀ y0 y1 y2 y3 y4 y5 y6 y7 y8 y9 y10 y11 y12 y13 y14, LeO (laws_FnEntryOk.j1 k y0 y1 y2 y3 y4 y5 y6 y7 y8 y9 y10 y11 y12 y13 y14) (laws_FnEntryOk.j1 (k + 1) y0 y1 y2 y3 y4 y5 y6 y7 y8 y9 y10 y11 y12 y13 y14)) ∧ (∀ y0 y1 y2 y3 y4 y5 y6 y7 y8 y9 y10 y11 y12 y13, LeO (laws_FnEntryOk.j2 k y0 y1 y2 y3 y4 y5 y6 y7 y8 y9 y10 y11 y12 y13) (laws_FnEntryOk.j2 (k + 1) y0 y1 y2 y3 y4 y5 y6 y7 y8 y9 y10 y11 y12 y13))
  | 0 => ⟨fun _ _ _ _ _ _ _ _ _ r h => by simp [laws_FnEntryOk.j0] at h, fun _ _ _ _ _ _ _ _ _ _ _ _ _ _ _ r h => by simp [laws_FnEntryOk.j1] at h, fun _ _ _ _ _ _ _ _ _ _ _ _ _ _ r h => by simp [laws_FnEntryOk.j2] at h⟩
  | k + 1 => by
    obtain ⟨ih0, ih1, ih2⟩ := laws_FnEntryOk.mono_l k
    refine ⟨?_, ?_, ?_⟩
    · intro y0 y1 y2 y3 y4 y5 y6 y7 y8
      unfold laws_FnEntryOk.j0
      repeat' first
      | (with_reducible first | exact ih0 _ _ _ _ _ _ _ _ _ | exact ih1 _ _ _ _ _ _ _ _ _ _ _ _ _ _ _ | exact ih2 _ _ _ _ _ _ _ _ _ _ _ _ _ _ | exact impl_EntryOk.mono _ _ _ _ _ _ _ _ | exact spec_DrawEntryOk.mono _ _ | exact spec_EntryOk.mono _ _ _ _ _ _ _ _ | exact LeO.refl _ | exact LeO.none _ | refine LeO.ite ?_ ?_ | refine LeO.bind ?_ (fun _ => ?_))
    · intro y0 y1 y2 y3 y4 y5 y6 y7 y8 y9 y10 y11 y12 y13 y14
      unfold laws_FnEntryOk.j1
      repeat' first
      | (with_reducible first | exact ih0 _ _ _ _ _ _ _ _ _ | exact ih1 _ _ _ _ _ _ _ _ _ _ _ _ _ _ _ | exact ih2 _ _ _ _ _ _ _ _ _ _ _ _ _ _ | exact impl_EntryOk.mono _ _ _ _ _ _ _ _ | exact spec_DrawEntryOk.mono _ _ | exact spec_EntryOk.mono _ _ _ _ _ _ _ _ | exact LeO.refl _ | exact LeO.none _ | refine LeO.ite ?_ ?_ | refine LeO.bind ?_ (fun _ => ?_))
    · intro y0 y1 y2 y3 y4 y5 y6 y7 y8 y9 y10 y11 y12 y13
      unfold laws_FnEntryOk.j2
      repeat' first
      | (with_reducible first | exact ih0 _ _ _ _ _ _ _ _ _ | exact ih1 _ _ _ _ _ _ _ _ _ _ _ _ _ _ _ | exact ih2 _ _ _ _ _ _ _ _ _ _ _ _ _ _ | exact impl_EntryOk.mono _ _ _ _ _ _ _ _ | exact spec_DrawEntryOk.mono _ _ | exact spec_EntryOk.mono _ _ _ _ _ _ _ _ | exact LeO.refl _ | exact LeO.none _ | refine LeO.ite ?_ ?_ | refine LeO.bind ?_ (fun _ => ?_))
theorem laws_FnEntryOk.mono : ∀ a0 k, LeO (laws_FnEntryOk.f k a0) (laws_FnEntryOk.f (k + 1) a0) := by
  intro a0 k
  obtain ⟨ih0, ih1, ih2⟩ := laws_FnEntryOk.mono_l k
  unfold laws_FnEntryOk.f
  repeat' first
      | (with_reducible first | exact ih0 _ _ _ _ _ _ _ _ _ | exact ih1 _ _ _ _ _ _ _ _ _ _ _ _ _ _ _ | exact ih2 _ _ _ _ _ _ _ _ _ _ _ _ _ _ | exact impl_EntryOk.mono _ _ _ _ _ _ _ _ | exact spec_DrawEntryOk.mono _ _ | exact spec_EntryOk.mono _ _ _ _ _ _ _ _ | exact LeO.refl _ | exact LeO.none _ | refine LeO.ite ?_ ?_ | refine LeO.bind ?_ (fun _ => ?_))
def laws_szEntryS.l0 : Nat → List (S26) → Int → Int → Option (Int)
  | 0, _, _, _ => none
  | k + 1, x0, x1, x5 => if x5 < (x0.length : Int) then (if 0 ≤ x5 then ((laws_szEntry.f k ((rd_T26 x0 x5).f0) ((rd_T26 x0 x5).f1) ((rd_T26 x0 x5).f2) ((rd_T26 x0 x5).f3) ((rd_T26 x0 x5).f4) ((rd_T26 x0 x5).f5) ((rd_T26 x0 x5).f6) x1).bind fun t642 => (if t642 < 0 then (some (-1)) else (laws_szEntryS.l0 k x0 t642 (wrap64 (x5 + 1))))) else (none)) else (some x1)
def laws_szEntryS.f (k : Nat) (l0 : List (S26)) (a1 : Int) : Option (Int) := if (wrap64 (a1 - (l0.length : Int))) < 0 then (some (-1)) else (laws_szEntryS.l0 k l0 (wrap64 (a1 - (l0.length : Int))) 0)
theorem laws_szEntryS.mono_l : ∀ k, (∀ y0 y1 y2, LeO (laws_szEntryS.l0 k y0 y1 y2) (laws_szEntryS.l0 (k + 1) y0 y1 y2))
  | 0 => fun _ _ _ r h => by simp [laws_szEntryS.l0] at h
  | k + 1 => by
    have ih0 := laws_szEntryS.mono_l k
    · intro y0 y1 y2
      unfold laws_szEntryS.l0
      repeat' first
      | (with_reducible first | exact ih0 _ _ _ | exact laws_szEntry.mono _ _ _ _ _ _ _ _ _ | exact LeO.refl _ | exact LeO.none _ | refine LeO.ite ?_ ?_ | refine LeO.bind ?_ (fun _ => ?_))
theorem laws_szEntryS.mono : ∀ a0 a1 k, LeO (laws_szEntryS.f k a0 a1) (laws_szEntryS.f (k + 1) a0 a1) := by
  intro a0 a1 k
  have ih0 := laws_szEntryS.mono_l k
  unfold laws_szEntryS.f
  repeat' first
      | (with_reducible first | exact ih0 _ _ _ | exact laws_szEntry.mono _ _ _ _ _ _ _ _ _ | exact LeO.refl _ | exact LeO.none _ | refine LeO.ite ?_ ?_ | refine LeO.bind ?_ (fun _ => ?_))
def laws_szBase.f (k : Nat) (a0_0 : Int) (l0_1 : List (S26)) (a1 : Int) : Option (Int) := (laws_szEntryS.f k l0_1 a1).bind fun t644 => (if t644 < 0 then (some (-1)) else (some t644))
theorem laws_szBase.mono : ∀ a0 a1 a2 k, LeO (laws_szBase.f k a0 a1 a2) (laws_szBase.f (k + 1) a0 a1 a2) := by
  intro a0 a1 a2 k
  unfold laws_szBase.f
  repeat' first
      | (with_reducible first | exact laws_szEntryS.mono _ _ _ | exact LeO.refl _ | exact LeO.none _ | refine LeO.ite ?_ ?_ | refine LeO.bind ?_ (fun _ => ?_))
mutual
def spec_BaseOk.l0 : Nat → Int → Int → List (S32) → Option (Bool)
  | 0, _, _, _ => none
  | k + 1, x3, x646000, x646001 => if x3 < (x646001.length : Int) then (if 0 ≤ x3 then ((spec_EntryOk.f k ((rd_T32 x646001 x3).f0) ((rd_T32 x646001 x3).f1) ((rd_T32 x646001 x3).f2) ((rd_T32 x646001 x3).f3) ((rd_T32 x646001 x3).f4) ((rd_T32 x646001 x3).f5) ((rd_T32 x646001 x3).f6)).bind fun t649 => (if t649 = true then (if ((rd_T32 x646001 x3).f1) = 0 then (if x3 > 0 then (if 0 ≤ (wrap64 (x3 - 1)) then (if (wrap64 (x3 - 1)) < (x646001.length : Int) then (spec_BaseOk.j1 k x3 (!(Op.bytesLess (((rd_T32 x646001 (wrap64 (x3 - 1))).f0).toList) (((rd_T32 x646001 x3).f0).toList))) x646000 x646001) else (none)) else (none)) else (spec_BaseOk.j1 k x3 false x646000 x646001)) else (if ((rd_T32 x646001 x3).f1) ≤ x646000 then (spec_BaseOk.j1 k x3 true x646000 x646001) else (if x3 > 0 then (if 0 ≤ (wrap64 (x3 - 1)) then (if (wrap64 (x3 - 1)) < (x646001.length : Int) then (spec_BaseOk.j1 k x3 (!(Op.bytesLess (((rd_T32 x646001 (wrap64 (x3 - 1))).f0).toList) (((rd_T32 x646001 x3).f0).toList))) x646000 x646001) else (none)) else (none)) else (spec_BaseOk.j1 k x3 false x646000 x646001)))) else (spec_BaseOk.j1 k x3 true x646000 x646001))) else (none)) else ((spec_l1In.f x646000 0 1000000).bind fun t646 => (if t646 = true then (some (decide ((x646001.length : Int) ≤ 12))) else (some false)))
def spec_BaseOk.j1 : Nat → Int → Bool → Int → List (S32) → Option (Bool)
  | 0, _, _, _, _ => none
  | k + 1, x3, x47, x646000, x646001 => if x47 = true then (some false) else (spec_BaseOk.l0 k (wrap64 (x3 + 1)) x646000 x646001)
end
def spec_BaseOk.f (k : Nat) (a0_0 : Int) (l0_1 : List (S32)) : Option (Bool) := spec_BaseOk.l0 k 0 a0_0 l0_1
theorem spec_BaseOk.mono_l : ∀ k, (∀ y0 y1 y2, LeO (spec_BaseOk.l0 k y0 y1 y2) (spec_BaseOk.l0 (k + 1) y0 y1 y2)) ∧ (∀ y0 y1 y2 y3, LeO (spec_BaseOk.j1 k y0 y1 y2 y3) (spec_BaseOk.j1 (k + 1) y0 y1 y2 y3))
  | 0 => ⟨fun _ _ _ r h => by simp [spec_BaseOk.l0] at h, fun _ _ _ _ r h => by simp [spec_BaseOk.j1] at h⟩
  | k + 1 => by
    obtain ⟨ih0, ih1⟩ := spec_BaseOk.mono_l k
    refine ⟨?_, ?_⟩
    · intro y0 y1 y2
      unfold spec_BaseOk.l0
      repeat' first
      | (with_reducible first | exact ih0 _ _ _ | exact ih1 _ _ _ _ | exact spec_EntryOk.mono _ _ _ _ _ _ _ _ | exact LeO.refl _ | exact LeO.none _ | refine LeO.ite ?_ ?_ | refine LeO.bind ?_ (fun _ => ?_))
    · intro y0 y1 y2 y3
      unfold spec_BaseOk.j1
      repeat' first
      | (with_reducible first | exact ih0 _ _ _ | exact ih1 _ _ _ _ | exact spec_EntryOk.mono _ _ _ _ _ _ _ _ | exact LeO.refl _ | exact LeO.none _ | refine LeO.ite ?_ ?_ | refine LeO.bind ?_ (fun _ => ?_))
theorem spec_BaseOk.mono : ∀ a0 a1 k, LeO (spec_BaseOk.f k a0 a1) (spec_BaseOk.f (k + 1) a0 a1) := by
  intro a0 a1 k
  obtain ⟨ih0, ih1⟩ := spec_BaseOk.mono_l k
  unfold spec_BaseOk.f
  repeat' first
      | (with_reducible first | exact ih0 _ _ _ | exact ih1 _ _ _ _ | exact spec_EntryOk.mono _ _ _ _ _ _ _ _ | exact LeO.refl _ | exact LeO.none _ | refine LeO.ite ?_ ?_ | refine LeO.bind ?_ (fun _ => ?_))
def laws_toEntryS.l0 : Nat → List (S26) → List (S32) → Int → Option ((List (S32)))
  | 0, _, _, _ => none
  | k + 1, x0, x3, x4 => if x4 < (x0.length : Int) then (if 0 ≤ x4 then ((laws_toEntry.f k ((rd_T26 x0 x4).f0) ((rd_T26 x0 x4).f1) ((rd_T26 x0 x4).f2) ((rd_T26 x0 x4).f3) ((rd_T26 x0 x4).f4) ((rd_T26 x0 x4).f5) ((rd_T26 x0 x4).f6)).bind fun bt656 => (if x4 < (x3.length : Int) then (laws_toEntryS.l0 k x0 (x3.set (x4 : Int).toNat (⟨bt656.1, bt656.2.1, bt656.2.2.1, bt656.2.2.2.1, bt656.2.2.2.2.1, bt656.2.2.2.2.2.1, bt656.2.2.2.2.2.2⟩ : S32)) (wrap64 (x4 + 1))) else (none))) else (none)) else (some x3)
def laws_toEntryS.f (k : Nat) (l0 : List (S26)) : Option ((List (S32))) := if 0 ≤ (l0.length : Int) then (if ((l0.length : Int) : Int).toNat ≤ 2345624805922 then (laws_toEntryS.l0 k l0 (List.replicate ((l0.length : Int) : Int).toNat z32) 0) else (none)) else (none)
theorem laws_toEntryS.mono_l : ∀ k, (∀ y0 y1 y2, LeO (laws_toEntryS.l0 k y0 y1 y2) (laws_toEntryS.l0 (k + 1) y0 y1 y2))
  | 0 => fun _ _ _ r h => by simp [laws_toEntryS.l0] at h
  | k + 1 => by
    have ih0 := laws_toEntryS.mono_l k
    · intro y0 y1 y2
      unfold laws_toEntryS.l0
      repeat' first
      | (with_reducible first | exact ih0 _ _ _ | exact laws_toEntry.mono _ _ _ _ _ _ _ _ | exact LeO.refl _ | exact LeO.none _ | refine LeO.ite ?_ ?_ | refine LeO.bind ?_ (fun _ => ?_))
theorem laws_toEntryS.mono : ∀ a0 k, LeO (laws_toEntryS.f k a0) (laws_toEntryS.f (k + 1) a0) := by
  intro a0 k
  have ih0 := laws_toEntryS.mono_l k
  unfold laws_toEntryS.f
  repeat' first
      | (with_reducible first | exact ih0 _ _ _ | exact laws_toEntry.mono _ _ _ _ _ _ _ _ | exact LeO.refl _ | exact LeO.none _ | refine LeO.ite ?_ ?_ | refine LeO.bind ?_ (fun _ => ?_))
def laws_toBase.f (k : Nat) (a0_0 : Int) (l0_1 : List (S26)) : Option (Int × (List (S32))) := (laws_toEntryS.f k l0_1).bind fun t673 => (some (a0_0, t673))
theorem laws_toBase.mono : ∀ a0 a1 k, LeO (laws_toBase.f k a0 a1) (laws_toBase.f (k + 1) a0 a1) := by
  intro a0 a1 k
  unfold laws_toBase.f
  repeat' first
      | (with_reducible first | exact laws_toEntryS.mono _ _ | exact LeO.refl _ | exact LeO.none _ | refine LeO.ite ?_ ?_ | refine LeO.bind ?_ (fun _ => ?_))
mutual
def impl_BaseOk.j0 : Nat → Bool → Int → List (S32) → Option (Bool)
  | 0, _, _, _ => none
  | k + 1, x14, x677000, x677001 => if x14 = true then (some false) else (impl_BaseOk.l0 k x677001 (x677001.length : Int) 0 x677000 x677001)
def impl_BaseOk.l0 : Nat → List (S32) → Int → Int → Int → List (S32) → Option (Bool)
  | 0, _, _, _, _, _ => none
  | k + 1, x16, x17, x18, x677000, x677001 => if x18 < x17 then (if 0 ≤ x18 then (if x18 < (x16.length : Int) then ((impl_EntryOk.f k ((rd_T32 x16 x18).f0) ((rd_T32 x16 x18).f1) ((rd_T32 x16 x18).f2) ((rd_T32 x16 x18).f3) ((rd_T32 x16 x18).f4) ((rd_T32 x16 x18).f5) ((rd_T32 x16 x18).f6)).bind fun t680 => (if t680 = true then (if x18 > 0 then (if 0 ≤ (wrap64 (x18 - 1)) then (if (wrap64 (x18 - 1)) < (x677001.length : Int) then (if ((Op.bytesLess (((rd_T32 x677001 (wrap64 (x18 - 1))).f0).toList) (((rd_T32 x16 x18).f0).toList)) = true) then (if ((rd_T32 x16 x18).f1) = 0 then (impl_BaseOk.j2 k x16 x17 x18 false x677000 x677001) else (impl_BaseOk.j2 k x16 x17 x18 (decide (((rd_T32 x16 x18).f1) ≤ x677000)) x677000 x677001)) else (impl_BaseOk.j2 k x16 x17 x18 true x677000 x677001)) else (none)) else (none)) else (if ((rd_T32 x16 x18).f1) = 0 then (impl_BaseOk.j2 k x16 x17 x18 false x677000 x677001) else (impl_BaseOk.j2 k x16 x17 x18 (decide (((rd_T32 x16 x18).f1) ≤ x677000)) x677000 x677001))) else (impl_BaseOk.j2 k x16 x17 x18 true x677000 x677001))) else (none)) else (none)) else (some true)
def impl_BaseOk.j2 : Nat → List (S32) → Int → Int → Bool → Int → List (S32) → Option (Bool)
  | 0, _, _, _, _, _, _ => none
  | k + 1, x16, x17, x18, x53, x677000, x677001 => if x53 = true then (some false) else (impl_BaseOk.l0 k x16 x17 (wrap64 (x18 + 1)) x677000 x677001)
end
def impl_BaseOk.f (k : Nat) (a0_0 : Int) (l0_1 : List (S32)) : Option (Bool) := (impl_within.f a0_0 0 1000000).bind fun t677 => (if t677 = true then (impl_BaseOk.j0 k (decide ((l0_1.length : Int) > 12)) a0_0 l0_1) else (impl_BaseOk.j0 k true a0_0 l0_1))
theorem impl_BaseOk.mono_l : ∀ k, (∀ y0 y1 y2, LeO (impl_BaseOk.j0 k y0 y1 y2) (impl_BaseOk.j0 (k + 1) y0 y1 y2)) ∧ (∀ y0 y1 y2 y3 y4, LeO (impl_BaseOk.l0 k y0 y1 y2 y3 y4) (impl_BaseOk.l0 (k + 1) y0 y1 y2 y3 y4)) ∧ (∀ y0 y1 y2 y3 y4 y5, LeO (impl_BaseOk.j2 k y0 y1 y2 y3 y4 y5) (impl_BaseOk.j2 (k + 1) y0 y1 y2 y3 y4 y5))
  | 0 => ⟨fun _ _ _ r h => by simp [impl_BaseOk.j0] at h, fun _ _ _ _ _ r h => by simp [impl_BaseOk.l0] at h, fun _ _ _ _ _ _ r h => by simp [impl_BaseOk.j2] at h⟩
  | k + 1 => by
    obtain ⟨ih0, ih1, ih2⟩ := impl_BaseOk.mono_l k
    refine ⟨?_, ?_, ?_⟩
    · intro y0 y1 y2
      unfold impl_BaseOk.j0
      repeat' first
      | (with_reducible first | exact ih0 _ _ _ | exact ih1 _ _ _ _ _ | exact ih2 _ _ _ _ _ _ | exact impl_EntryOk.mono _ _ _ _ _ _ _ _ | exact LeO.refl _ | exact LeO.none _ | refine LeO.ite ?_ ?_ | refine LeO.bind ?_ (fun _ => ?_))
    · intro y0 y1 y2 y3 y4
      unfold impl_BaseOk.l0
      repeat' first
      | (with_reducible first | exact ih0 _ _ _ | exact ih1 _ _ _ _ _ | exact ih2 _ _ _ _ _ _ | exact impl_EntryOk.mono _ _ _ _ _ _ _ _ | exact LeO.refl _ | exact LeO.none _ | refine LeO.ite ?_ ?_ | refine LeO.bind ?_ (fun _ => ?_))
    · intro y0 y1 y2 y3 y4 y5
      unfold impl_BaseOk.j2
      repeat' first
      | (with_reducible first | exact ih0 _ _ _ | exact ih1 _ _ _ _ _ | exact ih2 _ _ _ _ _ _ | exact impl_EntryOk.mono _ _ _ _ _ _ _ _ | exact LeO.refl _ | exact LeO.none _ | refine LeO.ite ?_ ?_ | refine LeO.bind ?_ (fun _ => ?_))
theorem impl_BaseOk.mono : ∀ a0 a1 k, LeO (impl_BaseOk.f k a0 a1) (impl_BaseOk.f (k + 1) a0 a1) := by
  intro a0 a1 k
  obtain ⟨ih0, ih1, ih2⟩ := impl_BaseOk.mono_l k
  unfold impl_BaseOk.f
  repeat' first
      | (with_reducible first | exact ih0 _ _ _ | exact ih1 _ _ _ _ _ | exact ih2 _ _ _ _ _ _ | exact impl_EntryOk.mono _ _ _ _ _ _ _ _ | exact LeO.refl _ | exact LeO.none _ | refine LeO.ite ?_ ?_ | refine LeO.bind ?_ (fun _ => ?_))
def laws_eqEntryS.l0 : Nat → List (S32) → List (S32) → Int → Option (Bool)
  | 0, _, _, _ => none
  | k + 1, x0, x1, x5 => if x5 < (x0.length : Int) then (if 0 ≤ x5 then (if x5 < (x1.length : Int) then ((laws_eqEntry.f k ((rd_T32 x0 x5).f0) ((rd_T32 x0 x5).f1) ((rd_T32 x0 x5).f2) ((rd_T32 x0 x5).f3) ((rd_T32 x0 x5).f4) ((rd_T32 x0 x5).f5) ((rd_T32 x0 x5).f6) ((rd_T32 x1 x5).f0) ((rd_T32 x1 x5).f1) ((rd_T32 x1 x5).f2) ((rd_T32 x1 x5).f3) ((rd_T32 x1 x5).f4) ((rd_T32 x1 x5).f5) ((rd_T32 x1 x5).f6)).bind fun t684 => (if t684 = true then (laws_eqEntryS.l0 k x0 x1 (wrap64 (x5 + 1))) else (some false))) else (none)) else (none)) else (some true)
def laws_eqEntryS.f (k : Nat) (l0 : List (S32)) (l1 : List (S32)) : Option (Bool) := if (l0.length : Int) = (l1.length : Int) then (laws_eqEntryS.l0 k l0 l1 0) else (some false)
theorem laws_eqEntryS.mono_l : ∀ k, (∀ y0 y1 y2, LeO (laws_eqEntryS.l0 k y0 y1 y2) (laws_eqEntryS.l0 (k + 1) y0 y1 y2))
  | 0 => fun _ _ _ r h => by simp [laws_eqEntryS.l0] at h
  | k + 1 => by
    have ih0 := laws_eqEntryS.mono_l k
    · intro y0 y1 y2
      unfold laws_eqEntryS.l0
      repeat' first
      | (with_reducible first | exact ih0 _ _ _ | exact laws_eqEntry.mono _ _ _ _ _ _ _ _ _ _ _ _ _ _ _ | exact LeO.refl _ | exact LeO.none _ | refine LeO.ite ?_ ?_ | refine LeO.bind ?_ (fun _ => ?_))
theorem laws_eqEntryS.mono : ∀ a0 a1 k, LeO (laws_eqEntryS.f k a0 a1) (laws_eqEntryS.f (k + 1) a0 a1) := by
  intro a0 a1 k
  have ih0 := laws_eqEntryS.mono_l k
  unfold laws_eqEntryS.f
  repeat' first
      | (with_reducible first | exact ih0 _ _ _ | exact laws_eqEntry.mono _ _ _ _ _ _ _ _ _ _ _ _ _ _ _ | exact LeO.refl _ | exact LeO.none _ | refine LeO.ite ?_ ?_ | refine LeO.bind ?_ (fun _ => ?_))
def laws_eqBase.f (k : Nat) (a0_0 : Int) (l0_1 : List (S32)) (a1_0 : Int) (l1_1 : List (S32)) : Option (Bool) := if a0_0 = a1_0 then ((laws_eqEntryS.f k l0_1 l1_1).bind fun t687 => (if t687 = true then (some true) else (some false))) else (some false)
theorem laws_eqBase.mono : ∀ a0 a1 a2 a3 k, LeO (laws_eqBase.f k a0 a1 a2 a3) (laws_eqBase.f (k + 1) a0 a1 a2 a3) := by
  intro a0 a1 a2 a3 k
  unfold laws_eqBase.f
  repeat' first
      | (with_reducible first | exact laws_eqEntryS.mono _ _ _ | exact LeO.refl _ | exact LeO.none _ | refine LeO.ite ?_ ?_ | refine LeO.bind ?_ (fun _ => ?_))
def laws_FnExactBaseOk.f (k : Nat) (a0_0 : Int) (l0_1 : List (S26)) : Option (Bool) := (laws_szBase.f k a0_0 l0_1 1048576).bind fun t689 => (if t689 < 0 then (some true) else ((laws_toBase.f k a0_0 l0_1).bind fun bt690 => ((spec_BaseOk.f k bt690.1 bt690.2).bind fun t694 => ((laws_toBase.f k a0_0 l0_1).bind fun bt695 => ((impl_BaseOk.f k bt695.1 bt695.2).bind fun t700 => (if (t700 != t694) = true then (some false) else ((laws_toBase.f k a0_0 l0_1).bind fun bt701 => ((laws_eqBase.f k bt695.1 bt695.2 bt701.1 bt701.2).bind fun t705 => (if t705 = true then (some true) else (some false))))))))))
theorem laws_FnExactBaseOk.mono : ∀ a0 a1 k, LeO (laws_FnExactBaseOk.f k a0 a1) (laws_FnExactBaseOk.f (k + 1) a0 a1) := by
  intro a0 a1 k
  unfold laws_FnExactBaseOk.f
  repeat' first
      | (with_reducible first | exact impl_BaseOk.mono _ _ _ | exact laws_eqBase.mono _ _ _ _ _ | exact laws_szBase.mono _ _ _ _ | exact laws_toBase.mono _ _ _ | exact spec_BaseOk.mono _ _ _ | exact LeO.refl _ | exact LeO.none _ | refine LeO.ite ?_ ?_ | refine LeO.bind ?_ (fun _ => ?_))
def spec_Match.f : Nat → ByteArray → ByteArray → Option (Bool)
  | 0, _, _ => none
  | k + 1, a0, a1 => if a0.toList = ([] : List UInt8) then (some (a1.toList == ([] : List UInt8))) else (if 0 < (a0.size : Int) then (if (bt a0 0) = 42 then (if 1 ≤ (a0.size : Int) then ((spec_Match.f k (a0.extract 1 a0.size) a1).bind fun t706 => (if t706 = true then (some true) else (if a1.toList = ([] : List UInt8) then (some false) else (if 1 ≤ (a1.size : Int) then ((spec_Match.f k a0 (a1.extract 1 a1.size)).bind fun t707 => (some t707)) else (none))))) else (none)) else (if a1.toList = ([] : List UInt8) then (some false) else (if (bt a0 0) = 63 then (if 1 ≤ (a0.size : Int) then (if 1 ≤ (a1.size : Int) then ((spec_Match.f k (a0.extract 1 a0.size) (a1.extract 1 a1.size)).bind fun t708 => (some t708)) else (none)) else (none)) else (if 0 < (a1.size : Int) then (if (bt a0 0) = (bt a1 0) then (if 1 ≤ (a0.size : Int) then (if 1 ≤ (a1.size : Int) then ((spec_Match.f k (a0.extract 1 a0.size) (a1.extract 1 a1.size)).bind fun t709 => (some t709)) else (none)) else (none)) else (some false)) else (none))))) else (none))
theorem spec_Match.mono_l : ∀ k, (∀ y0 y1, LeO (spec_Match.f k y0 y1) (spec_Match.f (k + 1) y0 y1))
  | 0 => fun _ _ r h => by simp [spec_Match.f] at h
  | k + 1 => by
    have ih0 := spec_Match.mono_l k
    · intro y0 y1
      unfold spec_Match.f
      repeat' first
      | (with_reducible first | exact ih0 _ _ | exact LeO.refl _ | exact LeO.none _ | refine LeO.ite ?_ ?_ | refine LeO.bind ?_ (fun _ => ?_))
theorem spec_Match.mono : ∀ a0 a1 k, LeO (spec_Match.f k a0 a1) (spec_Match.f (k + 1) a0 a1) := by
  intro a0 a1 k
  have ih0 := spec_Match.mono_l k
  exact ih0 a0 a1
mutual
def spec_BaseKeys.l0 : Nat → ByteArray → List ByteArray → Int → Int → List (S32) → Option (List ByteArray)
  | 0, _, _, _, _, _ => none
  | k + 1, x1, x5, x6, x711000, x711001 => if x6 < (x711001.length : Int) then ((spec_BaseOk.f k x711000 x711001).bind fun t714 => (if t714 = true then (spec_BaseKeys.j1 k x1 x5 x6 (decide ((x1.size : Int) ≤ 12)) x711000 x711001) else (spec_BaseKeys.j1 k x1 x5 x6 false x711000 x711001))) else (spec_BaseKeys.j1 k x1 x5 x6 false x711000 x711001)
def spec_BaseKeys.j1 : Nat → ByteArray → List ByteArray → Int → Bool → Int → List (S32) → Option (List ByteArray)
  | 0, _, _, _, _, _, _ => none
  | k + 1, x1, x5, x6, x21, x711000, x711001 => if x21 = true then (if 0 ≤ x6 then (if x6 < (x711001.length : Int) then ((spec_Match.f k x1 ((rd_T32 x711001 x6).f0)).bind fun t716 => (if t716 = true then (if x5.length < 8796093022208 then (spec_BaseKeys.l0 k x1 (x5 ++ [(rd_T32 x711001 x6).f0]) (wrap64 (x6 + 1)) x711000 x711001) else (none)) else (spec_BaseKeys.l0 k x1 x5 (wrap64 (x6 + 1)) x711000 x711001))) else (none)) else (none)) else (some x5)
end
def spec_BaseKeys.f (k : Nat) (a0_0 : Int) (l0_1 : List (S32)) (a1 : ByteArray) : Option (List ByteArray) := spec_BaseKeys.l0 k a1 (([] : List ByteArray)) 0 a0_0 l0_1
theorem spec_BaseKeys.mono_l : ∀ k, (∀ y0 y1 y2 y3 y4, LeO (spec_BaseKeys.l0 k y0 y1 y2 y3 y4) (spec_BaseKeys.l0 (k + 1) y0 y1 y2 y3 y4)) ∧ (∀ y0 y1 y2 y3 y4 y5, LeO (spec_BaseKeys.j1 k y0 y1 y2 y3 y4 y5) (spec_BaseKeys.j1 (k + 1) y0 y1 y2 y3 y4 y5))
  | 0 => ⟨fun _ _ _ _ _ r h => by simp [spec_BaseKeys.l0] at h, fun _ _ _ _ _ _ r h => by simp [spec_BaseKeys.j1] at h⟩
  | k + 1 => by
    obtain ⟨ih0, ih1⟩ := spec_BaseKeys.mono_l k
    refine ⟨?_, ?_⟩
    · intro y0 y1 y2 y3 y4
      unfold spec_BaseKeys.l0
      repeat' first
      | (with_reducible first | exact ih0 _ _ _ _ _ | exact ih1 _ _ _ _ _ _ | exact spec_BaseOk.mono _ _ _ | exact spec_Match.mono _ _ _ | exact LeO.refl _ | exact LeO.none _ | refine LeO.ite ?_ ?_ | refine LeO.bind ?_ (fun _ => ?_))
    · intro y0 y1 y2 y3 y4 y5
      unfold spec_BaseKeys.j1
      repeat' first
      | (with_reducible first | exact ih0 _ _ _ _ _ | exact ih1 _ _ _ _ _ _ | exact spec_BaseOk.mono _ _ _ | exact spec_Match.mono _ _ _ | exact LeO.refl _ | exact LeO.none _ | refine LeO.ite ?_ ?_ | refine LeO.bind ?_ (fun _ => ?_))
theorem spec_BaseKeys.mono : ∀ a0 a1 a2 k, LeO (spec_BaseKeys.f k a0 a1 a2) (spec_BaseKeys.f (k + 1) a0 a1 a2) := by
  intro a0 a1 a2 k
  obtain ⟨ih0, ih1⟩ := spec_BaseKeys.mono_l k
  unfold spec_BaseKeys.f
  repeat' first
      | (with_reducible first | exact ih0 _ _ _ _ _ | exact ih1 _ _ _ _ _ _ | exact spec_BaseOk.mono _ _ _ | exact spec_Match.mono _ _ _ | exact LeO.refl _ | exact LeO.none _ | refine LeO.ite ?_ ?_ | refine LeO.bind ?_ (fun _ => ?_))
mutual
def impl_Match.l0 : Nat → ByteArray → ByteArray → List Bool → Int → Int → Option (Bool)
  | 0, _, _, _, _, _ => none
  | k + 1, x0, x1, x5, x16, x17 => if x17 < x16 then (if 0 ≤ (wrap64 ((x1.size : Int) + 1)) then (if (wrap64 ((x1.size : Int) + 1) : Int).toNat ≤ 281474976710656 then (impl_Match.l1 k x0 x1 x5 x17 (List.replicate (wrap64 ((x1.size : Int) + 1) : Int).toNat false) x16 x17 (x5.length : Int) 0) else (none)) else (none)) else (if 0 ≤ (x1.size : Int) then (if (x1.size : Int) < (x5.length : Int) then (some (rdOf false x5 (x1.size : Int))) else (none)) else (none))
def impl_Match.l1 : Nat → ByteArray → ByteArray → List Bool → Int → List Bool → Int → Int → Int → Int → Option (Bool)
  | 0, _, _, _, _, _, _, _, _, _ => none
  | k + 1, x0, x1, x5, x6, x7, x16, x17, x25, x26 => if x26 < x25 then (if 0 ≤ x6 then (if x6 < (x0.size : Int) then (if (bt x0 x6) = 42 then (if 0 ≤ x26 then (if x26 < (x5.length : Int) then (if rdOf false x5 x26 = true then (if x26 < (x7.length : Int) then (impl_Match.l1 k x0 x1 x5 x6 (x7.set (x26 : Int).toNat true) x16 x17 x25 (wrap64 (x26 + 1))) else (none)) else (if x26 > 0 then (if 0 ≤ (wrap64 (x26 - 1)) then (if (wrap64 (x26 - 1)) < (x7.length : Int) then (if x26 < (x7.length : Int) then (impl_Match.l1 k x0 x1 x5 x6 (x7.set (x26 : Int).toNat (rdOf false x7 (wrap64 (x26 - 1)))) x16 x17 x25 (wrap64 (x26 + 1))) else (none)) else (none)) else (none)) else (if x26 < (x7.length : Int) then (impl_Match.l1 k x0 x1 x5 x6 (x7.set (x26 : Int).toNat false) x16 x17 x25 (wrap64 (x26 + 1))) else (none)))) else (none)) else (none)) else (if x26 > 0 then (if (bt x0 x6) = 63 then (if 0 ≤ (wrap64 (x26 - 1)) then (if (wrap64 (x26 - 1)) < (x5.length : Int) then (if 0 ≤ x26 then (if x26 < (x7.length : Int) then (impl_Match.l1 k x0 x1 x5 x6 (x7.set (x26 : Int).toNat (rdOf false x5 (wrap64 (x26 - 1)))) x16 x17 x25 (wrap64 (x26 + 1))) else (none)) else (none)) else (none)) else (none)) else (if 0 ≤ (wrap64 (x26 - 1)) then (if (wrap64 (x26 - 1)) < (x1.size : Int) then (if (bt x0 x6) = (bt x1 (wrap64 (x26 - 1))) then (if (wrap64 (x26 - 1)) < (x5.length : Int) then (if 0 ≤ x26 then (if x26 < (x7.length : Int) then (impl_Match.l1 k x0 x1 x5 x6 (x7.set (x26 : Int).toNat (rdOf false x5 (wrap64 (x26 - 1)))) x16 x17 x25 (wrap64 (x26 + 1))) else (none)) else (none)) else (none)) else (impl_Match.l1 k x0 x1 x5 x6 x7 x16 x17 x25 (wrap64 (x26 + 1)))) else (none)) else (none))) else (impl_Match.l1 k x0 x1 x5 x6 x7 x16 x17 x25 (wrap64 (x26 + 1))))) else (none)) else (none)) else (impl_Match.l0 k x0 x1 x7 x16 (wrap64 (x17 + 1)))
end
def impl_Match.f (k : Nat) (a0 : ByteArray) (a1 : ByteArray) : Option (Bool) := if 0 ≤ (wrap64 ((a1.size : Int) + 1)) then (if (wrap64 ((a1.size : Int) + 1) : Int).toNat ≤ 281474976710656 then ((some (List.replicate (wrap64 ((a1.size : Int) + 1) : Int).toNat false : List Bool)).bind fun y721 => (if 0 < (y721.length : Int) then (impl_Match.l0 k a0 a1 (y721.set (0 : Int).toNat true) (a0.size : Int) 0) else (none))) else (none)) else (none)
theorem impl_Match.mono_l : ∀ k, (∀ y0 y1 y2 y3 y4, LeO (impl_Match.l0 k y0 y1 y2 y3 y4) (impl_Match.l0 (k + 1) y0 y1 y2 y3 y4)) ∧ (∀ y0 y1 y2 y3 y4 y5 y6 y7 y8, LeO (impl_Match.l1 k y0 y1 y2 y3 y4 y5 y6 y7 y8) (impl_Match.l1 (k + 1) y0 y1 y2 y3 y4 y5 y6 y7 y8))
  | 0 => ⟨fun _ _ _ _ _ r h => by simp [impl_Match.l0] at h, fun _ _ _ _ _ _ _ _ _ r h => by simp [impl_Match.l1] at h⟩
  | k + 1 => by
    obtain ⟨ih0, ih1⟩ := impl_Match.mono_l k
    refine ⟨?_, ?_⟩
    · intro y0 y1 y2 y3 y4
      unfold impl_Match.l0
      repeat' first
      | (with_reducible first | exact ih0 _ _ _ _ _ | exact ih1 _ _ _ _ _ _ _ _ _ | exact LeO.refl _ | exact LeO.none _ | refine LeO.ite ?_ ?_ | refine LeO.bind ?_ (fun _ => ?_))
    · intro y0 y1 y2 y3 y4 y5 y6 y7 y8
      unfold impl_Match.l1
      repeat' first
      | (with_reducible first | exact ih0 _ _ _ _ _ | exact ih1 _ _ _ _ _ _ _ _ _ | exact LeO.refl _ | exact LeO.none _ | refine LeO.ite ?_ ?_ | refine LeO.bind ?_ (fun _ => ?_))
theorem impl_Match.mono : ∀ a0 a1 k, LeO (impl_Match.f k a0 a1) (impl_Match.f (k + 1) a0 a1) := by
  intro a0 a1 k
  obtain ⟨ih0, ih1⟩ := impl_Match.mono_l k
  unfold impl_Match.f
  repeat' first
      | (with_reducible first | exact ih0 _ _ _ _ _ | exact ih1 _ _ _ _ _ _ _ _ _ | exact LeO.refl _ | exact LeO.none _ | refine LeO.ite ?_ ?_ | refine LeO.bind ?_ (fun _ => ?_))
mutual
def impl_BaseKeys.j0 : Nat → ByteArray → List ByteArray → Bool → Int → List (S32) → Option (List ByteArray)
  | 0, _, _, _, _, _ => none
  | k + 1, x1, x5, x16, x739000, x739001 => if x16 = true then (some x5) else (impl_BaseKeys.l0 k x1 x5 x739001 (x739001.length : Int) 0)
def impl_BaseKeys.l0 : Nat → ByteArray → List ByteArray → List (S32) → Int → Int → Option (List ByteArray)
  | 0, _, _, _, _, _ => none
  | k + 1, x1, x5, x19, x20, x21 => if x21 < x20 then (if 0 ≤ x21 then (if x21 < (x19.length : Int) then ((impl_Match.f k x1 ((rd_T32 x19 x21).f0)).bind fun t745 => (if t745 = true then (if x5.length < 8796093022208 then (impl_BaseKeys.l0 k x1 (x5 ++ [(rd_T32 x19 x21).f0]) x19 x20 (wrap64 (x21 + 1))) else (none)) else (impl_BaseKeys.l0 k x1 x5 x19 x20 (wrap64 (x21 + 1))))) else (none)) else (none)) else (some x5)
end
def impl_BaseKeys.f (k : Nat) (a0_0 : Int) (l0_1 : List (S32)) (a1 : ByteArray) : Option (List ByteArray) := (some (([] : List ByteArray) : List ByteArray)).bind fun y739 => ((impl_BaseOk.f k a0_0 l0_1).bind fun t742 => (if t742 = true then (impl_BaseKeys.j0 k a1 y739 (decide ((a1.size : Int) > 12)) a0_0 l0_1) else (impl_BaseKeys.j0 k a1 y739 true a0_0 l0_1)))
theorem impl_BaseKeys.mono_l : ∀ k, (∀ y0 y1 y2 y3 y4, LeO (impl_BaseKeys.j0 k y0 y1 y2 y3 y4) (impl_BaseKeys.j0 (k + 1) y0 y1 y2 y3 y4)) ∧ (∀ y0 y1 y2 y3 y4, LeO (impl_BaseKeys.l0 k y0 y1 y2 y3 y4) (impl_BaseKeys.l0 (k + 1) y0 y1 y2 y3 y4))
  | 0 => ⟨fun _ _ _ _ _ r h => by simp [impl_BaseKeys.j0] at h, fun _ _ _ _ _ r h => by simp [impl_BaseKeys.l0] at h⟩
  | k + 1 => by
    obtain ⟨ih0, ih1⟩ := impl_BaseKeys.mono_l k
    refine ⟨?_, ?_⟩
    · intro y0 y1 y2 y3 y4
      unfold impl_BaseKeys.j0
      repeat' first
      | (with_reducible first | exact ih0 _ _ _ _ _ | exact ih1 _ _ _ _ _ | exact impl_BaseOk.mono _ _ _ | exact impl_Match.mono _ _ _ | exact LeO.refl _ | exact LeO.none _ | refine LeO.ite ?_ ?_ | refine LeO.bind ?_ (fun _ => ?_))
    · intro y0 y1 y2 y3 y4
      unfold impl_BaseKeys.l0
      repeat' first
      | (with_reducible first | exact ih0 _ _ _ _ _ | exact ih1 _ _ _ _ _ | exact impl_BaseOk.mono _ _ _ | exact impl_Match.mono _ _ _ | exact LeO.refl _ | exact LeO.none _ | refine LeO.ite ?_ ?_ | refine LeO.bind ?_ (fun _ => ?_))
theorem impl_BaseKeys.mono : ∀ a0 a1 a2 k, LeO (impl_BaseKeys.f k a0 a1 a2) (impl_BaseKeys.f (k + 1) a0 a1 a2) := by
  intro a0 a1 a2 k
  obtain ⟨ih0, ih1⟩ := impl_BaseKeys.mono_l k
  unfold impl_BaseKeys.f
  repeat' first
      | (with_reducible first | exact ih0 _ _ _ _ _ | exact ih1 _ _ _ _ _ | exact impl_BaseOk.mono _ _ _ | exact impl_Match.mono _ _ _ | exact LeO.refl _ | exact LeO.none _ | refine LeO.ite ?_ ?_ | refine LeO.bind ?_ (fun _ => ?_))
def laws_markText.l0 : Nat → Int → ByteArray → Option (ByteArray)
  | 0, _, _ => none
  | k + 1, x0, x3 => if x0 > 0 then ((some (([(wrap64 (48 + (Int.tmod x0 10))) % 256] : List Int) : List Int)).bind fun y749 => (if (strOfNums y749).size + x3.size ≤ 9223372036854775807 then (laws_markText.l0 k (wrap64 (Int.tdiv x0 10)) ((strOfNums y749) ++ x3)) else (none))) else (if 1 + x3.size ≤ 9223372036854775807 then (some ((⟨#[109]⟩ : ByteArray) ++ x3)) else (none))
def laws_markText.f (k : Nat) (a0 : Int) : Option (ByteArray) := if a0 ≤ 0 then (some (⟨#[109, 48]⟩ : ByteArray)) else (laws_markText.l0 k a0 (⟨#[]⟩ : ByteArray))
theorem laws_markText.mono_l : ∀ k, (∀ y0 y1, LeO (laws_markText.l0 k y0 y1) (laws_markText.l0 (k + 1) y0 y1))
  | 0 => fun _ _ r h => by simp [laws_markText.l0] at h
  | k + 1 => by
    have ih0 := laws_markText.mono_l k
    · intro y0 y1
      unfold laws_markText.l0
      repeat' first
      | (with_reducible first | exact ih0 _ _ | exact LeO.refl _ | exact LeO.none _ | refine LeO.ite ?_ ?_ | refine LeO.bind ?_ (fun _ => ?_))
theorem laws_markText.mono : ∀ a0 k, LeO (laws_markText.f k a0) (laws_markText.f (k + 1) a0) := by
  intro a0 k
  have ih0 := laws_markText.mono_l k
  unfold laws_markText.f
  repeat' first
      | (with_reducible first | exact ih0 _ _ | exact LeO.refl _ | exact LeO.none _ | refine LeO.ite ?_ ?_ | refine LeO.bind ?_ (fun _ => ?_))
def laws_markStringS.l0 : Nat → List ByteArray → Int → Int → Option (Int × List ByteArray)
  | 0, _, _, _ => none
  | k + 1, x0, x1, x5 => if x5 < (x0.length : Int) then ((laws_markText.f k x1).bind fun t752 => (if 0 ≤ x5 then (laws_markStringS.l0 k (x0.set (x5 : Int).toNat t752) (wrap64 (x1 + 1)) (wrap64 (x5 + 1))) else (none))) else (some (x1, x0))
def laws_markStringS.f (k : Nat) (l0 : List ByteArray) (a1 : Int) : Option (Int × List ByteArray) := laws_markStringS.l0 k l0 a1 0
theorem laws_markStringS.mono_l : ∀ k, (∀ y0 y1 y2, LeO (laws_markStringS.l0 k y0 y1 y2) (laws_markStringS.l0 (k + 1) y0 y1 y2))
  | 0 => fun _ _ _ r h => by simp [laws_markStringS.l0] at h
  | k + 1 => by
    have ih0 := laws_markStringS.mono_l k
    · intro y0 y1 y2
      unfold laws_markStringS.l0
      repeat' first
      | (with_reducible first | exact ih0 _ _ _ | exact laws_markText.mono _ _ | exact LeO.refl _ | exact LeO.none _ | refine LeO.ite ?_ ?_ | refine LeO.bind ?_ (fun _ => ?_))
theorem laws_markStringS.mono : ∀ a0 a1 k, LeO (laws_markStringS.f k a0 a1) (laws_markStringS.f (k + 1) a0 a1) := by
  intro a0 a1 k
  have ih0 := laws_markStringS.mono_l k
  unfold laws_markStringS.f
  repeat' first
      | (with_reducible first | exact ih0 _ _ _ | exact laws_markText.mono _ _ | exact LeO.refl _ | exact LeO.none _ | refine LeO.ite ?_ ?_ | refine LeO.bind ?_ (fun _ => ?_))
def laws_markScoreS.l0 : Nat → List (S99) → Int → Int → Option (Int × (List (S99)))
  | 0, _, _, _ => none
  | k + 1, x0, x1, x5 => if x5 < (x0.length : Int) then ((laws_markText.f k x1).bind fun t754 => (if 0 ≤ x5 then ((some (x0.set (x5 : Int).toNat (⟨t754, (rd_T99 x0 x5).f1⟩ : S99) : List (S99))).bind fun y755 => (laws_markScoreS.l0 k (y755.set (x5 : Int).toNat (⟨(rd_T99 y755 x5).f0, wrap64 (x1 + 1)⟩ : S99)) (wrap64 ((wrap64 (x1 + 1)) + 1)) (wrap64 (x5 + 1)))) else (none))) else (some (x1, x0))
def laws_markScoreS.f (k : Nat) (l0 : List (S99)) (a1 : Int) : Option (Int × (List (S99))) := laws_markScoreS.l0 k l0 a1 0
theorem laws_markScoreS.mono_l : ∀ k, (∀ y0 y1 y2, LeO (laws_markScoreS.l0 k y0 y1 y2) (laws_markScoreS.l0 (k + 1) y0 y1 y2))
  | 0 => fun _ _ _ r h => by simp [laws_markScoreS.l0] at h
  | k + 1 => by
    have ih0 := laws_markScoreS.mono_l k
    · intro y0 y1 y2
      unfold laws_markScoreS.l0
      repeat' first
      | (with_reducible first | exact ih0 _ _ _ | exact laws_markText.mono _ _ | exact LeO.refl _ | exact LeO.none _ | refine LeO.ite ?_ ?_ | refine LeO.bind ?_ (fun _ => ?_))
theorem laws_markScoreS.mono : ∀ a0 a1 k, LeO (laws_markScoreS.f k a0 a1) (laws_markScoreS.f (k + 1) a0 a1) := by
  intro a0 a1 k
  have ih0 := laws_markScoreS.mono_l k
  unfold laws_markScoreS.f
  repeat' first
      | (with_reducible first | exact ih0 _ _ _ | exact laws_markText.mono _ _ | exact LeO.refl _ | exact LeO.none _ | refine LeO.ite ?_ ?_ | refine LeO.bind ?_ (fun _ => ?_))
def laws_markPairS.l0 : Nat → List (S101) → Int → Int → Option (Int × (List (S101)))
  | 0, _, _, _ => none
  | k + 1, x0, x1, x5 => if x5 < (x0.length : Int) then ((laws_markText.f k x1).bind fun t757 => (if 0 ≤ x5 then ((some (x0.set (x5 : Int).toNat (⟨t757, (rd_T101 x0 x5).f1⟩ : S101) : List (S101))).bind fun y758 => ((laws_markText.f k (wrap64 (x1 + 1))).bind fun t759 => (laws_markPairS.l0 k (y758.set (x5 : Int).toNat (⟨(rd_T101 y758 x5).f0, t759⟩ : S101)) (wrap64 ((wrap64 (x1 + 1)) + 1)) (wrap64 (x5 + 1))))) else (none))) else (some (x1, x0))
def laws_markPairS.f (k : Nat) (l0 : List (S101)) (a1 : Int) : Option (Int × (List (S101))) := laws_markPairS.l0 k l0 a1 0
theorem laws_markPairS.mono_l : ∀ k, (∀ y0 y1 y2, LeO (laws_markPairS.l0 k y0 y1 y2) (laws_markPairS.l0 (k + 1) y0 y1 y2))
  | 0 => fun _ _ _ r h => by simp [laws_markPairS.l0] at h
  | k + 1 => by
    have ih0 := laws_markPairS.mono_l k
    · intro y0 y1 y2
      unfold laws_markPairS.l0
      repeat' first
      | (with_reducible first | exact ih0 _ _ _ | exact laws_markText.mono _ _ | exact LeO.refl _ | exact LeO.none _ | refine LeO.ite ?_ ?_ | refine LeO.bind ?_ (fun _ => ?_))
theorem laws_markPairS.mono : ∀ a0 a1 k, LeO (laws_markPairS.f k a0 a1) (laws_markPairS.f (k + 1) a0 a1) := by
  intro a0 a1 k
  have ih0 := laws_markPairS.mono_l k
  unfold laws_markPairS.f
  repeat' first
      | (with_reducible first | exact ih0 _ _ _ | exact laws_markText.mono _ _ | exact LeO.refl _ | exact LeO.none _ | refine LeO.ite ?_ ?_ | refine LeO.bind ?_ (fun _ => ?_))
def laws_markEntryS.l0 : Nat → List (S32) → Int → Int → Option (Int × (List (S32)))
  | 0, _, _, _ => none
  | k + 1, x0, x1, x5 => if x5 < (x0.length : Int) then (if 0 ≤ x5 then ((laws_markText.f k x1).bind fun t0 => ((laws_markText.f k (wrap64 ((wrap64 ((wrap64 (x1 + 1)) + 1)) + 1))).bind fun t1 => ((laws_markStringS.f k ((rd_T32 x0 x5).f4) (wrap64 ((wrap64 ((wrap64 ((wrap64 (x1 + 1)) + 1)) + 1)) + 1))).bind fun p4 => ((laws_markScoreS.f k ((rd_T32 x0 x5).f5) p4.1).bind fun p5 => ((laws_markPairS.f k ((rd_T32 x0 x5).f6) p5.1).bind fun p6 => (laws_markEntryS.l0 k (x0.set (x5 : Int).toNat (⟨t0, wrap64 (x1 + 1), wrap64 ((wrap64 (x1 + 1)) + 1), t1, p4.2, p5.2, p6.2⟩ : S32)) p6.1 (wrap64 (x5 + 1)))))))) else (none)) else (some (x1, x0))
def laws_markEntryS.f (k : Nat) (l0 : List (S32)) (a1 : Int) : Option (Int × (List (S32))) := laws_markEntryS.l0 k l0 a1 0
theorem laws_markEntryS.mono_l : ∀ k, (∀ y0 y1 y2, LeO (laws_markEntryS.l0 k y0 y1 y2) (laws_markEntryS.l0 (k + 1) y0 y1 y2))
  | 0 => fun _ _ _ r h => by simp [laws_markEntryS.l0] at h
  | k + 1 => by
    have ih0 := laws_markEntryS.mono_l k
    · intro y0 y1 y2
      unfold laws_markEntryS.l0
      repeat' first
      | (with_reducible first | exact ih0 _ _ _ | exact laws_markPairS.mono _ _ _ | exact laws_markScoreS.mono _ _ _ | exact laws_markStringS.mono _ _ _ | exact laws_markText.mono _ _ | exact LeO.refl _ | exact LeO.none _ | refine LeO.ite ?_ ?_ | refine LeO.bind ?_ (fun _ => ?_))
theorem laws_markEntryS.mono : ∀ a0 a1 k, LeO (laws_markEntryS.f k a0 a1) (laws_markEntryS.f (k + 1) a0 a1) := fun a0 a1 k => laws_markEntryS.mono_l k a0 a1 0
def laws_markEntryS.L (W : World) (b : Nat) (ok oki : Nat → Prop) (g n cap : Nat) (xs : List S32) (i : Int) (x : S32) (v4 v5 v6 : Value) : Prop :=
  Kd.H k32 32 W b ok (.slice (some ⟨g, 0, none⟩) n cap) xs i oki [.string x.f0, .int .i64 x.f1, .int .i64 x.f2, .string x.f3, v4, v5, v6] ∧ Kd.string.R 9 W b oki v4 x.f4 ∧ k99.R 99 W b oki v5 x.f5 ∧ k101.R 101 W b oki v6 x.f6 ∧ ∀ k, oki k → ok k ∧ k ≠ g
def laws_markBase.f (k : Nat) (a0_0 : Int) (l0_1 : List (S32)) (a1 : Int) : Option (Int × (List (S32))) := laws_markEntryS.f k l0_1 a1
theorem laws_markBase.mono : ∀ a0 a1 a2 k, LeO (laws_markBase.f k a0 a1 a2) (laws_markBase.f (k + 1) a0 a1 a2) := fun _ a1 a2 k => laws_markEntryS.mono a1 a2 k
def laws_heldStringS.l0 : Nat → List ByteArray → Int → Int → Option (Int)
  | 0, _, _, _ => none
  | k + 1, x0, x1, x5 => if x5 < (x0.length : Int) then (if 0 ≤ x5 then ((laws_markText.f k x1).bind fun t762 => (if (rdOf ByteArray.empty x0 x5).toList = t762.toList then (laws_heldStringS.l0 k x0 (wrap64 (x1 + 1)) (wrap64 (x5 + 1))) else (some (-1)))) else (none)) else (some x1)
def laws_heldStringS.f (k : Nat) (l0 : List ByteArray) (a1 : Int) : Option (Int) := laws_heldStringS.l0 k l0 a1 0
theorem laws_heldStringS.mono_l : ∀ k, (∀ y0 y1 y2, LeO (laws_heldStringS.l0 k y0 y1 y2) (laws_heldStringS.l0 (k + 1) y0 y1 y2))
  | 0 => fun _ _ _ r h => by simp [laws_heldStringS.l0] at h
  | k + 1 => by
    have ih0 := laws_heldStringS.mono_l k
    · intro y0 y1 y2
      unfold laws_heldStringS.l0
      repeat' first
      | (with_reducible first | exact ih0 _ _ _ | exact laws_markText.mono _ _ | exact LeO.refl _ | exact LeO.none _ | refine LeO.ite ?_ ?_ | refine LeO.bind ?_ (fun _ => ?_))
theorem laws_heldStringS.mono : ∀ a0 a1 k, LeO (laws_heldStringS.f k a0 a1) (laws_heldStringS.f (k + 1) a0 a1) := by
  intro a0 a1 k
  have ih0 := laws_heldStringS.mono_l k
  unfold laws_heldStringS.f
  repeat' first
      | (with_reducible first | exact ih0 _ _ _ | exact laws_markText.mono _ _ | exact LeO.refl _ | exact LeO.none _ | refine LeO.ite ?_ ?_ | refine LeO.bind ?_ (fun _ => ?_))
def laws_FnExactBaseKeys.f (k : Nat) (a0_0 : Int) (l0_1 : List (S26)) (a1 : ByteArray) : Option Bool := if (a1.size : Int) > 1048576 then some true else (laws_szBase.f k a0_0 l0_1 1048576).bind fun t => if t < 0 then some true else (laws_toBase.f k a0_0 l0_1).bind fun b => (spec_BaseKeys.f k b.1 b.2 a1).bind fun v => (laws_toBase.f k a0_0 l0_1).bind fun x => (impl_BaseKeys.f k x.1 x.2 a1).bind fun g => (laws_eqStringS.f k g v).bind fun e1 => if e1 = true then (laws_toBase.f k a0_0 l0_1).bind fun y => (laws_eqBase.f k x.1 x.2 y.1 y.2).bind fun e2 => if e2 = true then (laws_markBase.f k x.1 x.2 1).bind fun m => if m.1 < 0 then some false else (laws_eqStringS.f k g v).bind fun e3 => if e3 = true then (laws_markStringS.f k g 1).bind fun n => (laws_heldStringS.f k n.2 1).bind fun q => if q < 0 then some false else if q = n.1 then (laws_toBase.f k a0_0 l0_1).bind fun z => (impl_BaseKeys.f k z.1 z.2 a1).bind fun h => (laws_eqStringS.f k h v).bind fun e4 => if e4 = true then (laws_heldStringS.f k n.2 1).bind fun q2 => if q2 < 0 then some false else if q2 = n.1 then some true else some false else some false else some false else some false else some false else some false
def spec_l4At.l0 : Nat → ByteArray → Int → Int → List (S32) → Option (Int × Bool)
  | 0, _, _, _, _ => none
  | k + 1, x1, x6, x764000, x764001 => if x6 < (x764001.length : Int) then (if 0 ≤ x6 then (if (Op.bytesLess (((rd_T32 x764001 x6).f0).toList) x1.toList) = true then (spec_l4At.l0 k x1 (wrap64 (x6 + 1)) x764000 x764001) else (some (x6, (((rd_T32 x764001 x6).f0).toList == x1.toList)))) else (none)) else (some (x6, false))
def spec_l4At.f (k : Nat) (a0_0 : Int) (l0_1 : List (S32)) (a1 : ByteArray) : Option (Int × Bool) := spec_l4At.l0 k a1 0 a0_0 l0_1
theorem spec_l4At.mono_l : ∀ k, (∀ y0 y1 y2 y3, LeO (spec_l4At.l0 k y0 y1 y2 y3) (spec_l4At.l0 (k + 1) y0 y1 y2 y3))
  | 0 => fun _ _ _ _ r h => by simp [spec_l4At.l0] at h
  | k + 1 => by
    have ih0 := spec_l4At.mono_l k
    · intro y0 y1 y2 y3
      unfold spec_l4At.l0
      repeat' first
      | (with_reducible first | exact ih0 _ _ _ _ | exact LeO.refl _ | exact LeO.none _ | refine LeO.ite ?_ ?_ | refine LeO.bind ?_ (fun _ => ?_))
theorem spec_l4At.mono : ∀ a0 a1 a2 k, LeO (spec_l4At.f k a0 a1 a2) (spec_l4At.f (k + 1) a0 a1 a2) := by
  intro a0 a1 a2 k
  have ih0 := spec_l4At.mono_l k
  unfold spec_l4At.f
  repeat' first
      | (with_reducible first | exact ih0 _ _ _ _ | exact LeO.refl _ | exact LeO.none _ | refine LeO.ite ?_ ?_ | refine LeO.bind ?_ (fun _ => ?_))
def spec_l2Copy.f (l0 : List ByteArray) : Option (List ByteArray) := (some (([] : List ByteArray) : List ByteArray)).bind fun y766 => (if y766.length + l0.length < 8796093022208 then (some (y766 ++ l0)) else (none))
def spec_l4Entry.f (a0_0 : ByteArray) (a0_1 : Int) (a0_2 : Int) (a0_3 : ByteArray) (l0_4 : List ByteArray) (l0_5 : List (S99)) (l0_6 : List (S101)) : Option (ByteArray × Int × Int × ByteArray × List ByteArray × (List (S99)) × (List (S101))) := (spec_l2Copy.f l0_4).bind fun t774 => ((some (([] : List (S99)) : List (S99))).bind fun y777 => (if y777.length + l0_5.length < 5864062014805 then ((some (([] : List (S101)) : List (S101))).bind fun y783 => (if y783.length + l0_6.length < 4398046511104 then (some (a0_0, a0_1, a0_2, a0_3, t774, (y777 ++ l0_5), (y783 ++ l0_6))) else (none))) else (none)))
def spec_l4Get.f (k : Nat) (a0_0 : Int) (l0_1 : List (S32)) (a1 : ByteArray) : Option (ByteArray × Int × Int × ByteArray × List ByteArray × (List (S99)) × (List (S101))) := (spec_l4At.f k a0_0 l0_1 a1).bind fun bt791 => (if bt791.2 = true then (if 0 ≤ bt791.1 then (if bt791.1 < (l0_1.length : Int) then ((spec_l4Entry.f ((rd_T32 l0_1 bt791.1).f0) ((rd_T32 l0_1 bt791.1).f1) ((rd_T32 l0_1 bt791.1).f2) ((rd_T32 l0_1 bt791.1).f3) ((rd_T32 l0_1 bt791.1).f4) ((rd_T32 l0_1 bt791.1).f5) ((rd_T32 l0_1 bt791.1).f6)).bind fun bt794 => (some (bt794.1, bt794.2.1, bt794.2.2.1, bt794.2.2.2.1, bt794.2.2.2.2.1, bt794.2.2.2.2.2.1, bt794.2.2.2.2.2.2))) else (none)) else (none)) else (some (a1, 0, 0, (⟨#[]⟩ : ByteArray), ([] : List ByteArray), ([] : List (S99)), ([] : List (S101)))))
theorem spec_l4Get.mono : ∀ a0 a1 a2 k, LeO (spec_l4Get.f k a0 a1 a2) (spec_l4Get.f (k + 1) a0 a1 a2) := by
  intro a0 a1 a2 k
  unfold spec_l4Get.f
  repeat' first
      | (with_reducible first | exact spec_l4At.mono _ _ _ _ | exact LeO.refl _ | exact LeO.none _ | refine LeO.ite ?_ ?_ | refine LeO.bind ?_ (fun _ => ?_))
def spec_BaseGet.f (k : Nat) (a0_0 : Int) (l0_1 : List (S32)) (a1 : ByteArray) : Option (ByteArray × Int × Int × ByteArray × List ByteArray × (List (S99)) × (List (S101)) × Bool) := (spec_BaseOk.f k a0_0 l0_1).bind fun t809 => (if t809 = true then ((spec_l4At.f k a0_0 l0_1 a1).bind fun bt810 => (if bt810.2 = true then ((spec_l4Get.f k a0_0 l0_1 a1).bind fun bt812 => (some (bt812.1, bt812.2.1, bt812.2.2.1, bt812.2.2.2.1, bt812.2.2.2.2.1, bt812.2.2.2.2.2.1, bt812.2.2.2.2.2.2, true))) else (some ((⟨#[]⟩ : ByteArray), 0, 0, (⟨#[]⟩ : ByteArray), ([] : List ByteArray), ([] : List (S99)), ([] : List (S101)), false)))) else (some ((⟨#[]⟩ : ByteArray), 0, 0, (⟨#[]⟩ : ByteArray), ([] : List ByteArray), ([] : List (S99)), ([] : List (S101)), false)))
theorem spec_BaseGet.mono : ∀ a0 a1 a2 k, LeO (spec_BaseGet.f k a0 a1 a2) (spec_BaseGet.f (k + 1) a0 a1 a2) := by
  intro a0 a1 a2 k
  unfold spec_BaseGet.f
  repeat' first
      | (with_reducible first | exact spec_BaseOk.mono _ _ _ | exact spec_l4At.mono _ _ _ _ | exact spec_l4Get.mono _ _ _ _ | exact LeO.refl _ | exact LeO.none _ | refine LeO.ite ?_ ?_ | refine LeO.bind ?_ (fun _ => ?_))
def impl_Base_at.from (t : ByteArray) : List S32 → Nat → Int
  | [], _ => -1
  | x :: r, i => if x.f0.toList = t.toList then (i : Int) else impl_Base_at.from t r (i + 1)
def impl_Base_at.f (a0_0 : Int) (l0 : List S32) (a1 : ByteArray) : Option Int := some (impl_Base_at.from a1 l0 0)
def impl_copied.f (l0 : List ByteArray) : Option (List ByteArray) := (some (([] : List ByteArray) : List ByteArray)).bind fun y825 => (if y825.length + l0.length < 8796093022208 then (some (y825 ++ l0)) else (none))
def impl_copiedScores.f (l0 : List (S99)) : Option ((List (S99))) := (some (([] : List (S99)) : List (S99))).bind fun y831 => (if y831.length + l0.length < 5864062014805 then (some (y831 ++ l0)) else (none))
def impl_copiedPairs.f (l0 : List (S101)) : Option ((List (S101))) := (some (([] : List (S101)) : List (S101))).bind fun y837 => (if y837.length + l0.length < 4398046511104 then (some (y837 ++ l0)) else (none))
def impl_cloneEntry.f (a0_0 : ByteArray) (a0_1 : Int) (a0_2 : Int) (a0_3 : ByteArray) (l0_4 : List ByteArray) (l0_5 : List (S99)) (l0_6 : List (S101)) : Option (ByteArray × Int × Int × ByteArray × List ByteArray × (List (S99)) × (List (S101))) := (impl_copied.f l0_4).bind fun t845 => ((impl_copiedScores.f l0_5).bind fun t848 => ((impl_copiedPairs.f l0_6).bind fun t851 => (some (a0_0, a0_1, a0_2, a0_3, t845, t848, t851))))
def impl_BaseGet.f (k : Nat) (a0_0 : Int) (l0_1 : List (S32)) (a1 : ByteArray) : Option (ByteArray × Int × Int × ByteArray × List ByteArray × (List (S99)) × (List (S101)) × Bool) := (impl_Base_at.f a0_0 l0_1 a1).bind fun t856 => ((impl_BaseOk.f k a0_0 l0_1).bind fun t857 => (if t857 = true then (if t856 < 0 then (some ((⟨#[]⟩ : ByteArray), 0, 0, (⟨#[]⟩ : ByteArray), ([] : List ByteArray), ([] : List (S99)), ([] : List (S101)), false)) else (if 0 ≤ t856 then (if t856 < (l0_1.length : Int) then ((impl_cloneEntry.f ((rd_T32 l0_1 t856).f0) ((rd_T32 l0_1 t856).f1) ((rd_T32 l0_1 t856).f2) ((rd_T32 l0_1 t856).f3) ((rd_T32 l0_1 t856).f4) ((rd_T32 l0_1 t856).f5) ((rd_T32 l0_1 t856).f6)).bind fun bt859 => (some (bt859.1, bt859.2.1, bt859.2.2.1, bt859.2.2.2.1, bt859.2.2.2.2.1, bt859.2.2.2.2.2.1, bt859.2.2.2.2.2.2, true))) else (none)) else (none))) else (some ((⟨#[]⟩ : ByteArray), 0, 0, (⟨#[]⟩ : ByteArray), ([] : List ByteArray), ([] : List (S99)), ([] : List (S101)), false))))
theorem impl_BaseGet.mono : ∀ a0 a1 a2 k, LeO (impl_BaseGet.f k a0 a1 a2) (impl_BaseGet.f (k + 1) a0 a1 a2) := by
  intro a0 a1 a2 k
  unfold impl_BaseGet.f
  repeat' first
      | (with_reducible first | exact impl_BaseOk.mono _ _ _ | exact LeO.refl _ | exact LeO.none _ | refine LeO.ite ?_ ?_ | refine LeO.bind ?_ (fun _ => ?_))
def laws_markEntry.f (k : Nat) (a0_0 : ByteArray) (a0_1 : Int) (a0_2 : Int) (a0_3 : ByteArray) (l0_4 : List ByteArray) (l0_5 : List (S99)) (l0_6 : List (S101)) (a1 : Int) : Option (Int × List ByteArray × (List (S99)) × (List (S101))) := (laws_markStringS.f k l0_4 a1).bind fun bt873 => ((laws_markScoreS.f k l0_5 bt873.1).bind fun bt875 => ((laws_markPairS.f k l0_6 bt875.1).bind fun bt877 => (some (bt877.1, bt873.2, bt875.2, bt877.2))))
theorem laws_markEntry.mono : ∀ a0 a1 a2 a3 a4 a5 a6 a7 k, LeO (laws_markEntry.f k a0 a1 a2 a3 a4 a5 a6 a7) (laws_markEntry.f (k + 1) a0 a1 a2 a3 a4 a5 a6 a7) := by
  intro a0 a1 a2 a3 a4 a5 a6 a7 k
  unfold laws_markEntry.f
  repeat' first
      | (with_reducible first | exact laws_markPairS.mono _ _ _ | exact laws_markScoreS.mono _ _ _ | exact laws_markStringS.mono _ _ _ | exact LeO.refl _ | exact LeO.none _ | refine LeO.ite ?_ ?_ | refine LeO.bind ?_ (fun _ => ?_))
def laws_heldScoreS.l0 : Nat → List (S99) → Int → Int → Option (Int)
  | 0, _, _, _ => none
  | k + 1, x0, x1, x5 => if x5 < (x0.length : Int) then (if 0 ≤ x5 then ((laws_markText.f k x1).bind fun t880 => (if ((rd_T99 x0 x5).f0).toList = t880.toList then (if ((rd_T99 x0 x5).f1) = (wrap64 (x1 + 1)) then (laws_heldScoreS.l0 k x0 (wrap64 ((wrap64 (x1 + 1)) + 1)) (wrap64 (x5 + 1))) else (some (-1))) else (some (-1)))) else (none)) else (some x1)
def laws_heldScoreS.f (k : Nat) (l0 : List (S99)) (a1 : Int) : Option (Int) := laws_heldScoreS.l0 k l0 a1 0
theorem laws_heldScoreS.mono_l : ∀ k, (∀ y0 y1 y2, LeO (laws_heldScoreS.l0 k y0 y1 y2) (laws_heldScoreS.l0 (k + 1) y0 y1 y2))
  | 0 => fun _ _ _ r h => by simp [laws_heldScoreS.l0] at h
  | k + 1 => by
    have ih0 := laws_heldScoreS.mono_l k
    · intro y0 y1 y2
      unfold laws_heldScoreS.l0
      repeat' first
      | (with_reducible first | exact ih0 _ _ _ | exact laws_markText.mono _ _ | exact LeO.refl _ | exact LeO.none _ | refine LeO.ite ?_ ?_ | refine LeO.bind ?_ (fun _ => ?_))
theorem laws_heldScoreS.mono : ∀ a0 a1 k, LeO (laws_heldScoreS.f k a0 a1) (laws_heldScoreS.f (k + 1) a0 a1) := by
  intro a0 a1 k
  have ih0 := laws_heldScoreS.mono_l k
  unfold laws_heldScoreS.f
  repeat' first
      | (with_reducible first | exact ih0 _ _ _ | exact laws_markText.mono _ _ | exact LeO.refl _ | exact LeO.none _ | refine LeO.ite ?_ ?_ | refine LeO.bind ?_ (fun _ => ?_))
def laws_heldPairS.l0 : Nat → List (S101) → Int → Int → Option (Int)
  | 0, _, _, _ => none
  | k + 1, x0, x1, x5 => if x5 < (x0.length : Int) then (if 0 ≤ x5 then ((laws_markText.f k x1).bind fun t883 => (if ((rd_T101 x0 x5).f0).toList = t883.toList then ((laws_markText.f k (wrap64 (x1 + 1))).bind fun t885 => (if ((rd_T101 x0 x5).f1).toList = t885.toList then (laws_heldPairS.l0 k x0 (wrap64 ((wrap64 (x1 + 1)) + 1)) (wrap64 (x5 + 1))) else (some (-1)))) else (some (-1)))) else (none)) else (some x1)
def laws_heldPairS.f (k : Nat) (l0 : List (S101)) (a1 : Int) : Option (Int) := laws_heldPairS.l0 k l0 a1 0
theorem laws_heldPairS.mono_l : ∀ k, (∀ y0 y1 y2, LeO (laws_heldPairS.l0 k y0 y1 y2) (laws_heldPairS.l0 (k + 1) y0 y1 y2))
  | 0 => fun _ _ _ r h => by simp [laws_heldPairS.l0] at h
  | k + 1 => by
    have ih0 := laws_heldPairS.mono_l k
    · intro y0 y1 y2
      unfold laws_heldPairS.l0
      repeat' first
      | (with_reducible first | exact ih0 _ _ _ | exact laws_markText.mono _ _ | exact LeO.refl _ | exact LeO.none _ | refine LeO.ite ?_ ?_ | refine LeO.bind ?_ (fun _ => ?_))
theorem laws_heldPairS.mono : ∀ a0 a1 k, LeO (laws_heldPairS.f k a0 a1) (laws_heldPairS.f (k + 1) a0 a1) := by
  intro a0 a1 k
  have ih0 := laws_heldPairS.mono_l k
  unfold laws_heldPairS.f
  repeat' first
      | (with_reducible first | exact ih0 _ _ _ | exact laws_markText.mono _ _ | exact LeO.refl _ | exact LeO.none _ | refine LeO.ite ?_ ?_ | refine LeO.bind ?_ (fun _ => ?_))
def laws_heldEntry.f (k : Nat) (a0_0 : ByteArray) (a0_1 : Int) (a0_2 : Int) (a0_3 : ByteArray) (l0_4 : List ByteArray) (l0_5 : List (S99)) (l0_6 : List (S101)) (a1 : Int) : Option (Int) := (laws_heldStringS.f k l0_4 a1).bind fun t887 => (if t887 < 0 then (some (-1)) else ((laws_heldScoreS.f k l0_5 t887).bind fun t888 => (if t888 < 0 then (some (-1)) else ((laws_heldPairS.f k l0_6 t888).bind fun t889 => (if t889 < 0 then (some (-1)) else (some t889))))))
theorem laws_heldEntry.mono : ∀ a0 a1 a2 a3 a4 a5 a6 a7 k, LeO (laws_heldEntry.f k a0 a1 a2 a3 a4 a5 a6 a7) (laws_heldEntry.f (k + 1) a0 a1 a2 a3 a4 a5 a6 a7) := by
  intro a0 a1 a2 a3 a4 a5 a6 a7 k
  unfold laws_heldEntry.f
  repeat' first
      | (with_reducible first | exact laws_heldPairS.mono _ _ _ | exact laws_heldScoreS.mono _ _ _ | exact laws_heldStringS.mono _ _ _ | exact LeO.refl _ | exact LeO.none _ | refine LeO.ite ?_ ?_ | refine LeO.bind ?_ (fun _ => ?_))
def laws_FnExactBaseGet.f (k : Nat) (a0_0 : Int) (l0_1 : List (S26)) (a1 : ByteArray) : Option Bool := if (a1.size : Int) > 1048576 then some true else (laws_szBase.f k a0_0 l0_1 1048576).bind fun t => if t < 0 then some true else (laws_toBase.f k a0_0 l0_1).bind fun b => (spec_BaseGet.f k b.1 b.2 a1).bind fun v => (laws_toBase.f k a0_0 l0_1).bind fun x => (impl_BaseGet.f k x.1 x.2 a1).bind fun g => (laws_eqEntry.f k g.1 g.2.1 g.2.2.1 g.2.2.2.1 g.2.2.2.2.1 g.2.2.2.2.2.1 g.2.2.2.2.2.2.1 v.1 v.2.1 v.2.2.1 v.2.2.2.1 v.2.2.2.2.1 v.2.2.2.2.2.1 v.2.2.2.2.2.2.1).bind fun e1 => if e1 = true then if (g.2.2.2.2.2.2.2 != v.2.2.2.2.2.2.2) = true then some false else (laws_toBase.f k a0_0 l0_1).bind fun y => (laws_eqBase.f k x.1 x.2 y.1 y.2).bind fun e2 => if e2 = true then (laws_markBase.f k x.1 x.2 1).bind fun m => if m.1 < 0 then some false else (laws_eqEntry.f k g.1 g.2.1 g.2.2.1 g.2.2.2.1 g.2.2.2.2.1 g.2.2.2.2.2.1 g.2.2.2.2.2.2.1 v.1 v.2.1 v.2.2.1 v.2.2.2.1 v.2.2.2.2.1 v.2.2.2.2.2.1 v.2.2.2.2.2.2.1).bind fun e3 => if e3 = true then (laws_markEntry.f k g.1 g.2.1 g.2.2.1 g.2.2.2.1 g.2.2.2.2.1 g.2.2.2.2.2.1 g.2.2.2.2.2.2.1 1).bind fun n => (laws_heldEntry.f k g.1 g.2.1 g.2.2.1 g.2.2.2.1 n.2.1 n.2.2.1 n.2.2.2 1).bind fun q => if q < 0 then some false else if q = n.1 then (laws_toBase.f k a0_0 l0_1).bind fun z => (impl_BaseGet.f k z.1 z.2 a1).bind fun h => (laws_eqEntry.f k h.1 h.2.1 h.2.2.1 h.2.2.2.1 h.2.2.2.2.1 h.2.2.2.2.2.1 h.2.2.2.2.2.2.1 v.1 v.2.1 v.2.2.1 v.2.2.2.1 v.2.2.2.2.1 v.2.2.2.2.2.1 v.2.2.2.2.2.2.1).bind fun e4 => if e4 = true then if (h.2.2.2.2.2.2.2 != v.2.2.2.2.2.2.2) = true then some false else (laws_heldEntry.f k g.1 g.2.1 g.2.2.1 g.2.2.2.1 n.2.1 n.2.2.1 n.2.2.2 1).bind fun q2 => if q2 < 0 then some false else if q2 = n.1 then some true else some false else some false else some false else some false else some false else some false
def spec_l4Copy.l0 : Nat → Int → Int → List (S32) → Int → List (S32) → Option (Int × (List (S32)))
  | 0, _, _, _, _, _ => none
  | k + 1, x4, x891000, x891001, x893000, x893001 => if x4 < (x891001.length : Int) then (if 0 ≤ x4 then ((spec_l4Entry.f ((rd_T32 x891001 x4).f0) ((rd_T32 x891001 x4).f1) ((rd_T32 x891001 x4).f2) ((rd_T32 x891001 x4).f3) ((rd_T32 x891001 x4).f4) ((rd_T32 x891001 x4).f5) ((rd_T32 x891001 x4).f6)).bind fun bt894 => (if x893001.length < 1172812402961 then (spec_l4Copy.l0 k (wrap64 (x4 + 1)) x891000 x891001 x893000 (x893001 ++ [(⟨bt894.1, bt894.2.1, bt894.2.2.1, bt894.2.2.2.1, bt894.2.2.2.2.1, bt894.2.2.2.2.2.1, bt894.2.2.2.2.2.2⟩ : S32)])) else (none))) else (none)) else (some (x893000, x893001))
def spec_l4Copy.f (k : Nat) (a0_0 : Int) (l0_1 : List (S32)) : Option (Int × (List (S32))) := spec_l4Copy.l0 k 0 a0_0 l0_1 a0_0 ([] : List (S32))
theorem spec_l4Copy.mono_l : ∀ k, (∀ y0 y1 y2 y3 y4, LeO (spec_l4Copy.l0 k y0 y1 y2 y3 y4) (spec_l4Copy.l0 (k + 1) y0 y1 y2 y3 y4))
  | 0 => fun _ _ _ _ _ r h => by simp [spec_l4Copy.l0] at h
  | k + 1 => by
    have ih0 := spec_l4Copy.mono_l k
    · intro y0 y1 y2 y3 y4
      unfold spec_l4Copy.l0
      repeat' first
      | (with_reducible first | exact ih0 _ _ _ _ _ | exact LeO.refl _ | exact LeO.none _ | refine LeO.ite ?_ ?_ | refine LeO.bind ?_ (fun _ => ?_))
theorem spec_l4Copy.mono : ∀ a0 a1 k, LeO (spec_l4Copy.f k a0 a1) (spec_l4Copy.f (k + 1) a0 a1) := by
  intro a0 a1 k
  have ih0 := spec_l4Copy.mono_l k
  unfold spec_l4Copy.f
  repeat' first
      | (with_reducible first | exact ih0 _ _ _ _ _ | exact LeO.refl _ | exact LeO.none _ | refine LeO.ite ?_ ?_ | refine LeO.bind ?_ (fun _ => ?_))
def spec_l4Tick.l0 : Nat → Int → Int → List (S32) → Int → List (S32) → Option (Int × (List (S32)))
  | 0, _, _, _, _, _ => none
  | k + 1, x6, x911000, x911001, x913000, x913001 => if x6 < (x911001.length : Int) then (if 0 ≤ x6 then (if ((rd_T32 x911001 x6).f1) = 0 then ((spec_l4Entry.f ((rd_T32 x911001 x6).f0) ((rd_T32 x911001 x6).f1) ((rd_T32 x911001 x6).f2) ((rd_T32 x911001 x6).f3) ((rd_T32 x911001 x6).f4) ((rd_T32 x911001 x6).f5) ((rd_T32 x911001 x6).f6)).bind fun bt915 => (if x913001.length < 1172812402961 then (spec_l4Tick.l0 k (wrap64 (x6 + 1)) x911000 x911001 x913000 (x913001 ++ [(⟨bt915.1, bt915.2.1, bt915.2.2.1, bt915.2.2.2.1, bt915.2.2.2.2.1, bt915.2.2.2.2.2.1, bt915.2.2.2.2.2.2⟩ : S32)])) else (none))) else (if ((rd_T32 x911001 x6).f1) > x913000 then ((spec_l4Entry.f ((rd_T32 x911001 x6).f0) ((rd_T32 x911001 x6).f1) ((rd_T32 x911001 x6).f2) ((rd_T32 x911001 x6).f3) ((rd_T32 x911001 x6).f4) ((rd_T32 x911001 x6).f5) ((rd_T32 x911001 x6).f6)).bind fun bt933 => (if x913001.length < 1172812402961 then (spec_l4Tick.l0 k (wrap64 (x6 + 1)) x911000 x911001 x913000 (x913001 ++ [(⟨bt933.1, bt933.2.1, bt933.2.2.1, bt933.2.2.2.1, bt933.2.2.2.2.1, bt933.2.2.2.2.2.1, bt933.2.2.2.2.2.2⟩ : S32)])) else (none))) else (spec_l4Tick.l0 k (wrap64 (x6 + 1)) x911000 x911001 x913000 x913001))) else (none)) else (some (x913000, x913001))
def spec_l4Tick.f (k : Nat) (a0_0 : Int) (l0_1 : List (S32)) (a1 : Int) : Option (Int × (List (S32))) := spec_l4Tick.l0 k 0 a0_0 l0_1 (wrap64 (a0_0 + a1)) ([] : List (S32))
theorem spec_l4Tick.mono_l : ∀ k, (∀ y0 y1 y2 y3 y4, LeO (spec_l4Tick.l0 k y0 y1 y2 y3 y4) (spec_l4Tick.l0 (k + 1) y0 y1 y2 y3 y4))
  | 0 => fun _ _ _ _ _ r h => by simp [spec_l4Tick.l0] at h
  | k + 1 => by
    have ih0 := spec_l4Tick.mono_l k
    · intro y0 y1 y2 y3 y4
      unfold spec_l4Tick.l0
      repeat' first
      | (with_reducible first | exact ih0 _ _ _ _ _ | exact LeO.refl _ | exact LeO.none _ | refine LeO.ite ?_ ?_ | refine LeO.bind ?_ (fun _ => ?_))
theorem spec_l4Tick.mono : ∀ a0 a1 a2 k, LeO (spec_l4Tick.f k a0 a1 a2) (spec_l4Tick.f (k + 1) a0 a1 a2) := by
  intro a0 a1 a2 k
  have ih0 := spec_l4Tick.mono_l k
  unfold spec_l4Tick.f
  repeat' first
      | (with_reducible first | exact ih0 _ _ _ _ _ | exact LeO.refl _ | exact LeO.none _ | refine LeO.ite ?_ ?_ | refine LeO.bind ?_ (fun _ => ?_))
def spec_BaseTick.f (k : Nat) (a0_0 : Int) (l0_1 : List (S32)) (a1 : Int) : Option (Int × (List (S32))) := (spec_BaseOk.f k a0_0 l0_1).bind fun t => (if t = true then ((spec_l1In.f a1 0 (wrap64 (1000000 - a0_0))).bind fun u => (if u = true then spec_l4Tick.f k a0_0 l0_1 a1 else spec_l4Copy.f k a0_0 l0_1)) else (some (0, [])))
theorem spec_BaseTick.mono : ∀ a0 a1 a2 k, LeO (spec_BaseTick.f k a0 a1 a2) (spec_BaseTick.f (k + 1) a0 a1 a2) := by
  intro a0 a1 a2 k
  unfold spec_BaseTick.f
  repeat' first
    | (with_reducible first | exact spec_BaseOk.mono _ _ _ | exact spec_l4Tick.mono _ _ _ _ | exact spec_l4Copy.mono _ _ _ | exact LeO.refl _ | exact LeO.none _ | refine LeO.ite ?_ ?_ | refine LeO.bind ?_ (fun _ => ?_))
def impl_cloneBase.l0 : Nat → List (S32) → Int → Int → Int → List (S32) → Option (Int × (List (S32)))
  | 0, _, _, _, _, _ => none
  | k + 1, x11, x12, x13, x955000, x955001 => if x13 < x12 then (if 0 ≤ x13 then (if x13 < (x11.length : Int) then ((impl_cloneEntry.f ((rd_T32 x11 x13).f0) ((rd_T32 x11 x13).f1) ((rd_T32 x11 x13).f2) ((rd_T32 x11 x13).f3) ((rd_T32 x11 x13).f4) ((rd_T32 x11 x13).f5) ((rd_T32 x11 x13).f6)).bind fun bt957 => (if x955001.length < 1172812402961 then (impl_cloneBase.l0 k x11 x12 (wrap64 (x13 + 1)) x955000 (x955001 ++ [(⟨bt957.1, bt957.2.1, bt957.2.2.1, bt957.2.2.2.1, bt957.2.2.2.2.1, bt957.2.2.2.2.2.1, bt957.2.2.2.2.2.2⟩ : S32)])) else (none))) else (none)) else (none)) else (some (x955000, x955001))
def impl_cloneBase.f (k : Nat) (a0_0 : Int) (l0_1 : List (S32)) : Option (Int × (List (S32))) := impl_cloneBase.l0 k l0_1 (l0_1.length : Int) 0 a0_0 (([] : List (S32)))
theorem impl_cloneBase.mono_l : ∀ k, (∀ y0 y1 y2 y3 y4, LeO (impl_cloneBase.l0 k y0 y1 y2 y3 y4) (impl_cloneBase.l0 (k + 1) y0 y1 y2 y3 y4))
  | 0 => fun _ _ _ _ _ r h => by simp [impl_cloneBase.l0] at h
  | k + 1 => by
    have ih0 := impl_cloneBase.mono_l k
    · intro y0 y1 y2 y3 y4
      unfold impl_cloneBase.l0
      repeat' first
      | (with_reducible first | exact ih0 _ _ _ _ _ | exact LeO.refl _ | exact LeO.none _ | refine LeO.ite ?_ ?_ | refine LeO.bind ?_ (fun _ => ?_))
theorem impl_cloneBase.mono : ∀ a0 a1 k, LeO (impl_cloneBase.f k a0 a1) (impl_cloneBase.f (k + 1) a0 a1) := by
  intro a0 a1 k
  have ih0 := impl_cloneBase.mono_l k
  unfold impl_cloneBase.f
  repeat' first
      | (with_reducible first | exact ih0 _ _ _ _ _ | exact LeO.refl _ | exact LeO.none _ | refine LeO.ite ?_ ?_ | refine LeO.bind ?_ (fun _ => ?_))
mutual
def impl_BaseTick.j0 : Nat → Int → Bool → Int → List (S32) → Option (Int × (List (S32)))
  | 0, _, _, _, _ => none
  | k + 1, x1, x20, x974000, x974001 => if x20 = true then ((impl_cloneBase.f k x974000 x974001).bind fun bt976 => (some (bt976.1, bt976.2))) else (impl_BaseTick.l0 k x974001 (x974001.length : Int) 0 (wrap64 (x974000 + x1)) (([] : List (S32))))
def impl_BaseTick.l0 : Nat → List (S32) → Int → Int → Int → List (S32) → Option (Int × (List (S32)))
  | 0, _, _, _, _, _ => none
  | k + 1, x30, x31, x32, x984000, x984001 => if x32 < x31 then (if 0 ≤ x32 then (if x32 < (x30.length : Int) then (if ((rd_T32 x30 x32).f1) = 0 then ((impl_cloneEntry.f ((rd_T32 x30 x32).f0) ((rd_T32 x30 x32).f1) ((rd_T32 x30 x32).f2) ((rd_T32 x30 x32).f3) ((rd_T32 x30 x32).f4) ((rd_T32 x30 x32).f5) ((rd_T32 x30 x32).f6)).bind fun bt986 => (if x984001.length < 1172812402961 then (impl_BaseTick.l0 k x30 x31 (wrap64 (x32 + 1)) x984000 (x984001 ++ [(⟨bt986.1, bt986.2.1, bt986.2.2.1, bt986.2.2.2.1, bt986.2.2.2.2.1, bt986.2.2.2.2.2.1, bt986.2.2.2.2.2.2⟩ : S32)])) else (none))) else (if ((rd_T32 x30 x32).f1) > x984000 then ((impl_cloneEntry.f ((rd_T32 x30 x32).f0) ((rd_T32 x30 x32).f1) ((rd_T32 x30 x32).f2) ((rd_T32 x30 x32).f3) ((rd_T32 x30 x32).f4) ((rd_T32 x30 x32).f5) ((rd_T32 x30 x32).f6)).bind fun bt1002 => (if x984001.length < 1172812402961 then (impl_BaseTick.l0 k x30 x31 (wrap64 (x32 + 1)) x984000 (x984001 ++ [(⟨bt1002.1, bt1002.2.1, bt1002.2.2.1, bt1002.2.2.2.1, bt1002.2.2.2.2.1, bt1002.2.2.2.2.2.1, bt1002.2.2.2.2.2.2⟩ : S32)])) else (none))) else (impl_BaseTick.l0 k x30 x31 (wrap64 (x32 + 1)) x984000 x984001))) else (none)) else (none)) else (some (x984000, x984001))
end
def impl_BaseTick.f (k : Nat) (a0_0 : Int) (l0_1 : List (S32)) (a1 : Int) : Option (Int × (List (S32))) := (impl_BaseOk.f k a0_0 l0_1).bind fun t975 => (if t975 = true then (if a1 < 0 then (impl_BaseTick.j0 k a1 true a0_0 l0_1) else (impl_BaseTick.j0 k a1 (decide (a1 > (wrap64 (1000000 - a0_0)))) a0_0 l0_1)) else (some (0, ([] : List (S32)))))
theorem impl_BaseTick.mono_l : ∀ k, (∀ y0 y1 y2 y3, LeO (impl_BaseTick.j0 k y0 y1 y2 y3) (impl_BaseTick.j0 (k + 1) y0 y1 y2 y3)) ∧ (∀ y0 y1 y2 y3 y4, LeO (impl_BaseTick.l0 k y0 y1 y2 y3 y4) (impl_BaseTick.l0 (k + 1) y0 y1 y2 y3 y4))
  | 0 => ⟨fun _ _ _ _ r h => by simp [impl_BaseTick.j0] at h, fun _ _ _ _ _ r h => by simp [impl_BaseTick.l0] at h⟩
  | k + 1 => by
    obtain ⟨ih0, ih1⟩ := impl_BaseTick.mono_l k
    refine ⟨?_, ?_⟩
    · intro y0 y1 y2 y3
      unfold impl_BaseTick.j0
      repeat' first
      | (with_reducible first | exact ih0 _ _ _ _ | exact ih1 _ _ _ _ _ | exact impl_BaseOk.mono _ _ _ | exact impl_cloneBase.mono _ _ _ | exact LeO.refl _ | exact LeO.none _ | refine LeO.ite ?_ ?_ | refine LeO.bind ?_ (fun _ => ?_))
    · intro y0 y1 y2 y3 y4
      unfold impl_BaseTick.l0
      repeat' first
      | (with_reducible first | exact ih0 _ _ _ _ | exact ih1 _ _ _ _ _ | exact impl_BaseOk.mono _ _ _ | exact impl_cloneBase.mono _ _ _ | exact LeO.refl _ | exact LeO.none _ | refine LeO.ite ?_ ?_ | refine LeO.bind ?_ (fun _ => ?_))
theorem impl_BaseTick.mono : ∀ a0 a1 a2 k, LeO (impl_BaseTick.f k a0 a1 a2) (impl_BaseTick.f (k + 1) a0 a1 a2) := by
  intro a0 a1 a2 k
  obtain ⟨ih0, ih1⟩ := impl_BaseTick.mono_l k
  unfold impl_BaseTick.f
  repeat' first
      | (with_reducible first | exact ih0 _ _ _ _ | exact ih1 _ _ _ _ _ | exact impl_BaseOk.mono _ _ _ | exact impl_cloneBase.mono _ _ _ | exact LeO.refl _ | exact LeO.none _ | refine LeO.ite ?_ ?_ | refine LeO.bind ?_ (fun _ => ?_))
def laws_heldEntryS.l0 : Nat → List (S32) → Int → Int → Option (Int)
  | 0, _, _, _ => none
  | k + 1, x0, x1, x5 => if x5 < (x0.length : Int) then (if 0 ≤ x5 then ((laws_markText.f k x1).bind fun t1019 => (if ((rd_T32 x0 x5).f0).toList = t1019.toList then (if ((rd_T32 x0 x5).f1) = (wrap64 (x1 + 1)) then (if ((rd_T32 x0 x5).f2) = (wrap64 ((wrap64 (x1 + 1)) + 1)) then ((laws_markText.f k (wrap64 ((wrap64 ((wrap64 (x1 + 1)) + 1)) + 1))).bind fun t1023 => (if ((rd_T32 x0 x5).f3).toList = t1023.toList then ((laws_heldStringS.f k ((rd_T32 x0 x5).f4) (wrap64 ((wrap64 ((wrap64 ((wrap64 (x1 + 1)) + 1)) + 1)) + 1))).bind fun t1025 => (if t1025 < 0 then (some (-1)) else ((laws_heldScoreS.f k ((rd_T32 x0 x5).f5) t1025).bind fun t1027 => (if t1027 < 0 then (some (-1)) else ((laws_heldPairS.f k ((rd_T32 x0 x5).f6) t1027).bind fun t1029 => (if t1029 < 0 then (some (-1)) else (laws_heldEntryS.l0 k x0 t1029 (wrap64 (x5 + 1))))))))) else (some (-1)))) else (some (-1))) else (some (-1))) else (some (-1)))) else (none)) else (some x1)
def laws_heldEntryS.f (k : Nat) (l0 : List (S32)) (a1 : Int) : Option (Int) := laws_heldEntryS.l0 k l0 a1 0
theorem laws_heldEntryS.mono_l : ∀ k, (∀ y0 y1 y2, LeO (laws_heldEntryS.l0 k y0 y1 y2) (laws_heldEntryS.l0 (k + 1) y0 y1 y2))
  | 0 => fun _ _ _ r h => by simp [laws_heldEntryS.l0] at h
  | k + 1 => by
    have ih0 := laws_heldEntryS.mono_l k
    · intro y0 y1 y2
      unfold laws_heldEntryS.l0
      repeat' first
      | (with_reducible first | exact ih0 _ _ _ | exact laws_heldPairS.mono _ _ _ | exact laws_heldScoreS.mono _ _ _ | exact laws_heldStringS.mono _ _ _ | exact laws_markText.mono _ _ | exact LeO.refl _ | exact LeO.none _ | refine LeO.ite ?_ ?_ | refine LeO.bind ?_ (fun _ => ?_))
theorem laws_heldEntryS.mono : ∀ a0 a1 k, LeO (laws_heldEntryS.f k a0 a1) (laws_heldEntryS.f (k + 1) a0 a1) := by
  intro a0 a1 k
  have ih0 := laws_heldEntryS.mono_l k
  unfold laws_heldEntryS.f
  repeat' first
      | (with_reducible first | exact ih0 _ _ _ | exact laws_heldPairS.mono _ _ _ | exact laws_heldScoreS.mono _ _ _ | exact laws_heldStringS.mono _ _ _ | exact laws_markText.mono _ _ | exact LeO.refl _ | exact LeO.none _ | refine LeO.ite ?_ ?_ | refine LeO.bind ?_ (fun _ => ?_))
def laws_heldBase.f (k : Nat) (a0_0 : Int) (l0_1 : List (S32)) (a1 : Int) : Option (Int) := (laws_heldEntryS.f k l0_1 a1).bind fun t1031 => (if t1031 < 0 then (some (-1)) else (some t1031))
theorem laws_heldBase.mono : ∀ a0 a1 a2 k, LeO (laws_heldBase.f k a0 a1 a2) (laws_heldBase.f (k + 1) a0 a1 a2) := by
  intro a0 a1 a2 k
  unfold laws_heldBase.f
  repeat' first
      | (with_reducible first | exact laws_heldEntryS.mono _ _ _ | exact LeO.refl _ | exact LeO.none _ | refine LeO.ite ?_ ?_ | refine LeO.bind ?_ (fun _ => ?_))
def laws_FnExactBaseTick.f (k : Nat) (a0_0 : Int) (l0_1 : List (S26)) (a1 : Int) : Option Bool := (laws_szBase.f k a0_0 l0_1 1048576).bind fun t => if t < 0 then some true else (laws_toBase.f k a0_0 l0_1).bind fun b => (spec_BaseTick.f k b.1 b.2 a1).bind fun v => (laws_toBase.f k a0_0 l0_1).bind fun x => (impl_BaseTick.f k x.1 x.2 a1).bind fun g => (laws_eqBase.f k g.1 g.2 v.1 v.2).bind fun e1 => if e1 = true then (laws_toBase.f k a0_0 l0_1).bind fun y => (laws_eqBase.f k x.1 x.2 y.1 y.2).bind fun e2 => if e2 = true then (laws_markBase.f k x.1 x.2 1).bind fun m => if m.1 < 0 then some false else (laws_eqBase.f k g.1 g.2 v.1 v.2).bind fun e3 => if e3 = true then (laws_markBase.f k g.1 g.2 1).bind fun n => (laws_heldBase.f k g.1 n.2 1).bind fun q => if q < 0 then some false else if q = n.1 then (laws_toBase.f k a0_0 l0_1).bind fun z => (impl_BaseTick.f k z.1 z.2 a1).bind fun h => (laws_eqBase.f k h.1 h.2 v.1 v.2).bind fun e4 => if e4 = true then (laws_heldBase.f k g.1 n.2 1).bind fun q2 => if q2 < 0 then some false else if q2 = n.1 then some true else some false else some false else some false else some false else some false else some false
def spec_l4Drop.f (k : Nat) (a0_0 : Int) (l0_1 : List (S32)) (a1 : ByteArray) : Option (Int × (List (S32))) := (spec_l4Copy.f k a0_0 l0_1).bind fun bt1034 => ((spec_l4At.f k a0_0 l0_1 a1).bind fun bt1039 => (if bt1039.2 = true then ((some (([] : List (S32)) : List (S32))).bind fun y1041 => (if 0 ≤ bt1039.1 then (if bt1039.1 ≤ (bt1034.2.length : Int) then ((some (bt1034.2.take (bt1039.1 : Int).toNat : List (S32))).bind fun y1044 => (if y1041.length + y1044.length < 1172812402961 then ((some (y1041 ++ y1044 : List (S32))).bind fun y1049 => (if 0 ≤ (wrap64 (bt1039.1 + 1)) then (if (wrap64 (bt1039.1 + 1)) ≤ (bt1034.2.length : Int) then ((some (bt1034.2.drop ((wrap64 (bt1039.1 + 1)) : Int).toNat : List (S32))).bind fun y1052 => (if y1049.length + y1052.length < 1172812402961 then (some (bt1034.1, (y1049 ++ y1052))) else (none))) else (none)) else (none))) else (none))) else (none)) else (none))) else (some (bt1034.1, bt1034.2))))
theorem spec_l4Drop.mono : ∀ a0 a1 a2 k, LeO (spec_l4Drop.f k a0 a1 a2) (spec_l4Drop.f (k + 1) a0 a1 a2) := by
  intro a0 a1 a2 k
  unfold spec_l4Drop.f
  repeat' first
      | (with_reducible first | exact spec_l4At.mono _ _ _ _ | exact spec_l4Copy.mono _ _ _ | exact LeO.refl _ | exact LeO.none _ | refine LeO.ite ?_ ?_ | refine LeO.bind ?_ (fun _ => ?_))
def spec_BaseDrop.f (k : Nat) (a0_0 : Int) (l0_1 : List (S32)) (a1 : ByteArray) : Option (Int × (List (S32)) × Bool) := (spec_BaseOk.f k a0_0 l0_1).bind fun t1062 => (if t1062 = true then ((spec_l4At.f k a0_0 l0_1 a1).bind fun bt1063 => ((spec_l4Drop.f k a0_0 l0_1 a1).bind fun bt1065 => (some (bt1065.1, bt1065.2, bt1063.2)))) else (some (0, ([] : List (S32)), false)))
theorem spec_BaseDrop.mono : ∀ a0 a1 a2 k, LeO (spec_BaseDrop.f k a0 a1 a2) (spec_BaseDrop.f (k + 1) a0 a1 a2) := by
  intro a0 a1 a2 k
  unfold spec_BaseDrop.f
  repeat' first
      | (with_reducible first | exact spec_BaseOk.mono _ _ _ | exact spec_l4At.mono _ _ _ _ | exact spec_l4Drop.mono _ _ _ _ | exact LeO.refl _ | exact LeO.none _ | refine LeO.ite ?_ ?_ | refine LeO.bind ?_ (fun _ => ?_))
def slices_Delete_impl_Entry_impl_Entry.f (l0 : List S32) (a1 a2 : Int) : Option (List S32) := if 0 ≤ a1 ∧ a1 < l0.length ∧ a2 = a1 + 1 then some (l0.eraseIdx a1.toNat) else none
theorem slices_Delete_impl_Entry_impl_Entry.calls_zero : ∀ w, (zeroValue 32).run Try.prog w = .ok (.agg #[.string ⟨#[]⟩, .int .i64 0, .int .i64 0, .string ⟨#[]⟩, .slice none 0 0, .slice none 0 0, .slice none 0 0]) w := fun w => by kernel_rfl
theorem slices_Delete_impl_Entry_impl_Entry.calls_size : (Try.prog.info? 32).map (·.size) = some k32.sz := by kernel_rfl
def impl_BaseDrop.f (k : Nat) (a0_0 : Int) (l0_1 : List (S32)) (a1 : ByteArray) : Option (Int × (List (S32)) × Bool) := (impl_BaseOk.f k a0_0 l0_1).bind fun t => (if t = true then ((impl_cloneBase.f k a0_0 l0_1).bind fun c => ((impl_Base_at.f c.1 c.2 a1).bind fun i => (if i < 0 then some (c.1, c.2, false) else ((slices_Delete_impl_Entry_impl_Entry.f c.2 i (wrap64 (i + 1))).bind fun d => (if d.length < 1172812402961 then some (c.1, d, true) else none))))) else some (0, [], false))
theorem impl_BaseDrop.mono : ∀ a0 a1 a2 k, LeO (impl_BaseDrop.f k a0 a1 a2) (impl_BaseDrop.f (k + 1) a0 a1 a2) := by
  intro a0 a1 a2 k
  unfold impl_BaseDrop.f
  repeat' first
    | (with_reducible first | exact impl_BaseOk.mono _ _ _ | exact impl_cloneBase.mono _ _ _ | exact LeO.refl _ | exact LeO.none _ | refine LeO.ite ?_ ?_ | refine LeO.bind ?_ (fun _ => ?_))
def laws_FnExactBaseDrop.f (k : Nat) (a0_0 : Int) (l0_1 : List (S26)) (a1 : ByteArray) : Option Bool := if (a1.size : Int) > 1048576 then some true else (laws_szBase.f k a0_0 l0_1 1048576).bind fun t => if t < 0 then some true else (laws_toBase.f k a0_0 l0_1).bind fun b => (spec_BaseDrop.f k b.1 b.2 a1).bind fun v => (laws_toBase.f k a0_0 l0_1).bind fun x => (impl_BaseDrop.f k x.1 x.2 a1).bind fun g => (laws_eqBase.f k g.1 g.2.1 v.1 v.2.1).bind fun e1 => if e1 = true then if (g.2.2 != v.2.2) = true then some false else (laws_toBase.f k a0_0 l0_1).bind fun y => (laws_eqBase.f k x.1 x.2 y.1 y.2).bind fun e2 => if e2 = true then (laws_markBase.f k x.1 x.2 1).bind fun m => if m.1 < 0 then some false else (laws_eqBase.f k g.1 g.2.1 v.1 v.2.1).bind fun e3 => if e3 = true then (laws_markBase.f k g.1 g.2.1 1).bind fun n => (laws_heldBase.f k g.1 n.2 1).bind fun q => if q < 0 then some false else if q = n.1 then (laws_toBase.f k a0_0 l0_1).bind fun z => (impl_BaseDrop.f k z.1 z.2 a1).bind fun h => (laws_eqBase.f k h.1 h.2.1 v.1 v.2.1).bind fun e4 => if e4 = true then if (h.2.2 != v.2.2) = true then some false else (laws_heldBase.f k g.1 n.2 1).bind fun q2 => if q2 < 0 then some false else if q2 = n.1 then some true else some false else some false else some false else some false else some false else some false
set_option maxHeartbeats 8000000 in
set_option maxRecDepth 100000 in
theorem laws_szStringS.calls (k : Nat) (A0 : Option Addr) (c0 : Nat) (l0 : List ByteArray) (a1 : Int) (r : Int) (w : World) (hr0 : Kd.C Kd.string w A0 l0.length l0) (hc0 : l0.length ≤ c0) (h : laws_szStringS.f k l0 a1 = some r) :
  Calls Try.prog 36 #[.slice A0 l0.length c0, .int .i64 a1] w fun e w' => e = .returned (.int .i64 r) ∧ Drawn0 w w' := by
 have HR0 := zq9 hr0; have HC0 := zq9 hc0; clear hr0 hc0
 have H : (if (wrap64 (a1 - (l0.length : Int))) < 0 then (some (-1)) else (laws_szStringS.l0 k l0 (wrap64 (a1 - (l0.length : Int))) 0)) = some r := h
 clear h
 go_enter Try.func36, Try.ntmps36
 by_cases c3 : (wrap64 (a1 - (l0.length : Int))) < 0
 ·rw [if_pos c3] at H; have c3b0 : decide ((wrap64 (a1 - (l0.length : Int))) < 0) = true := decide_eq_true c3; clear c3; obtain rfl := Option.some.inj H
  go_wp2
  go_ret
  exact ⟨by first | rfl | (simp; done) | (simp [*]; done), by repeat (first | exact Drawn0.refl _ | apply Drawn0.step)⟩
 ·rw [if_neg c3] at H; have c3b0 : decide ((wrap64 (a1 - (l0.length : Int))) < 0) = false := decide_eq_false c3; clear c3; have H' := zq9 H; clear H
  go_wp2
  go_loopg [1, 5] k (fun kq v1 v5 w' => ∃ (x1_1 : Int) (x5_1 : Int), v1 = .int .i64 x1_1 ∧ v5 = .int .i64 x5_1 ∧ Aside0 (laws_szStringS.l0 kq l0 x1_1 x5_1 = some r) ∧ Aside0 (kq ≤ k) ∧ Drawn0 w w')
  case atStart => exact ⟨(wrap64 (a1 - (l0.length : Int))), (0), (by first | rfl | (simp; done) | (simp [*]; done)), (by first | rfl | (simp; done) | (simp [*]; done)), H', ⟨Nat.le_refl _⟩, by repeat (first | exact Drawn0.refl _ | apply Drawn0.step)⟩
  case round =>
   clear H'
   try clear p2
   try clear c3
   try clear c3b0
   obtain ⟨x1_1, x5_1, rfl, rfl, HA, HK1, ⟨m1, rfl⟩⟩ := hrel
   cases gk with
   | zero => exact absurd HA.out (by simp [laws_szStringS.l0])
   | succ k1 =>
    have H := HA.out; clear HA
    simp only [laws_szStringS.l0] at H
    by_cases c4 : x5_1 < (l0.length : Int)
    ·rw [if_pos c4] at H; have c4b0 : decide (x5_1 < (l0.length : Int)) = true := decide_eq_true c4; clear c4
     by_cases c5 : 0 ≤ x5_1
     ·rw [if_pos c5] at H; have c5b0 : decide (0 ≤ x5_1) = true := decide_eq_true c5; clear c5
      have p101 : 0 ≤ (x5_1 : Int) := of_decide_eq_true ‹_›
      have q101 : x5_1 < (l0.length : Int) := of_decide_eq_true ‹_›
      obtain ⟨ad101, e101, hx101_0⟩ := Kd.at_string HR0.out x5_1 p101 q101
      cases e101; replace p101 := eq_true p101; replace q101 := eq_true q101
      by_cases c6 : (wrap64 (x1_1 - ((rdOf ByteArray.empty l0 x5_1).size : Int))) < 0
      ·rw [if_pos c6] at H; have c6b0 : decide ((wrap64 (x1_1 - ((rdOf ByteArray.empty l0 x5_1).size : Int))) < 0) = true := decide_eq_true c6; clear c6; obtain rfl := Option.some.inj H
       go_wp2
       go_ret
       exact ⟨by first | rfl | (simp; done) | (simp [*]; done), by repeat (first | exact Drawn0.refl _ | apply Drawn0.step)⟩
      ·rw [if_neg c6] at H; have c6b0 : decide ((wrap64 (x1_1 - ((rdOf ByteArray.empty l0 x5_1).size : Int))) < 0) = false := decide_eq_false c6; clear c6; have H' := zq9 H; clear H
       go_wp2
       go_roundg k1
       case measure => have := HK1.out; omega
       case rel => exact ⟨(wrap64 (x1_1 - ((rdOf ByteArray.empty l0 x5_1).size : Int))), (wrap64 (x5_1 + 1)), (by first | rfl | (simp; done) | (simp [*]; done)), (by first | rfl | (simp; done) | (simp [*]; done)), H', ⟨by have := HK1.out; omega⟩, by repeat (first | exact Drawn0.refl _ | apply Drawn0.step)⟩
     ·rw [if_neg c5] at H
      exact absurd H (by simp)
    ·rw [if_neg c4] at H; have c4b0 : decide (x5_1 < (l0.length : Int)) = false := decide_eq_false c4; clear c4; obtain rfl := Option.some.inj H
     go_wp2
     go_ret
     exact ⟨by first | rfl | (simp; done) | (simp [*]; done), by repeat (first | exact Drawn0.refl _ | apply Drawn0.step)⟩
set_option maxHeartbeats 8000000 in
set_option maxRecDepth 100000 in
theorem laws_szScore.calls (a0_0 : ByteArray) (a0_1 : Int) (a1 : Int) (r : Int) (w : World) (h : laws_szScore.f a0_0 a0_1 a1 = some r) :
    Calls Try.prog 79 #[.agg #[.string a0_0, .int .i64 a0_1], .int .i64 a1] w fun e w' => e = .returned (.int .i64 r) ∧ Below w.heap.size w w' := by
  have hu95 := Try.underlying95
  have HB := zq9 (Below.refl w.heap.size w)
  have H : (if (wrap64 (a1 - (a0_0.size : Int))) < 0 then (some (-1)) else (some (wrap64 (a1 - (a0_0.size : Int))))) = some r := h
  clear h
  by_cases c3 : (wrap64 (a1 - (a0_0.size : Int))) < 0
  · rw [if_pos c3] at H; have c3b0 : decide ((wrap64 (a1 - (a0_0.size : Int))) < 0) = true := decide_eq_true c3; clear c3; obtain rfl := Option.some.inj H
    go_enter Try.func79, Try.ntmps79
    go_wp2_with (first | ((with_reducible refine zq25 (N := 2) rfl ?_); refine bx 2 #[.string a0_0, .int .i64 a0_1] 95 ?_; intro gb102 hg w4 hbox hb; have n0_ := zq9 (zq27 (by exact bl HB) hb); have n1_ := zq9 (hbox); have n2_ := zq9 ((by rw [hg]; exact (zq29 (by exact bl HB)) : w.heap.size ≤ gb102)); have n3_ := n2_; clear HB; have HB := n0_; have BK102 := n1_; have GW102 := n2_; have GE102 := n3_; clear n0_ n1_ n2_ n3_; clear hb hbox hg; have hcz5_0 : w4.cell? ⟨gb102, 0, none⟩ = some (.string a0_0) := bc BK102 0; have hcz5_1 : w4.cell? ⟨gb102, 1, none⟩ = some (.int .i64 a0_1) := bc BK102 1; have hfz5_0 := zq6 BK102.out 0; have hfz5_1 := zq6 BK102.out 1))
    go_ret
    exact fz (by exact b1 HB GE102)
  · rw [if_neg c3] at H; have c3b0 : decide ((wrap64 (a1 - (a0_0.size : Int))) < 0) = false := decide_eq_false c3; clear c3; obtain rfl := Option.some.inj H
    go_enter Try.func79, Try.ntmps79
    go_wp2_with (first | ((with_reducible refine zq25 (N := 2) rfl ?_); refine bx 2 #[.string a0_0, .int .i64 a0_1] 95 ?_; intro gb102 hg w6 hbox hb; have n0_ := zq9 (zq27 (by exact bl HB) hb); have n1_ := zq9 (hbox); have n2_ := zq9 ((by rw [hg]; exact (zq29 (by exact bl HB)) : w.heap.size ≤ gb102)); have n3_ := n2_; clear HB; have HB := n0_; have BK102 := n1_; have GW102 := n2_; have GE102 := n3_; clear n0_ n1_ n2_ n3_; clear hb hbox hg; have hcz7_0 : w6.cell? ⟨gb102, 0, none⟩ = some (.string a0_0) := bc BK102 0; have hcz7_1 : w6.cell? ⟨gb102, 1, none⟩ = some (.int .i64 a0_1) := bc BK102 1; have hfz7_0 := zq6 BK102.out 0; have hfz7_1 := zq6 BK102.out 1))
    go_ret
    exact fz (by exact b1 HB GE102)
set_option maxHeartbeats 8000000 in
set_option maxRecDepth 100000 in
theorem laws_szScoreS.calls (k : Nat) (A0 : Option Addr) (c0 : Nat) (l0 : List (S95)) (a1 : Int) (r : Int) (w : World) (hr0 : Kd.C k95 w A0 l0.length l0) (hc0 : l0.length ≤ c0) (h : laws_szScoreS.f k l0 a1 = some r) :
  Calls Try.prog 37 #[.slice A0 l0.length c0, .int .i64 a1] w fun e w' => e = .returned (.int .i64 r) ∧ Below w.heap.size w w' := by
 have hu95 := Try.underlying95; have HR0 := zq9 hr0; have HC0 := zq9 hc0; clear hr0 hc0
 have HB := zq9 (Below.refl w.heap.size w)
 have H : (if (wrap64 (a1 - (l0.length : Int))) < 0 then (some (-1)) else (laws_szScoreS.l0 k l0 (wrap64 (a1 - (l0.length : Int))) 0)) = some r := h
 clear h
 go_enter Try.func37, Try.ntmps37
 by_cases c3 : (wrap64 (a1 - (l0.length : Int))) < 0
 ·rw [if_pos c3] at H; have c3b0 : decide ((wrap64 (a1 - (l0.length : Int))) < 0) = true := decide_eq_true c3; clear c3; obtain rfl := Option.some.inj H
  go_wp2
  go_ret
  exact fz (by exact bl HB)
 ·rw [if_neg c3] at H; have c3b0 : decide ((wrap64 (a1 - (l0.length : Int))) < 0) = false := decide_eq_false c3; clear c3; have H' := zq9 H; clear H
  go_wp2
  go_loopg [1, 5] k (fun kq v1 v5 w' => ∃ (x1_1 : Int) (x5_1 : Int), v1 = .int .i64 x1_1 ∧ v5 = .int .i64 x5_1 ∧ Aside0 (laws_szScoreS.l0 kq l0 x1_1 x5_1 = some r) ∧ Aside0 (kq ≤ k) ∧ Aside0 (Below w.heap.size w w'))
  case atStart => exact ⟨(wrap64 (a1 - (l0.length : Int))), (0), (by first | rfl | (simp; done) | (simp [*]; done)), (by first | rfl | (simp; done) | (simp [*]; done)), H', ⟨Nat.le_refl _⟩, ⟨by exact bl HB⟩⟩
  case round =>
   clear H'
   try clear p2
   try clear c3
   try clear c3b0
   obtain ⟨x1_1, x5_1, rfl, rfl, HA, HK1, HB⟩ := hrel
   cases gk with
   | zero => exact absurd HA.out (by simp [laws_szScoreS.l0])
   | succ k1 =>
    have H := HA.out; clear HA
    simp only [laws_szScoreS.l0] at H
    by_cases c4 : x5_1 < (l0.length : Int)
    ·rw [if_pos c4] at H; have c4b0 : decide (x5_1 < (l0.length : Int)) = true := decide_eq_true c4; clear c4
     by_cases c5 : 0 ≤ x5_1
     ·rw [if_pos c5] at H; have c5b0 : decide (0 ≤ x5_1) = true := decide_eq_true c5; clear c5; replace H := Option.bind_eq_some_iff.mp H; obtain ⟨t104, A60, H⟩ := H
      try dsimp only at H
      have A6 := zq9 A60; clear A60
      have p103 : 0 ≤ (x5_1 : Int) := of_decide_eq_true ‹_›
      have q103 : x5_1 < (l0.length : Int) := of_decide_eq_true ‹_›
      obtain ⟨ad103, e103, hx103_0, hx103_1⟩ := at_T95 HR0.out x5_1 p103 q103
      cases e103; replace hx103_0 := hcl HB hx103_0; replace hx103_1 := hcl HB hx103_1; replace p103 := eq_true p103; replace q103 := eq_true q103
      by_cases c7 : t104 < 0
      ·rw [if_pos c7] at H; have c7b0 : decide (t104 < 0) = true := decide_eq_true c7; clear c7; obtain rfl := Option.some.inj H
       go_wp2_with (first | ((with_reducible refine zq24 (f := 79) rfl ?_); refine gl (some 23) Try.func79 #[.agg #[.string ((rd_T95 l0 x5_1).f0), .int .i64 ((rd_T95 l0 x5_1).f1)], .int .i64 x1_1] ?_; (with_reducible refine (laws_szScore.calls ((rd_T95 l0 x5_1).f0) ((rd_T95 l0 x5_1).f1) x1_1 t104 _ A6.out).mono ?_); rintro e w8 ⟨rfl, hb⟩; refine ⟨_, rfl, ?_⟩; have n0_ := zq9 (zq27 (by exact bl HB) hb); clear HB; have HB := n0_; clear n0_; (try clear hb); (try clear hb2); (try clear hk); (try clear hi)))
       go_ret
       exact fz (by exact bl HB)
      ·rw [if_neg c7] at H; have c7b0 : decide (t104 < 0) = false := decide_eq_false c7; clear c7; have H' := zq9 H; clear H
       go_wp2_with (first | ((with_reducible refine zq24 (f := 79) rfl ?_); refine gl (some 23) Try.func79 #[.agg #[.string ((rd_T95 l0 x5_1).f0), .int .i64 ((rd_T95 l0 x5_1).f1)], .int .i64 x1_1] ?_; (with_reducible refine (laws_szScore.calls ((rd_T95 l0 x5_1).f0) ((rd_T95 l0 x5_1).f1) x1_1 t104 _ A6.out).mono ?_); rintro e w8 ⟨rfl, hb⟩; refine ⟨_, rfl, ?_⟩; have n0_ := zq9 (zq27 (by exact bl HB) hb); clear HB; have HB := n0_; clear n0_; (try clear hb); (try clear hb2); (try clear hk); (try clear hi)))
       go_roundg k1
       case measure => have := HK1.out; omega
       case rel => exact ⟨(t104), (wrap64 (x5_1 + 1)), (by first | rfl | (simp; done) | (simp [*]; done)), (by first | rfl | (simp; done) | (simp [*]; done)), H', ⟨by have := HK1.out; omega⟩, ⟨by exact bl HB⟩⟩
     ·rw [if_neg c5] at H
      exact absurd H (by simp)
    ·rw [if_neg c4] at H; have c4b0 : decide (x5_1 < (l0.length : Int)) = false := decide_eq_false c4; clear c4; obtain rfl := Option.some.inj H
     go_wp2
     go_ret
     exact fz (by exact bl HB)
set_option maxHeartbeats 8000000 in
set_option maxRecDepth 100000 in
theorem laws_szPair.calls (a0_0 : ByteArray) (a0_1 : ByteArray) (a1 : Int) (r : Int) (w : World) (h : laws_szPair.f a0_0 a0_1 a1 = some r) :
    Calls Try.prog 80 #[.agg #[.string a0_0, .string a0_1], .int .i64 a1] w fun e w' => e = .returned (.int .i64 r) ∧ Below w.heap.size w w' := by
  have hu98 := Try.underlying98
  have HB := zq9 (Below.refl w.heap.size w)
  have H : (if (wrap64 (a1 - (a0_0.size : Int))) < 0 then (some (-1)) else (if (wrap64 ((wrap64 (a1 - (a0_0.size : Int))) - (a0_1.size : Int))) < 0 then (some (-1)) else (some (wrap64 ((wrap64 (a1 - (a0_0.size : Int))) - (a0_1.size : Int)))))) = some r := h
  clear h
  by_cases c3 : (wrap64 (a1 - (a0_0.size : Int))) < 0
  · rw [if_pos c3] at H; have c3b0 : decide ((wrap64 (a1 - (a0_0.size : Int))) < 0) = true := decide_eq_true c3; clear c3; obtain rfl := Option.some.inj H
    go_enter Try.func80, Try.ntmps80
    go_wp2_with (first | ((with_reducible refine zq25 (N := 2) rfl ?_); refine bx 2 #[.string a0_0, .string a0_1] 98 ?_; intro gb105 hg w4 hbox hb; have n0_ := zq9 (zq27 (by exact bl HB) hb); have n1_ := zq9 (hbox); have n2_ := zq9 ((by rw [hg]; exact (zq29 (by exact bl HB)) : w.heap.size ≤ gb105)); have n3_ := n2_; clear HB; have HB := n0_; have BK105 := n1_; have GW105 := n2_; have GE105 := n3_; clear n0_ n1_ n2_ n3_; clear hb hbox hg; have hcz5_0 : w4.cell? ⟨gb105, 0, none⟩ = some (.string a0_0) := bc BK105 0; have hcz5_1 : w4.cell? ⟨gb105, 1, none⟩ = some (.string a0_1) := bc BK105 1; have hfz5_0 := zq6 BK105.out 0; have hfz5_1 := zq6 BK105.out 1))
    go_ret
    exact fz (by exact b1 HB GE105)
  · rw [if_neg c3] at H; have c3b0 : decide ((wrap64 (a1 - (a0_0.size : Int))) < 0) = false := decide_eq_false c3; clear c3
    by_cases c6 : (wrap64 ((wrap64 (a1 - (a0_0.size : Int))) - (a0_1.size : Int))) < 0
    · rw [if_pos c6] at H; have c6b0 : decide ((wrap64 ((wrap64 (a1 - (a0_0.size : Int))) - (a0_1.size : Int))) < 0) = true := decide_eq_true c6; clear c6; obtain rfl := Option.some.inj H
      go_enter Try.func80, Try.ntmps80
      go_wp2_with (first | ((with_reducible refine zq25 (N := 2) rfl ?_); refine bx 2 #[.string a0_0, .string a0_1] 98 ?_; intro gb105 hg w7 hbox hb; have n0_ := zq9 (zq27 (by exact bl HB) hb); have n1_ := zq9 (hbox); have n2_ := zq9 ((by rw [hg]; exact (zq29 (by exact bl HB)) : w.heap.size ≤ gb105)); have n3_ := n2_; clear HB; have HB := n0_; have BK105 := n1_; have GW105 := n2_; have GE105 := n3_; clear n0_ n1_ n2_ n3_; clear hb hbox hg; have hcz8_0 : w7.cell? ⟨gb105, 0, none⟩ = some (.string a0_0) := bc BK105 0; have hcz8_1 : w7.cell? ⟨gb105, 1, none⟩ = some (.string a0_1) := bc BK105 1; have hfz8_0 := zq6 BK105.out 0; have hfz8_1 := zq6 BK105.out 1))
      go_ret
      exact fz (by exact b1 HB GE105)
    · rw [if_neg c6] at H; have c6b0 : decide ((wrap64 ((wrap64 (a1 - (a0_0.size : Int))) - (a0_1.size : Int))) < 0) = false := decide_eq_false c6; clear c6; obtain rfl := Option.some.inj H
      go_enter Try.func80, Try.ntmps80
      go_wp2_with (first | ((with_reducible refine zq25 (N := 2) rfl ?_); refine bx 2 #[.string a0_0, .string a0_1] 98 ?_; intro gb105 hg w9 hbox hb; have n0_ := zq9 (zq27 (by exact bl HB) hb); have n1_ := zq9 (hbox); have n2_ := zq9 ((by rw [hg]; exact (zq29 (by exact bl HB)) : w.heap.size ≤ gb105)); have n3_ := n2_; clear HB; have HB := n0_; have BK105 := n1_; have GW105 := n2_; have GE105 := n3_; clear n0_ n1_ n2_ n3_; clear hb hbox hg; have hcz10_0 : w9.cell? ⟨gb105, 0, none⟩ = some (.string a0_0) := bc BK105 0; have hcz10_1 : w9.cell? ⟨gb105, 1, none⟩ = some (.string a0_1) := bc BK105 1; have hfz10_0 := zq6 BK105.out 0; have hfz10_1 := zq6 BK105.out 1))
      go_ret
      exact fz (by exact b1 HB GE105)
set_option maxHeartbeats 8000000 in
set_option maxRecDepth 100000 in
theorem laws_szPairS.calls (k : Nat) (A0 : Option Addr) (c0 : Nat) (l0 : List (S98)) (a1 : Int) (r : Int) (w : World) (hr0 : Kd.C k98 w A0 l0.length l0) (hc0 : l0.length ≤ c0) (h : laws_szPairS.f k l0 a1 = some r) :
  Calls Try.prog 38 #[.slice A0 l0.length c0, .int .i64 a1] w fun e w' => e = .returned (.int .i64 r) ∧ Below w.heap.size w w' := by
 have hu98 := Try.underlying98; have HR0 := zq9 hr0; have HC0 := zq9 hc0; clear hr0 hc0
 have HB := zq9 (Below.refl w.heap.size w)
 have H : (if (wrap64 (a1 - (l0.length : Int))) < 0 then (some (-1)) else (laws_szPairS.l0 k l0 (wrap64 (a1 - (l0.length : Int))) 0)) = some r := h
 clear h
 go_enter Try.func38, Try.ntmps38
 by_cases c3 : (wrap64 (a1 - (l0.length : Int))) < 0
 ·rw [if_pos c3] at H; have c3b0 : decide ((wrap64 (a1 - (l0.length : Int))) < 0) = true := decide_eq_true c3; clear c3; obtain rfl := Option.some.inj H
  go_wp2
  go_ret
  exact fz (by exact bl HB)
 ·rw [if_neg c3] at H; have c3b0 : decide ((wrap64 (a1 - (l0.length : Int))) < 0) = false := decide_eq_false c3; clear c3; have H' := zq9 H; clear H
  go_wp2
  go_loopg [1, 5] k (fun kq v1 v5 w' => ∃ (x1_1 : Int) (x5_1 : Int), v1 = .int .i64 x1_1 ∧ v5 = .int .i64 x5_1 ∧ Aside0 (laws_szPairS.l0 kq l0 x1_1 x5_1 = some r) ∧ Aside0 (kq ≤ k) ∧ Aside0 (Below w.heap.size w w'))
  case atStart => exact ⟨(wrap64 (a1 - (l0.length : Int))), (0), (by first | rfl | (simp; done) | (simp [*]; done)), (by first | rfl | (simp; done) | (simp [*]; done)), H', ⟨Nat.le_refl _⟩, ⟨by exact bl HB⟩⟩
  case round =>
   clear H'
   try clear p2
   try clear c3
   try clear c3b0
   obtain ⟨x1_1, x5_1, rfl, rfl, HA, HK1, HB⟩ := hrel
   cases gk with
   | zero => exact absurd HA.out (by simp [laws_szPairS.l0])
   | succ k1 =>
    have H := HA.out; clear HA
    simp only [laws_szPairS.l0] at H
    by_cases c4 : x5_1 < (l0.length : Int)
    ·rw [if_pos c4] at H; have c4b0 : decide (x5_1 < (l0.length : Int)) = true := decide_eq_true c4; clear c4
     by_cases c5 : 0 ≤ x5_1
     ·rw [if_pos c5] at H; have c5b0 : decide (0 ≤ x5_1) = true := decide_eq_true c5; clear c5; replace H := Option.bind_eq_some_iff.mp H; obtain ⟨t107, A60, H⟩ := H
      try dsimp only at H
      have A6 := zq9 A60; clear A60
      have p106 : 0 ≤ (x5_1 : Int) := of_decide_eq_true ‹_›
      have q106 : x5_1 < (l0.length : Int) := of_decide_eq_true ‹_›
      obtain ⟨ad106, e106, hx106_0, hx106_1⟩ := at_T98 HR0.out x5_1 p106 q106
      cases e106; replace hx106_0 := hcl HB hx106_0; replace hx106_1 := hcl HB hx106_1; replace p106 := eq_true p106; replace q106 := eq_true q106
      by_cases c7 : t107 < 0
      ·rw [if_pos c7] at H; have c7b0 : decide (t107 < 0) = true := decide_eq_true c7; clear c7; obtain rfl := Option.some.inj H
       go_wp2_with (first | ((with_reducible refine zq24 (f := 80) rfl ?_); refine gl (some 23) Try.func80 #[.agg #[.string ((rd_T98 l0 x5_1).f0), .string ((rd_T98 l0 x5_1).f1)], .int .i64 x1_1] ?_; (with_reducible refine (laws_szPair.calls ((rd_T98 l0 x5_1).f0) ((rd_T98 l0 x5_1).f1) x1_1 t107 _ A6.out).mono ?_); rintro e w8 ⟨rfl, hb⟩; refine ⟨_, rfl, ?_⟩; have n0_ := zq9 (zq27 (by exact bl HB) hb); clear HB; have HB := n0_; clear n0_; (try clear hb); (try clear hb2); (try clear hk); (try clear hi)))
       go_ret
       exact fz (by exact bl HB)
      ·rw [if_neg c7] at H; have c7b0 : decide (t107 < 0) = false := decide_eq_false c7; clear c7; have H' := zq9 H; clear H
       go_wp2_with (first | ((with_reducible refine zq24 (f := 80) rfl ?_); refine gl (some 23) Try.func80 #[.agg #[.string ((rd_T98 l0 x5_1).f0), .string ((rd_T98 l0 x5_1).f1)], .int .i64 x1_1] ?_; (with_reducible refine (laws_szPair.calls ((rd_T98 l0 x5_1).f0) ((rd_T98 l0 x5_1).f1) x1_1 t107 _ A6.out).mono ?_); rintro e w8 ⟨rfl, hb⟩; refine ⟨_, rfl, ?_⟩; have n0_ := zq9 (zq27 (by exact bl HB) hb); clear HB; have HB := n0_; clear n0_; (try clear hb); (try clear hb2); (try clear hk); (try clear hi)))
       go_roundg k1
       case measure => have := HK1.out; omega
       case rel => exact ⟨(t107), (wrap64 (x5_1 + 1)), (by first | rfl | (simp; done) | (simp [*]; done)), (by first | rfl | (simp; done) | (simp [*]; done)), H', ⟨by have := HK1.out; omega⟩, ⟨by exact bl HB⟩⟩
     ·rw [if_neg c5] at H
      exact absurd H (by simp)
    ·rw [if_neg c4] at H; have c4b0 : decide (x5_1 < (l0.length : Int)) = false := decide_eq_false c4; clear c4; obtain rfl := Option.some.inj H
     go_wp2
     go_ret
     exact fz (by exact bl HB)
set_option maxHeartbeats 8000000 in
set_option maxRecDepth 100000 in
theorem laws_szEntry.calls (k : Nat) (a0_0 : ByteArray) (a0_1 : Int) (a0_2 : Int) (a0_3 : ByteArray) (A0_4 : Option Addr) (c0_4 : Nat) (l0_4 : List ByteArray) (A0_5 : Option Addr) (c0_5 : Nat) (l0_5 : List (S95)) (A0_6 : Option Addr) (c0_6 : Nat) (l0_6 : List (S98)) (a1 : Int) (r : Int) (w : World) (hr0_4 : Kd.C Kd.string w A0_4 l0_4.length l0_4) (hc0_4 : l0_4.length ≤ c0_4) (hr0_5 : Kd.C k95 w A0_5 l0_5.length l0_5) (hc0_5 : l0_5.length ≤ c0_5) (hr0_6 : Kd.C k98 w A0_6 l0_6.length l0_6) (hc0_6 : l0_6.length ≤ c0_6) (h : laws_szEntry.f k a0_0 a0_1 a0_2 a0_3 l0_4 l0_5 l0_6 a1 = some r) :
    Calls Try.prog 10 #[.agg #[.string a0_0, .int .i64 a0_1, .int .i64 a0_2, .string a0_3, .slice A0_4 l0_4.length c0_4, .slice A0_5 l0_5.length c0_5, .slice A0_6 l0_6.length c0_6], .int .i64 a1] w fun e w' => e = .returned (.int .i64 r) ∧ Below w.heap.size w w' := by
  have hu26 := Try.underlying26; have HR0_4 := zq9 hr0_4; have HC0_4 := zq9 hc0_4; clear hr0_4 hc0_4; have HR0_5 := zq9 hr0_5; have HC0_5 := zq9 hc0_5; clear hr0_5 hc0_5; have HR0_6 := zq9 hr0_6; have HC0_6 := zq9 hc0_6; clear hr0_6 hc0_6
  have HB := zq9 (Below.refl w.heap.size w)
  have H : (if (wrap64 (a1 - (a0_0.size : Int))) < 0 then (some (-1)) else (if (wrap64 ((wrap64 (a1 - (a0_0.size : Int))) - (a0_3.size : Int))) < 0 then (some (-1)) else ((laws_szStringS.f k l0_4 (wrap64 ((wrap64 (a1 - (a0_0.size : Int))) - (a0_3.size : Int)))).bind fun t109 => (if t109 < 0 then (some (-1)) else ((laws_szScoreS.f k l0_5 t109).bind fun t110 => (if t110 < 0 then (some (-1)) else ((laws_szPairS.f k l0_6 t110).bind fun t111 => (if t111 < 0 then (some (-1)) else (some t111))))))))) = some r := h
  clear h
  go_enter Try.func10, Try.ntmps10
  refine (Classical.em ((wrap64 (a1 - (a0_0.size : Int))) < 0)).elim (fun c3 => ?p0) (fun c3 => ?n0)
  case' p0 =>
    rw [if_pos c3] at H; have c3b0 : decide ((wrap64 (a1 - (a0_0.size : Int))) < 0) = true := decide_eq_true c3; clear c3; obtain rfl := Option.some.inj H
  case' n0 =>
    rw [if_neg c3] at H; have c3b0 : decide ((wrap64 (a1 - (a0_0.size : Int))) < 0) = false := decide_eq_false c3; clear c3
    refine (Classical.em ((wrap64 ((wrap64 (a1 - (a0_0.size : Int))) - (a0_3.size : Int))) < 0)).elim (fun c6 => ?p1) (fun c6 => ?n1)
    case' p1 =>
      rw [if_pos c6] at H; have c6b0 : decide ((wrap64 ((wrap64 (a1 - (a0_0.size : Int))) - (a0_3.size : Int))) < 0) = true := decide_eq_true c6; clear c6; obtain rfl := Option.some.inj H
    case' n1 =>
      rw [if_neg c6] at H; have c6b0 : decide ((wrap64 ((wrap64 (a1 - (a0_0.size : Int))) - (a0_3.size : Int))) < 0) = false := decide_eq_false c6; clear c6; replace H := Option.bind_eq_some_iff.mp H; obtain ⟨t109, A90, H⟩ := H
      try dsimp only at H
      have A9 := zq9 A90; clear A90
      refine (Classical.em (t109 < 0)).elim (fun c10 => ?p2) (fun c10 => ?n2)
      case' p2 =>
        rw [if_pos c10] at H; have c10b0 : decide (t109 < 0) = true := decide_eq_true c10; clear c10; obtain rfl := Option.some.inj H
      case' n2 =>
        rw [if_neg c10] at H; have c10b0 : decide (t109 < 0) = false := decide_eq_false c10; clear c10; replace H := Option.bind_eq_some_iff.mp H; obtain ⟨t110, A130, H⟩ := H
        try dsimp only at H
        have A13 := zq9 A130; clear A130
        refine (Classical.em (t110 < 0)).elim (fun c14 => ?p3) (fun c14 => ?n3)
        case' p3 =>
          rw [if_pos c14] at H; have c14b0 : decide (t110 < 0) = true := decide_eq_true c14; clear c14; obtain rfl := Option.some.inj H
        case' n3 =>
          rw [if_neg c14] at H; have c14b0 : decide (t110 < 0) = false := decide_eq_false c14; clear c14; replace H := Option.bind_eq_some_iff.mp H; obtain ⟨t111, A180, H⟩ := H
          try dsimp only at H
          have A18 := zq9 A180; clear A180
          refine (Classical.em (t111 < 0)).elim (fun c19 => ?p4) (fun c19 => ?n4)
          case' p4 =>
            rw [if_pos c19] at H; have c19b0 : decide (t111 < 0) = true := decide_eq_true c19; clear c19; obtain rfl := Option.some.inj H
          case' n4 =>
            rw [if_neg c19] at H; have c19b0 : decide (t111 < 0) = false := decide_eq_false c19; clear c19; obtain rfl := Option.some.inj H
  case p0 | p1 | p2 | p3 | p4 | n4 =>
    try go_wp2_with (first | ((with_reducible refine zq25 (N := 2) rfl ?_); refine bx 2 #[.string a0_0, .int .i64 a0_1, .int .i64 a0_2, .string a0_3, .slice A0_4 l0_4.length c0_4, .slice A0_5 l0_5.length c0_5, .slice A0_6 l0_6.length c0_6] 26 ?_; intro gb108 hg w4 hbox hb; have n0_ := zq9 (zq27 (by exact bl HB) hb); have n1_ := zq9 (hbox); have n2_ := zq9 ((by rw [hg]; exact (zq29 (by exact bl HB)) : w.heap.size ≤ gb108)); have n3_ := n2_; clear HB; have HB := n0_; have BK108 := n1_; have GW108 := n2_; have GE108 := n3_; clear n0_ n1_ n2_ n3_; clear hb hbox hg; have hcz5_0 : w4.cell? ⟨gb108, 0, none⟩ = some (.string a0_0) := bc BK108 0; have hcz5_1 : w4.cell? ⟨gb108, 1, none⟩ = some (.int .i64 a0_1) := bc BK108 1; have hcz5_2 : w4.cell? ⟨gb108, 2, none⟩ = some (.int .i64 a0_2) := bc BK108 2; have hcz5_3 : w4.cell? ⟨gb108, 3, none⟩ = some (.string a0_3) := bc BK108 3; have hcz5_4 : w4.cell? ⟨gb108, 4, none⟩ = some (.slice A0_4 l0_4.length c0_4) := bc BK108 4; have hcz5_5 : w4.cell? ⟨gb108, 5, none⟩ = some (.slice A0_5 l0_5.length c0_5) := bc BK108 5; have hcz5_6 : w4.cell? ⟨gb108, 6, none⟩ = some (.slice A0_6 l0_6.length c0_6) := bc BK108 6; have hfz5_0 := zq6 BK108.out 0; have hfz5_1 := zq6 BK108.out 1; have hfz5_2 := zq6 BK108.out 2; have hfz5_3 := zq6 BK108.out 3; have hfz5_4 := zq6 BK108.out 4; have hfz5_5 := zq6 BK108.out 5; have hfz5_6 := zq6 BK108.out 6) | ((with_reducible refine zq24 (f := 36) rfl ?_); refine gl (some 22) Try.func36 #[.slice A0_4 l0_4.length c0_4, .int .i64 (wrap64 ((wrap64 (a1 - (a0_0.size : Int))) - (a0_3.size : Int)))] ?_; (with_reducible refine (laws_szStringS.calls k _ _ l0_4 (wrap64 ((wrap64 (a1 - (a0_0.size : Int))) - (a0_3.size : Int))) t109 _ ?side1 ?side2 A9.out).mono ?_); (case side1 => exact kc HR0_4 HB); (case side2 => exact HC0_4.out); rintro e w' ⟨rfl, ⟨nd, rfl⟩⟩; refine ⟨_, rfl, ?_⟩) | ((with_reducible refine zq24 (f := 37) rfl ?_); refine gl (some 28) Try.func37 #[.slice A0_5 l0_5.length c0_5, .int .i64 t109] ?_; (with_reducible refine (laws_szScoreS.calls k _ _ l0_5 t109 t110 _ ?side1 ?side2 A13.out).mono ?_); (case side1 => repeat (first | exact (zq31 HR0_5.out (by exact b1 HB GE108)) | (with_reducible refine zq18 ?_ _) | (with_reducible refine zq19 ?_ _) | (with_reducible refine zq20 ?_))); (case side2 => exact HC0_5.out); rintro e w17 ⟨rfl, hb⟩; refine ⟨_, rfl, ?_⟩; have n0_ := zq9 (zq30 (g := gb108) (o := .cells #[.string a0_0, .int .i64 a0_1, .int .i64 a0_2, .string a0_3, .slice A0_4 l0_4.length c0_4, .slice A0_5 l0_5.length c0_5, .slice A0_6 l0_6.length c0_6] 26 (0, 0)) (by exact bk BK108) hb); have n1_ := zq9 (zq27 (by exact b1 HB GE108) hb); clear BK108; clear HB; have BK108 := n0_; have HB := n1_; clear n0_ n1_; (try clear hb); (try clear hb2); (try clear hk); (try clear hi); have hcz23_0 : w17.cell? ⟨gb108, 0, none⟩ = some (.string a0_0) := bc BK108 0; have hcz23_1 : w17.cell? ⟨gb108, 1, none⟩ = some (.int .i64 a0_1) := bc BK108 1; have hcz23_2 : w17.cell? ⟨gb108, 2, none⟩ = some (.int .i64 a0_2) := bc BK108 2; have hcz23_3 : w17.cell? ⟨gb108, 3, none⟩ = some (.string a0_3) := bc BK108 3; have hcz23_4 : w17.cell? ⟨gb108, 4, none⟩ = some (.slice A0_4 l0_4.length c0_4) := bc BK108 4; have hcz23_5 : w17.cell? ⟨gb108, 5, none⟩ = some (.slice A0_5 l0_5.length c0_5) := bc BK108 5; have hcz23_6 : w17.cell? ⟨gb108, 6, none⟩ = some (.slice A0_6 l0_6.length c0_6) := bc BK108 6; have hfz23_0 := zq6 BK108.out 0; have hfz23_1 := zq6 BK108.out 1; have hfz23_2 := zq6 BK108.out 2; have hfz23_3 := zq6 BK108.out 3; have hfz23_4 := zq6 BK108.out 4; have hfz23_5 := zq6 BK108.out 5; have hfz23_6 := zq6 BK108.out 6) | ((with_reducible refine zq24 (f := 38) rfl ?_); refine gl (some 34) Try.func38 #[.slice A0_6 l0_6.length c0_6, .int .i64 t110] ?_; (with_reducible refine (laws_szPairS.calls k _ _ l0_6 t110 t111 _ ?side1 ?side2 A18.out).mono ?_); (case side1 => exact kc HR0_6 HB); (case side2 => exact HC0_6.out); rintro e w24 ⟨rfl, hb⟩; refine ⟨_, rfl, ?_⟩; have n0_ := zq9 (zq30 (g := gb108) (o := .cells #[.string a0_0, .int .i64 a0_1, .int .i64 a0_2, .string a0_3, .slice A0_4 l0_4.length c0_4, .slice A0_5 l0_5.length c0_5, .slice A0_6 l0_6.length c0_6] 26 (0, 0)) (by exact bk BK108) hb); have n1_ := zq9 (zq27 (by exact b1 HB GE108) hb); clear BK108; clear HB; have BK108 := n0_; have HB := n1_; clear n0_ n1_; (try clear hb); (try clear hb2); (try clear hk); (try clear hi)))
    go_ret
    exact fz (by exact b1 HB GE108)
set_option maxHeartbeats 8000000 in
set_option maxRecDepth 100000 in
theorem laws_szEntryS.calls (k : Nat) (A0 : Option Addr) (c0 : Nat) (l0 : List (S26)) (a1 : Int) (r : Int) (w : World) (hr0 : Kd.C k26 w A0 l0.length l0) (hc0 : l0.length ≤ c0) (h : laws_szEntryS.f k l0 a1 = some r) :
  Calls Try.prog 58 #[.slice A0 l0.length c0, .int .i64 a1] w fun e w' => e = .returned (.int .i64 r) ∧ Below w.heap.size w w' := by
 have hu26 := Try.underlying26; have HR0 := zq9 hr0; have HC0 := zq9 hc0; clear hr0 hc0
 have HB := zq9 (Below.refl w.heap.size w)
 have H : (if (wrap64 (a1 - (l0.length : Int))) < 0 then (some (-1)) else (laws_szEntryS.l0 k l0 (wrap64 (a1 - (l0.length : Int))) 0)) = some r := h
 clear h
 go_enter Try.func58, Try.ntmps58
 by_cases c3 : (wrap64 (a1 - (l0.length : Int))) < 0
 ·rw [if_pos c3] at H; have c3b0 : decide ((wrap64 (a1 - (l0.length : Int))) < 0) = true := decide_eq_true c3; clear c3; obtain rfl := Option.some.inj H
  go_wp2
  go_ret
  exact fz (by exact bl HB)
 ·rw [if_neg c3] at H; have c3b0 : decide ((wrap64 (a1 - (l0.length : Int))) < 0) = false := decide_eq_false c3; clear c3; have H' := zq9 H; clear H
  go_wp2
  go_loopg [1, 5] k (fun kq v1 v5 w' => ∃ (x1_1 : Int) (x5_1 : Int), v1 = .int .i64 x1_1 ∧ v5 = .int .i64 x5_1 ∧ Aside0 (laws_szEntryS.l0 kq l0 x1_1 x5_1 = some r) ∧ Aside0 (kq ≤ k) ∧ Aside0 (Below w.heap.size w w'))
  case atStart => exact ⟨(wrap64 (a1 - (l0.length : Int))), (0), (by first | rfl | (simp; done) | (simp [*]; done)), (by first | rfl | (simp; done) | (simp [*]; done)), H', ⟨Nat.le_refl _⟩, ⟨by exact bl HB⟩⟩
  case round =>
   clear H'
   try clear p2
   try clear c3
   try clear c3b0
   obtain ⟨x1_1, x5_1, rfl, rfl, HA, HK1, HB⟩ := hrel
   cases gk with
   | zero => exact absurd HA.out (by simp [laws_szEntryS.l0])
   | succ k1 =>
    have H := HA.out; clear HA
    simp only [laws_szEntryS.l0] at H
    by_cases c4 : x5_1 < (l0.length : Int)
    ·rw [if_pos c4] at H; have c4b0 : decide (x5_1 < (l0.length : Int)) = true := decide_eq_true c4; clear c4
     by_cases c5 : 0 ≤ x5_1
     ·rw [if_pos c5] at H; have c5b0 : decide (0 ≤ x5_1) = true := decide_eq_true c5; clear c5; replace H := Option.bind_eq_some_iff.mp H; obtain ⟨t642, A60, H⟩ := H
      try dsimp only at H
      have A6 := zq9 A60; clear A60
      have p641 : 0 ≤ (x5_1 : Int) := of_decide_eq_true ‹_›
      have q641 : x5_1 < (l0.length : Int) := of_decide_eq_true ‹_›
      obtain ⟨ad641, A641_4, c641_4, A641_5, c641_5, A641_6, c641_6, e641, hx641_0, hx641_1, hx641_2, hx641_3, hx641_4, hx641_5, hx641_6, hl641_4, hi641_4, hl641_5, hi641_5, hl641_6, hi641_6⟩ := at_T26 HR0.out x5_1 p641 q641
      cases e641; replace hx641_0 := hcl HB hx641_0; replace hx641_1 := hcl HB hx641_1; replace hx641_2 := hcl HB hx641_2; replace hx641_3 := hcl HB hx641_3; replace hx641_4 := hcl HB hx641_4; replace hx641_5 := hcl HB hx641_5; replace hx641_6 := hcl HB hx641_6; have HR641_4 := zq9 hi641_4; have HC641_4 := zq9 hl641_4; clear hi641_4 hl641_4; have HR641_5 := zq9 hi641_5; have HC641_5 := zq9 hl641_5
      clear hi641_5 hl641_5; have HR641_6 := zq9 hi641_6; have HC641_6 := zq9 hl641_6; clear hi641_6 hl641_6; replace p641 := eq_true p641; replace q641 := eq_true q641
      by_cases c7 : t642 < 0
      ·rw [if_pos c7] at H; have c7b0 : decide (t642 < 0) = true := decide_eq_true c7; clear c7; obtain rfl := Option.some.inj H
       go_wp2_with (first | ((with_reducible refine zq24 (f := 10) rfl ?_); refine gl (some 23) Try.func10 #[.agg #[.string ((rd_T26 l0 x5_1).f0), .int .i64 ((rd_T26 l0 x5_1).f1), .int .i64 ((rd_T26 l0 x5_1).f2), .string ((rd_T26 l0 x5_1).f3), .slice A641_4 ((rd_T26 l0 x5_1).f4).length c641_4, .slice A641_5 ((rd_T26 l0 x5_1).f5).length c641_5, .slice A641_6 ((rd_T26 l0 x5_1).f6).length c641_6], .int .i64 x1_1] ?_; (with_reducible refine (laws_szEntry.calls k1 ((rd_T26 l0 x5_1).f0) ((rd_T26 l0 x5_1).f1) ((rd_T26 l0 x5_1).f2) ((rd_T26 l0 x5_1).f3) _ _ ((rd_T26 l0 x5_1).f4) _ _ ((rd_T26 l0 x5_1).f5) _ _ ((rd_T26 l0 x5_1).f6) x1_1 t642 _ ?side1 ?side2 ?side3 ?side4 ?side5 ?side6 A6.out).mono ?_); (case side1 => exact kc HR641_4 HB); (case side2 => exact HC641_4.out); (case side3 => exact kc HR641_5 HB); (case side4 => exact HC641_5.out); (case side5 => exact kc HR641_6 HB); (case side6 => exact HC641_6.out); rintro e w8 ⟨rfl, hb⟩; refine ⟨_, rfl, ?_⟩; have n0_ := zq9 (zq27 (by exact bl HB) hb); clear HB; have HB := n0_; clear n0_; (try clear hb); (try clear hb2); (try clear hk); (try clear hi)))
       go_ret
       exact fz (by exact bl HB)
      ·rw [if_neg c7] at H; have c7b0 : decide (t642 < 0) = false := decide_eq_false c7; clear c7; have H' := zq9 H; clear H
       go_wp2_with (first | ((with_reducible refine zq24 (f := 10) rfl ?_); refine gl (some 23) Try.func10 #[.agg #[.string ((rd_T26 l0 x5_1).f0), .int .i64 ((rd_T26 l0 x5_1).f1), .int .i64 ((rd_T26 l0 x5_1).f2), .string ((rd_T26 l0 x5_1).f3), .slice A641_4 ((rd_T26 l0 x5_1).f4).length c641_4, .slice A641_5 ((rd_T26 l0 x5_1).f5).length c641_5, .slice A641_6 ((rd_T26 l0 x5_1).f6).length c641_6], .int .i64 x1_1] ?_; (with_reducible refine (laws_szEntry.calls k1 ((rd_T26 l0 x5_1).f0) ((rd_T26 l0 x5_1).f1) ((rd_T26 l0 x5_1).f2) ((rd_T26 l0 x5_1).f3) _ _ ((rd_T26 l0 x5_1).f4) _ _ ((rd_T26 l0 x5_1).f5) _ _ ((rd_T26 l0 x5_1).f6) x1_1 t642 _ ?side1 ?side2 ?side3 ?side4 ?side5 ?side6 A6.out).mono ?_); (case side1 => exact kc HR641_4 HB); (case side2 => exact HC641_4.out); (case side3 => exact kc HR641_5 HB); (case side4 => exact HC641_5.out); (case side5 => exact kc HR641_6 HB); (case side6 => exact HC641_6.out); rintro e w8 ⟨rfl, hb⟩; refine ⟨_, rfl, ?_⟩; have n0_ := zq9 (zq27 (by exact bl HB) hb); clear HB; have HB := n0_; clear n0_; (try clear hb); (try clear hb2); (try clear hk); (try clear hi)))
       go_roundg k1
       case measure => have := HK1.out; omega
       case rel => exact ⟨(t642), (wrap64 (x5_1 + 1)), (by first | rfl | (simp; done) | (simp [*]; done)), (by first | rfl | (simp; done) | (simp [*]; done)), H', ⟨by have := HK1.out; omega⟩, ⟨by exact bl HB⟩⟩
     ·rw [if_neg c5] at H
      exact absurd H (by simp)
    ·rw [if_neg c4] at H; have c4b0 : decide (x5_1 < (l0.length : Int)) = false := decide_eq_false c4; clear c4; obtain rfl := Option.some.inj H
     go_wp2
     go_ret
     exact fz (by exact bl HB)
set_option maxHeartbeats 8000000 in
set_option maxRecDepth 100000 in
theorem laws_szBase.calls (k : Nat) (a0_0 : Int) (A0_1 : Option Addr) (c0_1 : Nat) (l0_1 : List (S26)) (a1 : Int) (r : Int) (w : World) (hr0_1 : Kd.C k26 w A0_1 l0_1.length l0_1) (hc0_1 : l0_1.length ≤ c0_1) (h : laws_szBase.f k a0_0 l0_1 a1 = some r) :
    Calls Try.prog 16 #[.agg #[.int .i64 a0_0, .slice A0_1 l0_1.length c0_1], .int .i64 a1] w fun e w' => e = .returned (.int .i64 r) ∧ Below w.heap.size w w' := by
  have hu41 := Try.underlying41; have HR0_1 := zq9 hr0_1; have HC0_1 := zq9 hc0_1; clear hr0_1 hc0_1
  have HB := zq9 (Below.refl w.heap.size w)
  have H : ((laws_szEntryS.f k l0_1 a1).bind fun t644 => (if t644 < 0 then (some (-1)) else (some t644))) = some r := h
  clear h; replace H := Option.bind_eq_some_iff.mp H; obtain ⟨t644, A30, H⟩ := H
  try dsimp only at H
  have A3 := zq9 A30; clear A30
  by_cases c4 : t644 < 0
  · rw [if_pos c4] at H; have c4b0 : decide (t644 < 0) = true := decide_eq_true c4; clear c4; obtain rfl := Option.some.inj H
    go_enter Try.func16, Try.ntmps16
    go_wp2_with (first | ((with_reducible refine zq25 (N := 2) rfl ?_); refine bx 2 #[.int .i64 a0_0, .slice A0_1 l0_1.length c0_1] 41 ?_; intro gb643 hg w5 hbox hb; have n0_ := zq9 (zq27 (by exact bl HB) hb); have n1_ := zq9 (hbox); have n2_ := zq9 ((by rw [hg]; exact (zq29 (by exact bl HB)) : w.heap.size ≤ gb643)); have n3_ := n2_; clear HB; have HB := n0_; have BK643 := n1_; have GW643 := n2_; have GE643 := n3_; clear n0_ n1_ n2_ n3_; clear hb hbox hg; have hcz6_0 : w5.cell? ⟨gb643, 0, none⟩ = some (.int .i64 a0_0) := bc BK643 0; have hcz6_1 : w5.cell? ⟨gb643, 1, none⟩ = some (.slice A0_1 l0_1.length c0_1) := bc BK643 1; have hfz6_0 := zq6 BK643.out 0; have hfz6_1 := zq6 BK643.out 1) | ((with_reducible refine zq24 (f := 58) rfl ?_); refine gl (some 8) Try.func58 #[.slice A0_1 l0_1.length c0_1, .int .i64 a1] ?_; (with_reducible refine (laws_szEntryS.calls k _ _ l0_1 a1 t644 _ ?side1 ?side2 A3.out).mono ?_); (case side1 => exact kc HR0_1 HB); (case side2 => exact HC0_1.out); rintro e w7 ⟨rfl, hb⟩; refine ⟨_, rfl, ?_⟩; have n0_ := zq9 (zq30 (g := gb643) (o := .cells #[.int .i64 a0_0, .slice A0_1 l0_1.length c0_1] 41 (0, 0)) (by exact bk BK643) hb); have n1_ := zq9 (zq27 (by exact b1 HB GE643) hb); clear BK643; clear HB; have BK643 := n0_; have HB := n1_; clear n0_ n1_; (try clear hb); (try clear hb2); (try clear hk); (try clear hi)))
    go_ret
    exact fz (by exact b1 HB GE643)
  · rw [if_neg c4] at H; have c4b0 : decide (t644 < 0) = false := decide_eq_false c4; clear c4; obtain rfl := Option.some.inj H
    go_enter Try.func16, Try.ntmps16
    go_wp2_with (first | ((with_reducible refine zq25 (N := 2) rfl ?_); refine bx 2 #[.int .i64 a0_0, .slice A0_1 l0_1.length c0_1] 41 ?_; intro gb643 hg w8 hbox hb; have n0_ := zq9 (zq27 (by exact bl HB) hb); have n1_ := zq9 (hbox); have n2_ := zq9 ((by rw [hg]; exact (zq29 (by exact bl HB)) : w.heap.size ≤ gb643)); have n3_ := n2_; clear HB; have HB := n0_; have BK643 := n1_; have GW643 := n2_; have GE643 := n3_; clear n0_ n1_ n2_ n3_; clear hb hbox hg; have hcz9_0 : w8.cell? ⟨gb643, 0, none⟩ = some (.int .i64 a0_0) := bc BK643 0; have hcz9_1 : w8.cell? ⟨gb643, 1, none⟩ = some (.slice A0_1 l0_1.length c0_1) := bc BK643 1; have hfz9_0 := zq6 BK643.out 0; have hfz9_1 := zq6 BK643.out 1) | ((with_reducible refine zq24 (f := 58) rfl ?_); refine gl (some 8) Try.func58 #[.slice A0_1 l0_1.length c0_1, .int .i64 a1] ?_; (with_reducible refine (laws_szEntryS.calls k _ _ l0_1 a1 t644 _ ?side1 ?side2 A3.out).mono ?_); (case side1 => exact kc HR0_1 HB); (case side2 => exact HC0_1.out); rintro e w10 ⟨rfl, hb⟩; refine ⟨_, rfl, ?_⟩; have n0_ := zq9 (zq30 (g := gb643) (o := .cells #[.int .i64 a0_0, .slice A0_1 l0_1.length c0_1] 41 (0, 0)) (by exact bk BK643) hb); have n1_ := zq9 (zq27 (by exact b1 HB GE643) hb); clear BK643; clear HB; have BK643 := n0_; have HB := n1_; clear n0_ n1_; (try clear hb); (try clear hb2); (try clear hk); (try clear hi)))
    go_ret
    exact fz (by exact b1 HB GE643)
set_option maxHeartbeats 8000000 in
set_option maxRecDepth 100000 in
theorem laws_toStringS.calls (k : Nat) (A0 : Option Addr) (c0 : Nat) (l0 : List ByteArray) (r : List ByteArray) (w : World) (hr0 : Kd.C Kd.string w A0 l0.length l0) (hc0 : l0.length ≤ c0) (h : laws_toStringS.f k l0 = some r) :
  Calls Try.prog 45 #[.slice A0 l0.length c0] w fun e w' => ∃ v0_ : Value, e = .returned (v0_) ∧ Kd.R Kd.string 9 w' w.heap.size (fun _ => True) v0_ r ∧ Below w.heap.size w w' := by
 have HR0 := zq9 hr0; have HC0 := zq9 hc0; clear hr0 hc0
 have HB := zq9 (Below.refl w.heap.size w)
 have H : (if 0 ≤ (l0.length : Int) then (if ((l0.length : Int) : Int).toNat ≤ 17592186044416 then (laws_toStringS.l0 k l0 (List.replicate ((l0.length : Int) : Int).toNat (⟨#[]⟩ : ByteArray)) 0) else (none)) else (none)) = some r := h
 clear h
 by_cases c2 : 0 ≤ (l0.length : Int)
 ·rw [if_pos c2] at H
  have c2b0 := eq_true c2
  have c2b1 : decide (0 ≤ (l0.length : Int)) = true := decide_eq_true c2; clear c2
  by_cases c3 : ((l0.length : Int) : Int).toNat ≤ 17592186044416
  ·rw [if_pos c3] at H
   have c3b0 := eq_true c3
   have c3b1 : decide (((l0.length : Int) : Int).toNat ≤ 17592186044416) = true := decide_eq_true c3; clear c3
   obtain ⟨y138, hy138⟩ : ∃ y_ : List ByteArray, y_ = (List.replicate ((l0.length : Int) : Int).toNat (⟨#[]⟩ : ByteArray)) := ⟨_, rfl⟩
   replace H : (laws_toStringS.l0 k l0 y138 0) = some r := by first | (rw [hy138]; with_reducible exact H) | (have H2_ := (Option.bind_some _ _).symm.trans H; rw [hy138]; with_reducible exact H2_) | (have H2_ := (Option.bind_some _ _).symm.trans H; with_reducible exact H2_) | with_reducible exact H | (rw [hy138]; exact H) | exact H
   have Ny138 := zq9 hy138; clear hy138; have H' := zq9 H; clear H
   go_enter Try.func45, Try.ntmps45
   go_wp2_with (first | ((with_reducible refine zq25 (N := 7) rfl ?_); refine Kd.R_make Kd.string _ 9 rfl (N := 7) rfl 22 _ _ rfl (l0.length : Int) rfl rfl Try.underlying22 (.string ⟨#[]⟩) 16 info9 rfl (by decide) (by omega) (⟨#[]⟩ : ByteArray) (ok := fun _ => True) (okp := fun _ => True) rfl (fun _ hk => hk) trivial (of_decide_eq_true ‹_›) (Nat.le_trans (Nat.mul_le_mul_right _ (of_decide_eq_true ‹_› : (l0.length : Int).toNat ≤ 17592186044416)) (by omega)) (Below.refl _ _) (Nat.le_refl _) ?_; intro v139 w4 ho5 hb hg_ hnew_; clear hg_ hnew_; (first | rw [← Ny138.out] at ho5 | (simp only [Int.reduceToNat] at ho5; rw [← Ny138.out] at ho5)); have n0_ := zq9 (Kd.R_lower ho5 (zq29 (by exact bl HB))); have n1_ := zq9 (zq27 (by exact bl HB) hb); clear HB; have HO140 := n0_; have HB := n1_; clear n0_ n1_; clear hb ho5))
   go_loopg [4] k (fun kq v4 w' => ∃ (x3_1 : List ByteArray) (x4_1 : Int), v4 = .int .i64 x4_1 ∧ Aside0 (laws_toStringS.l0 kq l0 x3_1 x4_1 = some r) ∧ Aside0 (kq ≤ k) ∧ Aside0 (Kd.R Kd.string 9 w' w.heap.size (fun _ => True) v139 x3_1) ∧ Aside0 (Below w.heap.size w w'))
   case atStart => exact ⟨(y138), (0), (by first | rfl | (simp; done) | (simp [*]; done)), H', ⟨Nat.le_refl _⟩, ⟨by (with_reducible repeat (first | apply zq10 | apply zq11 | apply zq12)); exact HO140.out⟩, ⟨by exact bl HB⟩⟩
   case round =>
    clear H'
    try clear c2
    try clear c2b0
    try clear c2b1
    try clear p2
    try clear c3
    try clear c3b0
    try clear c3b1
    try clear c4
    obtain ⟨x3_1, x4_1, rfl, HA, HK1, HO_3, HB⟩ := hrel
    cases gk with
    | zero => exact absurd HA.out (by simp [laws_toStringS.l0])
    | succ k1 =>
     have H := HA.out; clear HA
     simp only [laws_toStringS.l0] at H
     by_cases c6 : x4_1 < (l0.length : Int)
     ·rw [if_pos c6] at H; have c6b0 : decide (x4_1 < (l0.length : Int)) = true := decide_eq_true c6; clear c6
      by_cases c7 : 0 ≤ x4_1
      ·rw [if_pos c7] at H; have c7b0 : decide (0 ≤ x4_1) = true := decide_eq_true c7; clear c7
       by_cases c8 : x4_1 < (x3_1.length : Int)
       ·rw [if_pos c8] at H; have c8b0 : decide (x4_1 < (x3_1.length : Int)) = true := decide_eq_true c8; clear c8
        obtain ⟨y142, hy142⟩ : ∃ y_ : List ByteArray, y_ = (x3_1.set (x4_1 : Int).toNat (rdOf ByteArray.empty l0 x4_1)) := ⟨_, rfl⟩
        replace H : (laws_toStringS.l0 k1 l0 y142 (wrap64 (x4_1 + 1))) = some r := by first | (rw [hy142]; with_reducible exact H) | (have H2_ := (Option.bind_some _ _).symm.trans H; rw [hy142]; with_reducible exact H2_) | (have H2_ := (Option.bind_some _ _).symm.trans H; with_reducible exact H2_) | with_reducible exact H | (rw [hy142]; exact H) | exact H
        have Ny142 := zq9 hy142; clear hy142; have H' := zq9 H; clear H
        have p141 : 0 ≤ (x4_1 : Int) := of_decide_eq_true ‹_›
        have q141 : x4_1 < (l0.length : Int) := of_decide_eq_true ‹_›
        obtain ⟨ad141, e141, hx141_0⟩ := Kd.at_string HR0.out x4_1 p141 q141
        cases e141; replace hx141_0 := hcl HB hx141_0; replace p141 := eq_true p141; replace q141 := eq_true q141
        have p9 : 0 ≤ (x4_1 : Int) := of_decide_eq_true ‹_›
        have q9 : (x4_1 : Int) < ((x3_1.length : Int) : Int) := of_decide_eq_true ‹_›
        obtain ⟨go9, co9, eo9, gb9, gl9, cl9, HG9⟩ := Kd.R_form HO_3.out (by omega)
        (first | cases eo9 | (injection eo9 with ea_ en_ ec_; (first | subst ea_ | (injection ea_ with ea_; subst ea_)); subst ec_; clear en_))
        have GB9 := zq9 gb9; have GG9 := zq9 HG9; clear gb9 gl9 HG9
        obtain ⟨hx9_0, hf9_0⟩ := Kd.R_celln (⟨#[]⟩ : ByteArray) HO_3.out (x4_1 : Int) p9 q9
        replace p9 := eq_true p9; replace q9 := eq_true q9
        have HP10 := Kd.R_putg HO_3.out (x4_1 : Int) (rdOf ByteArray.empty l0 x4_1)
        go_wp2_with (first | ((with_reducible refine zq26 (t := 9) (p := 20) rfl ?_); refine store_event (t := 9) (p := 20) (v := ?vo_w11) (w1 := (wr.setCell ⟨go9, (x4_1 : Int).toNat, none⟩ (.string (rdOf ByteArray.empty l0 x4_1)))) ?hg ?ho ?hn ?hr ?_; (case ho => rfl); (case hg => rfl); (case hn => rfl); (case hr => first | (go_simp; done) | (go_simp; rfl)); intro w11 hw; have hg : wr.grownBy w11 (some go9) := (by rw [hw]; exact HP10.2); have hp_ : Kd.R Kd.string 9 w11 w.heap.size (fun _ => True) (.slice (some ⟨go9, 0, none⟩) x3_1.length co9) y142 := (by rw [hw, Ny142.out]; exact HP10.1); clear HP10; have n0_ := zq9 (hp_); have n1_ := zq9 ((by rw [hw]; exact zq28 (HB.out) GB9.out : Below w.heap.size w w11)); clear HO_3; clear HB; have HO_3 := n0_; have HB := n1_; clear n0_ n1_; clear hg hw hp_))
        go_roundg k1
        case measure => have := HK1.out; omega
        case rel => exact ⟨(y142), (wrap64 (x4_1 + 1)), (by first | rfl | (simp; done) | (simp [*]; done)), H', ⟨by have := HK1.out; omega⟩, ⟨by (with_reducible repeat (first | apply zq10 | apply zq11 | apply zq12)); exact HO_3.out⟩, ⟨by exact bl HB⟩⟩
       ·rw [if_neg c8] at H
        exact absurd H (by simp)
      ·rw [if_neg c7] at H
       exact absurd H (by simp)
     ·rw [if_neg c6] at H; have c6b0 : decide (x4_1 < (l0.length : Int)) = false := decide_eq_false c6; clear c6; obtain rfl := Option.some.inj H
      go_wp2
      go_ret
      exact ⟨_, by first | rfl | (simp [errW_none, errW_some] <;> rfl) | (simp [*, errW_none, errW_some] <;> rfl), by (with_reducible repeat (first | apply zq10 | apply zq11 | apply zq12)); exact HO_3.out, by exact bl HB⟩
  ·rw [if_neg c3] at H
   exact absurd H (by simp)
 ·rw [if_neg c2] at H
  exact absurd H (by simp)
set_option maxHeartbeats 8000000 in
set_option maxRecDepth 100000 in
theorem laws_toScore.calls (a0_0 : ByteArray) (a0_1 : Int) (r1 : ByteArray) (r2 : Int) (w : World) (h : laws_toScore.f a0_0 a0_1 = some (r1, r2)) :
    Calls Try.prog 82 #[.agg #[.string a0_0, .int .i64 a0_1]] w fun e w' => e = .returned (.agg #[.string r1, .int .i64 r2]) ∧ Below w.heap.size w w' := by
  have hu95 := Try.underlying95; have hu99 := Try.underlying99
  have HB := zq9 (Below.refl w.heap.size w)
  have H : (some (a0_0, a0_1)) = some (r1, r2) := h
  clear h
  simp only [Option.some.injEq, Prod.mk.injEq] at H
  obtain ⟨rfl, rfl⟩ := H
  go_enter Try.func82, Try.ntmps82
  go_wp2_with (first | ((with_reducible refine zq25 (N := 1) rfl ?_); refine bx 1 #[.string a0_0, .int .i64 a0_1] 95 ?_; intro gb143 hg w2 hbox hb; have n0_ := zq9 (zq27 (by exact bl HB) hb); have n1_ := zq9 (hbox); have n2_ := zq9 ((by rw [hg]; exact (zq29 (by exact bl HB)) : w.heap.size ≤ gb143)); have n3_ := n2_; clear HB; have HB := n0_; have BK143 := n1_; have GW143 := n2_; have GE143 := n3_; clear n0_ n1_ n2_ n3_; clear hb hbox hg) | ((with_reducible refine zq25 (N := 2) rfl ?_); refine bx 2 #[.string (⟨#[]⟩ : ByteArray), .int .i64 0] 99 ?_; intro gb144 hg w3 hbox hb; have n0_ := zq9 (zq30 (g := gb143) (o := .cells #[.string a0_0, .int .i64 a0_1] 95 (0, 0)) (by exact bk BK143) hb); have n1_ := zq9 (zq27 (by exact b1 HB GE143) hb); have n2_ := zq9 (hbox); have n3_ := zq9 ((by rw [hg]; exact (zq29 (by exact b1 HB GE143)) : w.heap.size ≤ gb144)); have n4_ := n3_; have n5_ := zq9 ((by rw [hg]; exact Nat.ne_of_lt (blk_lt (g := gb143) (o := .cells #[.string a0_0, .int .i64 a0_1] 95 (0, 0)) (by exact bk BK143)) : gb143 ≠ gb144)); have n6_ := zq9 ((by rw [hg]; exact Nat.ne_of_gt (blk_lt (g := gb143) (o := .cells #[.string a0_0, .int .i64 a0_1] 95 (0, 0)) (by exact bk BK143)) : gb144 ≠ gb143)); clear BK143; clear HB; have BK143 := n0_; have HB := n1_; have BK144 := n2_; have GW144 := n3_; have GE144 := n4_; have NB143_144 := n5_; have NB144_143 := n6_; clear n0_ n1_ n2_ n3_ n4_ n5_ n6_; clear hb hbox hg) | ((with_reducible refine zq25 (N := 3) rfl ?_); refine bx 3 #[.string (⟨#[]⟩ : ByteArray), .int .i64 0] 99 ?_; intro gb145 hg w4 hbox hb; have n0_ := zq9 (zq30 (g := gb143) (o := .cells #[.string a0_0, .int .i64 a0_1] 95 (0, 0)) (by exact bk BK143) hb); have n1_ := zq9 (zq30 (g := gb144) (o := .cells #[.string (⟨#[]⟩ : ByteArray), .int .i64 0] 99 (0, 0)) (by exact bk BK144) hb); have n2_ := zq9 (zq27 (by exact b2 HB GE143 GE144) hb); have n3_ := zq9 (hbox); have n4_ := zq9 ((by rw [hg]; exact (zq29 (by exact b2 HB GE143 GE144)) : w.heap.size ≤ gb145)); have n5_ := n4_; have n6_ := zq9 ((by rw [hg]; exact Nat.ne_of_lt (blk_lt (g := gb143) (o := .cells #[.string a0_0, .int .i64 a0_1] 95 (0, 0)) (by exact bk BK143)) : gb143 ≠ gb145)); have n7_ := zq9 ((by rw [hg]; exact Nat.ne_of_gt (blk_lt (g := gb143) (o := .cells #[.string a0_0, .int .i64 a0_1] 95 (0, 0)) (by exact bk BK143)) : gb145 ≠ gb143)); have n8_ := zq9 ((by rw [hg]; exact Nat.ne_of_lt (blk_lt (g := gb144) (o := .cells #[.string (⟨#[]⟩ : ByteArray), .int .i64 0] 99 (0, 0)) (by exact bk BK144)) : gb144 ≠ gb145)); have n9_ := zq9 ((by rw [hg]; exact Nat.ne_of_gt (blk_lt (g := gb144) (o := .cells #[.string (⟨#[]⟩ : ByteArray), .int .i64 0] 99 (0, 0)) (by exact bk BK144)) : gb145 ≠ gb144)); clear BK143; clear BK144; clear HB; have BK143 := n0_; have BK144 := n1_; have HB := n2_; have BK145 := n3_; have GW145 := n4_; have GE145 := n5_; have NB143_145 := n6_; have NB145_143 := n7_; have NB144_145 := n8_; have NB145_144 := n9_; clear n0_ n1_ n2_ n3_ n4_ n5_ n6_ n7_ n8_ n9_; clear hb hbox hg; have hnb5 := NB143_144.out; have hnc5 := NB144_143.out; have hnb6 := NB143_145.out; have hnc6 := NB145_143.out; have hcz7_0 : w4.cell? ⟨gb143, 0, none⟩ = some (.string a0_0) := bc BK143 0; have hcz7_1 : w4.cell? ⟨gb143, 1, none⟩ = some (.int .i64 a0_1) := bc BK143 1; have hfz7_0 := zq6 BK143.out 0; have hfz7_1 := zq6 BK143.out 1; have hnb8 := NB145_144.out; have hnc8 := NB144_145.out; have hcz9_0 : w4.cell? ⟨gb145, 0, none⟩ = some (.string (⟨#[]⟩ : ByteArray)) := bc BK145 0; have hcz9_1 : w4.cell? ⟨gb145, 1, none⟩ = some (.int .i64 0) := bc BK145 1; have hfz9_0 := zq6 BK145.out 0; have hfz9_1 := zq6 BK145.out 1; have hcz10_0 : w4.cell? ⟨gb144, 0, none⟩ = some (.string (⟨#[]⟩ : ByteArray)) := bc BK144 0; have hcz10_1 : w4.cell? ⟨gb144, 1, none⟩ = some (.int .i64 0) := bc BK144 1; have hfz10_0 := zq6 BK144.out 0; have hfz10_1 := zq6 BK144.out 1))
  refine bodyPost_ret (results_cell_row rfl _ _ gb144 99 #[.string a0_0, .int .i64 a0_1] (0, 0) _ rfl (by refine bp ?_; refine blk_put (cs := #[.string a0_0, .int .i64 0]) ?_ 1 _ rfl; refine bp ?_; refine blk_put (cs := #[.string (⟨#[]⟩ : ByteArray), .int .i64 0]) ?_ 0 _ rfl; refine bp ?_; refine blk_far ?_ NB144_145.out _; refine bp ?_; refine blk_far ?_ NB144_145.out _; refine bp ?_; exact BK144.out) Try.underlying99 rfl (by kernel_rfl)) rfl ?_
  exact fz (by exact b3 HB GE143 GE144 GE145)
set_option maxHeartbeats 8000000 in
set_option maxRecDepth 100000 in
theorem laws_toScoreS.calls (k : Nat) (A0 : Option Addr) (c0 : Nat) (l0 : List (S95)) (r : List (S99)) (w : World) (hr0 : Kd.C k95 w A0 l0.length l0) (hc0 : l0.length ≤ c0) (h : laws_toScoreS.f k l0 = some r) :
  Calls Try.prog 46 #[.slice A0 l0.length c0] w fun e w' => ∃ v0_ : Value, e = .returned (v0_) ∧ Kd.R k99 99 w' w.heap.size (fun _ => True) v0_ r ∧ Below w.heap.size w w' := by
 have hu95 := Try.underlying95; have hu99 := Try.underlying99; have HR0 := zq9 hr0; have HC0 := zq9 hc0; clear hr0 hc0
 have HB := zq9 (Below.refl w.heap.size w)
 have H : (if 0 ≤ (l0.length : Int) then (if ((l0.length : Int) : Int).toNat ≤ 11728124029610 then (laws_toScoreS.l0 k l0 (List.replicate ((l0.length : Int) : Int).toNat z99) 0) else (none)) else (none)) = some r := h
 clear h
 by_cases c2 : 0 ≤ (l0.length : Int)
 ·rw [if_pos c2] at H
  have c2b0 := eq_true c2
  have c2b1 : decide (0 ≤ (l0.length : Int)) = true := decide_eq_true c2; clear c2
  by_cases c3 : ((l0.length : Int) : Int).toNat ≤ 11728124029610
  ·rw [if_pos c3] at H
   have c3b0 := eq_true c3
   have c3b1 : decide (((l0.length : Int) : Int).toNat ≤ 11728124029610) = true := decide_eq_true c3; clear c3
   obtain ⟨y146, hy146⟩ : ∃ y_ : List (S99), y_ = (List.replicate ((l0.length : Int) : Int).toNat z99) := ⟨_, rfl⟩
   replace H : (laws_toScoreS.l0 k l0 y146 0) = some r := by first | (rw [hy146]; with_reducible exact H) | (have H2_ := (Option.bind_some _ _).symm.trans H; rw [hy146]; with_reducible exact H2_) | (have H2_ := (Option.bind_some _ _).symm.trans H; with_reducible exact H2_) | with_reducible exact H | (rw [hy146]; exact H) | exact H
   have Ny146 := zq9 hy146; clear hy146; have H' := zq9 H; clear H
   go_enter Try.func46, Try.ntmps46
   go_wp2_with (first | ((with_reducible refine zq25 (N := 7) rfl ?_); refine Kd.R_make k99 _ 99 rfl (N := 7) rfl 29 _ _ rfl (l0.length : Int) rfl rfl Try.underlying29 (.agg #[(.string ⟨#[]⟩), (.int .i64 0)]) 24 info99 rfl (by decide) (by omega) z99 (ok := fun _ => True) (okp := fun _ => True) (k99_mkM _ _ _ z99 ) (fun _ hk => hk) trivial (of_decide_eq_true ‹_›) (Nat.le_trans (Nat.mul_le_mul_right _ (of_decide_eq_true ‹_› : (l0.length : Int).toNat ≤ 11728124029610)) (by omega)) (Below.refl _ _) (Nat.le_refl _) ?_; intro v147 w4 ho5 hb hg_ hnew_; clear hg_ hnew_; (first | rw [← Ny146.out] at ho5 | (simp only [Int.reduceToNat] at ho5; rw [← Ny146.out] at ho5)); have n0_ := zq9 (Kd.R_lower ho5 (zq29 (by exact bl HB))); have n1_ := zq9 (zq27 (by exact bl HB) hb); clear HB; have HO148 := n0_; have HB := n1_; clear n0_ n1_; clear hb ho5))
   go_loopg [4] k (fun kq v4 w' => ∃ (x3_1 : List (S99)) (x4_1 : Int), v4 = .int .i64 x4_1 ∧ Aside0 (laws_toScoreS.l0 kq l0 x3_1 x4_1 = some r) ∧ Aside0 (kq ≤ k) ∧ Aside0 (Kd.R k99 99 w' w.heap.size (fun _ => True) v147 x3_1) ∧ Aside0 (Below w.heap.size w w'))
   case atStart => exact ⟨(y146), (0), (by first | rfl | (simp; done) | (simp [*]; done)), H', ⟨Nat.le_refl _⟩, ⟨by (with_reducible repeat (first | apply zq10 | apply zq11 | apply zq12)); exact HO148.out⟩, ⟨by exact bl HB⟩⟩
   case round =>
    clear H'
    try clear c2
    try clear c2b0
    try clear c2b1
    try clear p2
    try clear c3
    try clear c3b0
    try clear c3b1
    try clear c4
    obtain ⟨x3_1, x4_1, rfl, HA, HK1, HO_3, HB⟩ := hrel
    cases gk with
    | zero => exact absurd HA.out (by simp [laws_toScoreS.l0])
    | succ k1 =>
     have H := HA.out; clear HA
     simp only [laws_toScoreS.l0] at H
     by_cases c6 : x4_1 < (l0.length : Int)
     ·rw [if_pos c6] at H; have c6b0 : decide (x4_1 < (l0.length : Int)) = true := decide_eq_true c6; clear c6
      by_cases c7 : 0 ≤ x4_1
      ·rw [if_pos c7] at H; have c7b0 : decide (0 ≤ x4_1) = true := decide_eq_true c7; clear c7; replace H := Option.bind_eq_some_iff.mp H
       obtain ⟨⟨t150, t151⟩, A80, H⟩ := H
       try dsimp only at H
       have A8 := zq9 A80; clear A80
       by_cases c9 : x4_1 < (x3_1.length : Int)
       ·rw [if_pos c9] at H; have c9b0 : decide (x4_1 < (x3_1.length : Int)) = true := decide_eq_true c9; clear c9
        obtain ⟨y152, hy152⟩ : ∃ y_ : List (S99), y_ = (x3_1.set (x4_1 : Int).toNat (⟨t150, t151⟩ : S99)) := ⟨_, rfl⟩
        replace H : (laws_toScoreS.l0 k1 l0 y152 (wrap64 (x4_1 + 1))) = some r := by first | (rw [hy152]; with_reducible exact H) | (have H2_ := (Option.bind_some _ _).symm.trans H; rw [hy152]; with_reducible exact H2_) | (have H2_ := (Option.bind_some _ _).symm.trans H; with_reducible exact H2_) | with_reducible exact H | (rw [hy152]; exact H) | exact H
        have Ny152 := zq9 hy152; clear hy152; have H' := zq9 H; clear H
        have p149 : 0 ≤ (x4_1 : Int) := of_decide_eq_true ‹_›
        have q149 : x4_1 < (l0.length : Int) := of_decide_eq_true ‹_›
        obtain ⟨ad149, e149, hx149_0, hx149_1⟩ := at_T95 HR0.out x4_1 p149 q149
        cases e149; replace hx149_0 := hcl HB hx149_0; replace hx149_1 := hcl HB hx149_1; replace p149 := eq_true p149; replace q149 := eq_true q149
        go_wp2_with (first | ((with_reducible refine zq24 (f := 82) rfl ?_); refine gl (some 20) Try.func82 #[.agg #[.string ((rd_T95 l0 x4_1).f0), .int .i64 ((rd_T95 l0 x4_1).f1)]] ?_; (with_reducible refine (laws_toScore.calls ((rd_T95 l0 x4_1).f0) ((rd_T95 l0 x4_1).f1) t150 t151 _ A8.out).mono ?_); rintro e w11 ⟨rfl, hb⟩; refine ⟨_, rfl, ?_⟩; have n0_ := zq9 (Kd.R_below (by exact rz HO_3) hb); have n1_ := zq9 (zq27 (by exact bl HB) hb); clear HO_3; clear HB; have HO_3 := n0_; have HB := n1_; clear n0_ n1_; (try clear hb); (try clear hb2); (try clear hk); (try clear hi); have p10 : 0 ≤ (x4_1 : Int) := of_decide_eq_true ‹_›; have q10 : (x4_1 : Int) < ((x3_1.length : Int) : Int) := of_decide_eq_true ‹_›; obtain ⟨go10, co10, eo10, gb10, gl10, cl10, HG10⟩ := Kd.R_form HO_3.out (by omega); (first | cases eo10 | (injection eo10 with ea_ en_ ec_; (first | subst ea_ | (injection ea_ with ea_; subst ea_)); subst ec_; clear en_)); have GB10 := zq9 gb10; have GG10 := zq9 HG10; clear gb10 gl10 HG10; obtain ⟨ce10, hcl10, hM10, hcc10, hfr10⟩ := Kd.R_elem HO_3.out z99 (x4_1 : Int) p10 q10; obtain rfl := k99_openM hM10; have hx10_0 : w11.cell? ⟨go10, (x4_1 : Int).toNat * 2, none⟩ = some (.string ((rd_T99 x3_1 x4_1).f0)) := hcc10 0 _ rfl; have hx10_1 : w11.cell? ⟨go10, (x4_1 : Int).toNat * 2 + 1, none⟩ = some (.int .i64 ((rd_T99 x3_1 x4_1).f1)) := hcc10 1 _ rfl; have hf10_0 : w11.frozen? ⟨go10, (x4_1 : Int).toNat * 2, none⟩ = false := hfr10 0; have hf10_1 : w11.frozen? ⟨go10, (x4_1 : Int).toNat * 2 + 1, none⟩ = false := hfr10 1; clear hcl10 hcc10 hfr10 hM10; replace p10 := eq_true p10; replace q10 := eq_true q10; have HX12 := zq9 (show Kd.R k99 99 w11 w.heap.size (fun _ => True) (.slice (some ⟨go10, 0, none⟩) x3_1.length co10) x3_1 from (by exact rz HO_3)); obtain ⟨ce12, hcl12, hM12, hcc12, hfr12⟩ := Kd.R_elem HX12.out z99 (x4_1 : Int) (of_decide_eq_true ‹_›) (by have h_ : (x4_1 : Int) < ((x3_1.length : Int) : Int) := of_decide_eq_true ‹_›; first | exact h_ | (have e_ := (Kd.R_reads' HO_3.out).1; omega) | simpa using h_); obtain rfl := k99_openM hM12; have HP12 := Kd.R_seg HX12.out (x4_1 : Int) (of_decide_eq_true ‹_›) (by have h_ : (x4_1 : Int) < ((x3_1.length : Int) : Int) := of_decide_eq_true ‹_›; first | exact h_ | (have e_ := (Kd.R_reads' HO_3.out).1; omega) | simpa using h_) (seg := [.string t150, .int .i64 t151]) (j := 0) hcl12 hcc12 (show 2 ≤ 2 from by decide) (x' := (⟨t150, t151⟩ : S99)) (k99_mkM _ _ _ (⟨t150, t151⟩ : S99) ) (fun _ hk => hk); have hx12_0 := hcc12 0 _ rfl; (try simp only [show (k99).sz = 2 from rfl, Nat.mul_one, Nat.add_zero] at hx12_0); have hf12_0 := hfr12 0; (try simp only [show (k99).sz = 2 from rfl, Nat.mul_one, Nat.add_zero] at hf12_0); have hx12_1 := hcc12 1 _ rfl; (try simp only [show (k99).sz = 2 from rfl, Nat.mul_one, Nat.add_zero] at hx12_1); have hf12_1 := hfr12 1; (try simp only [show (k99).sz = 2 from rfl, Nat.mul_one, Nat.add_zero] at hf12_1); clear hcl12 hcc12 hfr12 hM12) | ((with_reducible refine zq26 (t := 99) (p := 21) rfl ?_); refine store_event (t := 99) (p := 21) (v := ?vo_w13) (w1 := ((w11.setCell ⟨go10, (x4_1 : Int).toNat * 2, none⟩ (.string t150)).setCell ⟨go10, (x4_1 : Int).toNat * 2 + 1, none⟩ (.int .i64 t151))) ?hg ?ho ?hn ?hr ?_; (case ho => rfl); (case hg => rfl); (case hn => rfl); (case hr => first | (go_simp; done) | (go_simp; rfl)); intro w13 hw; have hg : w11.grownBy w13 (some go10) := (by rw [hw]; exact HP12.2); have hp_ : Kd.R k99 99 w13 w.heap.size (fun _ => True) (.slice (some ⟨go10, 0, none⟩) x3_1.length co10) y152 := (by rw [hw, Ny152.out]; exact HP12.1); clear HP12; have n0_ := zq9 (hp_); have n1_ := zq9 ((by rw [hw]; exact zq28 (zq28 (HB.out) GB10.out) GB10.out : Below w.heap.size w w13)); clear HO_3; clear HB; have HO_3 := n0_; have HB := n1_; clear n0_ n1_; clear hg hw hp_))
        go_roundg k1
        case measure => have := HK1.out; omega
        case rel => exact ⟨(y152), (wrap64 (x4_1 + 1)), (by first | rfl | (simp; done) | (simp [*]; done)), H', ⟨by have := HK1.out; omega⟩, ⟨by (with_reducible repeat (first | apply zq10 | apply zq11 | apply zq12)); exact HO_3.out⟩, ⟨by exact bl HB⟩⟩
       ·rw [if_neg c9] at H
        exact absurd H (by simp)
      ·rw [if_neg c7] at H
       exact absurd H (by simp)
     ·rw [if_neg c6] at H; have c6b0 : decide (x4_1 < (l0.length : Int)) = false := decide_eq_false c6; clear c6; obtain rfl := Option.some.inj H
      go_wp2
      go_ret
      exact ⟨_, by first | rfl | (simp [errW_none, errW_some] <;> rfl) | (simp [*, errW_none, errW_some] <;> rfl), by (with_reducible repeat (first | apply zq10 | apply zq11 | apply zq12)); exact HO_3.out, by exact bl HB⟩
  ·rw [if_neg c3] at H
   exact absurd H (by simp)
 ·rw [if_neg c2] at H
  exact absurd H (by simp)
set_option maxHeartbeats 8000000 in
set_option maxRecDepth 100000 in
theorem laws_toPair.calls (a0_0 : ByteArray) (a0_1 : ByteArray) (r1 : ByteArray) (r2 : ByteArray) (w : World) (h : laws_toPair.f a0_0 a0_1 = some (r1, r2)) :
    Calls Try.prog 83 #[.agg #[.string a0_0, .string a0_1]] w fun e w' => e = .returned (.agg #[.string r1, .string r2]) ∧ Below w.heap.size w w' := by
  have hu98 := Try.underlying98; have hu101 := Try.underlying101
  have HB := zq9 (Below.refl w.heap.size w)
  have H : (some (a0_0, a0_1)) = some (r1, r2) := h
  clear h
  simp only [Option.some.injEq, Prod.mk.injEq] at H
  obtain ⟨rfl, rfl⟩ := H
  go_enter Try.func83, Try.ntmps83
  go_wp2_with (first | ((with_reducible refine zq25 (N := 1) rfl ?_); refine bx 1 #[.string a0_0, .string a0_1] 98 ?_; intro gb153 hg w2 hbox hb; have n0_ := zq9 (zq27 (by exact bl HB) hb); have n1_ := zq9 (hbox); have n2_ := zq9 ((by rw [hg]; exact (zq29 (by exact bl HB)) : w.heap.size ≤ gb153)); have n3_ := n2_; clear HB; have HB := n0_; have BK153 := n1_; have GW153 := n2_; have GE153 := n3_; clear n0_ n1_ n2_ n3_; clear hb hbox hg) | ((with_reducible refine zq25 (N := 2) rfl ?_); refine bx 2 #[.string (⟨#[]⟩ : ByteArray), .string (⟨#[]⟩ : ByteArray)] 101 ?_; intro gb154 hg w3 hbox hb; have n0_ := zq9 (zq30 (g := gb153) (o := .cells #[.string a0_0, .string a0_1] 98 (0, 0)) (by exact bk BK153) hb); have n1_ := zq9 (zq27 (by exact b1 HB GE153) hb); have n2_ := zq9 (hbox); have n3_ := zq9 ((by rw [hg]; exact (zq29 (by exact b1 HB GE153)) : w.heap.size ≤ gb154)); have n4_ := n3_; have n5_ := zq9 ((by rw [hg]; exact Nat.ne_of_lt (blk_lt (g := gb153) (o := .cells #[.string a0_0, .string a0_1] 98 (0, 0)) (by exact bk BK153)) : gb153 ≠ gb154)); have n6_ := zq9 ((by rw [hg]; exact Nat.ne_of_gt (blk_lt (g := gb153) (o := .cells #[.string a0_0, .string a0_1] 98 (0, 0)) (by exact bk BK153)) : gb154 ≠ gb153)); clear BK153; clear HB; have BK153 := n0_; have HB := n1_; have BK154 := n2_; have GW154 := n3_; have GE154 := n4_; have NB153_154 := n5_; have NB154_153 := n6_; clear n0_ n1_ n2_ n3_ n4_ n5_ n6_; clear hb hbox hg) | ((with_reducible refine zq25 (N := 3) rfl ?_); refine bx 3 #[.string (⟨#[]⟩ : ByteArray), .string (⟨#[]⟩ : ByteArray)] 101 ?_; intro gb155 hg w4 hbox hb; have n0_ := zq9 (zq30 (g := gb153) (o := .cells #[.string a0_0, .string a0_1] 98 (0, 0)) (by exact bk BK153) hb); have n1_ := zq9 (zq30 (g := gb154) (o := .cells #[.string (⟨#[]⟩ : ByteArray), .string (⟨#[]⟩ : ByteArray)] 101 (0, 0)) (by exact bk BK154) hb); have n2_ := zq9 (zq27 (by exact b2 HB GE153 GE154) hb); have n3_ := zq9 (hbox); have n4_ := zq9 ((by rw [hg]; exact (zq29 (by exact b2 HB GE153 GE154)) : w.heap.size ≤ gb155)); have n5_ := n4_; have n6_ := zq9 ((by rw [hg]; exact Nat.ne_of_lt (blk_lt (g := gb153) (o := .cells #[.string a0_0, .string a0_1] 98 (0, 0)) (by exact bk BK153)) : gb153 ≠ gb155)); have n7_ := zq9 ((by rw [hg]; exact Nat.ne_of_gt (blk_lt (g := gb153) (o := .cells #[.string a0_0, .string a0_1] 98 (0, 0)) (by exact bk BK153)) : gb155 ≠ gb153)); have n8_ := zq9 ((by rw [hg]; exact Nat.ne_of_lt (blk_lt (g := gb154) (o := .cells #[.string (⟨#[]⟩ : ByteArray), .string (⟨#[]⟩ : ByteArray)] 101 (0, 0)) (by exact bk BK154)) : gb154 ≠ gb155)); have n9_ := zq9 ((by rw [hg]; exact Nat.ne_of_gt (blk_lt (g := gb154) (o := .cells #[.string (⟨#[]⟩ : ByteArray), .string (⟨#[]⟩ : ByteArray)] 101 (0, 0)) (by exact bk BK154)) : gb155 ≠ gb154)); clear BK153; clear BK154; clear HB; have BK153 := n0_; have BK154 := n1_; have HB := n2_; have BK155 := n3_; have GW155 := n4_; have GE155 := n5_; have NB153_155 := n6_; have NB155_153 := n7_; have NB154_155 := n8_; have NB155_154 := n9_; clear n0_ n1_ n2_ n3_ n4_ n5_ n6_ n7_ n8_ n9_; clear hb hbox hg; have hnb5 := NB153_154.out; have hnc5 := NB154_153.out; have hnb6 := NB153_155.out; have hnc6 := NB155_153.out; have hcz7_0 : w4.cell? ⟨gb153, 0, none⟩ = some (.string a0_0) := bc BK153 0; have hcz7_1 : w4.cell? ⟨gb153, 1, none⟩ = some (.string a0_1) := bc BK153 1; have hfz7_0 := zq6 BK153.out 0; have hfz7_1 := zq6 BK153.out 1; have hnb8 := NB155_154.out; have hnc8 := NB154_155.out; have hcz9_0 : w4.cell? ⟨gb155, 0, none⟩ = some (.string (⟨#[]⟩ : ByteArray)) := bc BK155 0; have hcz9_1 : w4.cell? ⟨gb155, 1, none⟩ = some (.string (⟨#[]⟩ : ByteArray)) := bc BK155 1; have hfz9_0 := zq6 BK155.out 0; have hfz9_1 := zq6 BK155.out 1; have hcz10_0 : w4.cell? ⟨gb154, 0, none⟩ = some (.string (⟨#[]⟩ : ByteArray)) := bc BK154 0; have hcz10_1 : w4.cell? ⟨gb154, 1, none⟩ = some (.string (⟨#[]⟩ : ByteArray)) := bc BK154 1; have hfz10_0 := zq6 BK154.out 0; have hfz10_1 := zq6 BK154.out 1))
  refine bodyPost_ret (results_cell_row rfl _ _ gb154 101 #[.string a0_0, .string a0_1] (0, 0) _ rfl (by refine bp ?_; refine blk_put (cs := #[.string a0_0, .string (⟨#[]⟩ : ByteArray)]) ?_ 1 _ rfl; refine bp ?_; refine blk_put (cs := #[.string (⟨#[]⟩ : ByteArray), .string (⟨#[]⟩ : ByteArray)]) ?_ 0 _ rfl; refine bp ?_; refine blk_far ?_ NB154_155.out _; refine bp ?_; refine blk_far ?_ NB154_155.out _; refine bp ?_; exact BK154.out) Try.underlying101 rfl (by kernel_rfl)) rfl ?_
  exact fz (by exact b3 HB GE153 GE154 GE155)
end Go.Proofs.Ytnkgmcgbbldkgaa.P
