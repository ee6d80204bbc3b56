import Derived.Test.YtnkgmcgbbldkgaaPrFnEntryOk1
import Derived.Lib.SliceRun
import Derived.Deep.RegionLaw
import Derived.Laws.IdiomCopy
import Derived.Test.YtnkgmcgbbldkgaaProg
import Derived.Below
import Derived.Deep.Draws
import Derived.Deep.AppendLies
import Derived.Maps.AppendAt
import Derived.OwnWalk
import Derived.Laws.BytesArg
import Derived.Laws.MakeOwn
import Derived.Laws.OwnMore
import Derived.Deep.OwnRows
import Derived.Tactics
import Derived.Lib.ConvBytes
import Derived.Laws.Slices
import Derived.WalkKit
import Derived.KernelRfl
import Derived.RowKit3
import Derived.Deep.LoopGhost
import Derived.Deep.QuietTactic
import Derived.BigQuiet
import Derived.WideLaws
import Derived.Deep.DeepCutAuto
import Derived.Deep.CutBlock
import Derived.Deep.RegionHeld3
import Derived.Laws.Rows
import Derived.Lib.AppendStr
import Derived.ArgAppend
import Derived.OrdersHeld
import Derived.Laws.BitsLemmas
import Derived.RowKit
import Derived.WalkLawsBesides
/- Texts of this claim, one behind the other: words on worlds and rows, printed functions and their walks, plain lemmas. -/
namespace Go.Proofs.Ytnkgmcgbbldkgaa.P
open Go.RowKit Go.Proofs.YtnkgmcgbbldkgaaW.PrintWords Go.Proofs.YtnkgmcgbbldkgaaW.PrintLast
class Wr (a b : World) : Prop where
  out : Below a.heap.size a b
instance Wr.refl (a : World) : Wr a a := ⟨Below.refl _ _⟩
instance Wr.alloc (a b : World) (o : Obj) [h : Wr a b] : Wr a (b.alloc o) := ⟨h.out.alloc h.out.size o⟩
instance Wr.drew (a b : World) [h : Wr a b] : Wr a b.drew := ⟨h.out.drew⟩
instance Wr.drewN (a b : World) (n : Nat) [h : Wr a b] : Wr a (b.drewN n) := ⟨⟨h.out.os, h.out.tape, h.out.output, h.out.size, h.out.block⟩⟩
theorem bl {w a b : World} (h : Aside0 (Below w.heap.size w a)) [k : Wr a b] : Below w.heap.size w b := h.out.trans (k.out.mono h.out.size)
theorem bk {a b : World} {g : Nat} {o : Obj} (h : Aside0 (a.heap[g]? = some o)) [k : Wr a b] : b.heap[g]? = some o := (k.out.block g (blk_lt h.out)).trans h.out
theorem kc {α : Type} {d : Kd α} {xs : List α} {w a b : World} {A : Option Addr} {n : Nat} (h : Aside0 (d.C w A n xs)) (hb : Aside0 (Below w.heap.size w a)) [k : Wr a b] : d.C b A n xs := Kd.C_below h.out (bl hb)
class Ws (g1 g2 g3 g4 : Nat) (a b : World) : Prop where
  out : ∀ w : World, Below w.heap.size w a → w.heap.size ≤ g1 → w.heap.size ≤ g2 → w.heap.size ≤ g3 → w.heap.size ≤ g4 → Below w.heap.size w b
instance Ws.refl (g1 g2 g3 g4 : Nat) (a : World) : Ws g1 g2 g3 g4 a a := ⟨fun _ h _ _ _ _ => h⟩
instance Ws.alloc (g1 g2 g3 g4 : Nat) (a b : World) (o : Obj) [h : Ws g1 g2 g3 g4 a b] : Ws g1 g2 g3 g4 a (b.alloc o) := ⟨fun w x h1 h2 h3 h4 => below_alloc (h.out w x h1 h2 h3 h4) o⟩
instance Ws.drew (g1 g2 g3 g4 : Nat) (a b : World) [h : Ws g1 g2 g3 g4 a b] : Ws g1 g2 g3 g4 a b.drew := ⟨fun w x h1 h2 h3 h4 => (h.out w x h1 h2 h3 h4).drew⟩
instance Ws.drewN (g1 g2 g3 g4 : Nat) (a b : World) (n : Nat) [h : Ws g1 g2 g3 g4 a b] : Ws g1 g2 g3 g4 a (b.drewN n) := ⟨fun w x h1 h2 h3 h4 => pw_below_drewN (h.out w x h1 h2 h3 h4) n⟩
instance Ws.s4 (g1 g2 g3 g4 : Nat) (a b : World) (i : Nat) (v : Value) [h : Ws g1 g2 g3 g4 a b] : Ws g1 g2 g3 g4 a (b.setCell ⟨g4, i, none⟩ v) := ⟨fun w x h1 h2 h3 h4 => below_set (h.out w x h1 h2 h3 h4) h4⟩
instance Ws.s3 (g1 g2 g3 g4 : Nat) (a b : World) (i : Nat) (v : Value) [h : Ws g1 g2 g3 g4 a b] : Ws g1 g2 g3 g4 a (b.setCell ⟨g3, i, none⟩ v) := ⟨fun w x h1 h2 h3 h4 => below_set (h.out w x h1 h2 h3 h4) h3⟩
instance Ws.s2 (g1 g2 g3 g4 : Nat) (a b : World) (i : Nat) (v : Value) [h : Ws g1 g2 g3 g4 a b] : Ws g1 g2 g3 g4 a (b.setCell ⟨g2, i, none⟩ v) := ⟨fun w x h1 h2 h3 h4 => below_set (h.out w x h1 h2 h3 h4) h2⟩
instance Ws.s1 (g1 g2 g3 g4 : Nat) (a b : World) (i : Nat) (v : Value) [h : Ws g1 g2 g3 g4 a b] : Ws g1 g2 g3 g4 a (b.setCell ⟨g1, i, none⟩ v) := ⟨fun w x h1 h2 h3 h4 => below_set (h.out w x h1 h2 h3 h4) h1⟩
theorem b1 {w a b : World} {g1 : Nat} (h : Aside0 (Below w.heap.size w a)) (h1 : Aside0 (w.heap.size ≤ g1)) [k : Ws g1 g1 g1 g1 a b] : Below w.heap.size w b := k.out w h.out h1.out h1.out h1.out h1.out
theorem b2 {w a b : World} {g1 g2 : Nat} (h : Aside0 (Below w.heap.size w a)) (h1 : Aside0 (w.heap.size ≤ g1)) (h2 : Aside0 (w.heap.size ≤ g2)) [k : Ws g1 g1 g1 g2 a b] : Below w.heap.size w b := k.out w h.out h1.out h1.out h1.out h2.out
theorem b3 {w a b : World} {g1 g2 g3 : Nat} (h : Aside0 (Below w.heap.size w a)) (h1 : Aside0 (w.heap.size ≤ g1)) (h2 : Aside0 (w.heap.size ≤ g2)) (h3 : Aside0 (w.heap.size ≤ g3)) [k : Ws g1 g1 g2 g3 a b] : Below w.heap.size w b := k.out w h.out h1.out h1.out h2.out h3.out
class Wp (a : outParam World) (b : World) : Prop where
  out : Below a.heap.size a b
instance (priority := low) Wp.refl (a : World) : Wp a a := ⟨Below.refl _ _⟩
instance Wp.alloc (a b : World) (o : Obj) [h : Wp a b] : Wp a (b.alloc o) := ⟨h.out.alloc h.out.size o⟩
instance Wp.drew (a b : World) [h : Wp a b] : Wp a b.drew := ⟨h.out.drew⟩
instance Wp.drewN (a b : World) (n : Nat) [h : Wp a b] : Wp a (b.drewN n) := ⟨⟨h.out.os, h.out.tape, h.out.output, h.out.size, h.out.block⟩⟩
theorem bp {a b : World} {g : Nat} {o : Obj} [k : Wp a b] (h : a.heap[g]? = some o) : b.heap[g]? = some o := (k.out.block g (blk_lt h)).trans h
section
variable {P : Program} {ops : Array Oper} {Q : Exit → Act → World → Prop} {md : Region.Mode} {S : World → Prop} {ds : List Nat}
theorem pa {T : Bool × List (List Nat × List Nat)} (hT : Aside0 (rtab md ops = T)) (i N : Nat) {oi : Oper} {v : Value} {fuel : Nat} {l : Array Bool} {a a' : Act} {w : World} (l' : Array Bool)
    (h : wpAnyLast P md ops Q S ds fuel l' a' w)
    (hi : ops[i]? = some oi := by rfl) (hN : oi.dst = some N := by rfl) (hc : anyT T l.toList l'.toList i = true := by kernel_rfl)
    (hQ : ∀ c a w, Q (.panic c) (a.put oi.dst v) w → Q (.panic c) a w := by exact fun _ _ _ h => h)
    (hw : Region.wanted oi (yielded ops a.tmps) = true := by rfl) (hy : ∀ w, (execOp a.eval oi).run P w = .ok (.value v) w := by intro w'; go_simp; with_reducible rfl)
    (ha : a.put (some N) v = a' := by simp only [Act.put, List.setIfInBounds_toArray, List.set_cons_zero, List.set_cons_succ, i64_w, i32_w]; rfl) :
    wpAnyLast P md ops Q S ds (fuel + 1) l a w := pure_ l' hi hN (any_of hT.out hc) hQ (Or.inl ⟨hw, hy⟩) ha h
theorem pb {T : Bool × List (List Nat × List Nat)} (hT : Aside0 (rtab md ops = T)) (i N : Nat) {oi : Oper} {fuel : Nat} {l : Array Bool} {a a' : Act} {w : World} (l' : Array Bool)
    (h : wpAnyLast P md ops Q S ds fuel l' a' w)
    (hi : ops[i]? = some oi := by rfl) (hN : oi.dst = some N := by rfl) (hc : anyT T l.toList l'.toList i = true := by kernel_rfl)
    (hQ : ∀ c a w, Q (.panic c) (a.put oi.dst undef) w → Q (.panic c) a w := by exact fun _ _ _ h => h)
    (hw : Region.wanted oi (yielded ops a.tmps) = false := by rfl)
    (ha : a.put (some N) undef = a' := by simp only [Act.put, List.setIfInBounds_toArray, List.set_cons_zero, List.set_cons_succ, i64_w, i32_w]; rfl) :
    wpAnyLast P md ops Q S ds (fuel + 1) l a w := pure_ l' hi hN (any_of hT.out hc) hQ (Or.inr ⟨hw, rfl⟩) ha h
end
section
variable {α : Type} {d : Kd α} {e base : Nat} {ok : Nat → Prop} {v : Value} {xs : List α} {a b : World}
theorem rz (h : Aside0 (d.R e a base ok v xs)) [k : Wr a b] : d.R e b base ok v xs := Kd.R_below h.out k.out
end
class Wv (a b : World) : Prop where
  out : ∀ {α : Type} (d : Kd α) (e base : Nat) (ok : Nat → Prop) (v : Value) (xs : List α), Kd.V d e a base ok v xs → Kd.V d e b base ok v xs
instance Wv.refl (a : World) : Wv a a := ⟨fun _ _ _ _ _ _ h => h⟩
instance Wv.alloc (a b : World) (o : Obj) [k : Wv a b] : Wv a (b.alloc o) := ⟨fun d e base ok v xs h => Kd.V_alloc (k.out d e base ok v xs h) o⟩
instance Wv.drew (a b : World) [k : Wv a b] : Wv a b.drew := ⟨fun d e base ok v xs h => Kd.V_drew (k.out d e base ok v xs h)⟩
instance Wv.drewN (a b : World) (n : Nat) [k : Wv a b] : Wv a (b.drewN n) := ⟨fun d e base ok v xs h => Kd.V_drewN (k.out d e base ok v xs h) n⟩
theorem vz {α : Type} {d : Kd α} {e base : Nat} {ok : Nat → Prop} {v : Value} {xs : List α} {a b : World} (h : Aside0 (Kd.V d e a base ok v xs)) [k : Wv a b] : Kd.V d e b base ok v xs := k.out d e base ok v xs h.out
class Wk (g : Nat) (a b : World) : Prop where
  out : ∀ w : World, KeepBut w a g none → KeepBut w b g none
instance Wk.refl (g : Nat) (a : World) : Wk g a a := ⟨fun _ h => h⟩
instance Wk.set_ (g : Nat) (a b : World) (i : Nat) (v : Value) [k : Wk g a b] : Wk g a (b.setCell ⟨g, i, none⟩ v) := ⟨fun w h => KeepBut.set_ (k.out w h) i v⟩
instance Wk.alloc (g : Nat) (a b : World) (o : Obj) [k : Wk g a b] : Wk g a (b.alloc o) := ⟨fun w h => keep_alloc (k.out w h) o⟩
instance Wk.drew (g : Nat) (a b : World) [k : Wk g a b] : Wk g a b.drew := ⟨fun w h => keep_drew (k.out w h)⟩
instance Wk.drewN (g : Nat) (a b : World) (n : Nat) [k : Wk g a b] : Wk g a (b.drewN n) := ⟨fun w h => keep_drewN (k.out w h) n⟩
theorem kz {w a b : World} {g : Nat} (h : Aside0 (KeepBut w a g none)) [k : Wk g a b] : KeepBut w b g none := k.out w h.out
theorem bc {w : World} {g : Nat} {t : TypeId} {cs : Array Value} {v : Value} (h : Aside0 (w.heap[g]? = some (.cells cs t (0, 0)))) (i : Nat) (hv : cs[i]? = some v := by rfl) : w.cell? ⟨g, i, none⟩ = some v := (blk_cell h.out i).trans hv
theorem fz {p q : Prop} (hq : q) (hp : p := by first | rfl | (simp [errW_none, errW_some] <;> rfl) | (simp [*, errW_none, errW_some] <;> rfl)) : p ∧ q := ⟨hp, hq⟩
section
variable {P : Program} {ops : Array Oper} {rest : List Oper} {oi : Oper} {a : Act} {Q : Exit → Act → World → Prop} {w : World} {K : Act → World → Prop}
theorem gl (N : Option Tmp) {f : FuncId} {fn : Func} {ags : Array Operand} {ts : Array TypeId} (hf : P.funcs[f]? = some fn) (args : Array Value)
    (h : Calls P f args w fun e w' => ∃ v, e = .returned v ∧ wpList P ops Q rest (a.put N v) w')
    (hd : oi.dst = N := by rfl) (hg : oi.guard = none := by rfl) (hname : (fn.name == "runtime.NumGoroutine") = false := by kernel_rfl) (hb : fn.body.isSome = true := by rfl)
    (hop : oi.op = .call { callee := .value (.func f), args := ags, argTypes := ts } := by rfl)
    (hargs : ags.map a.eval = args := by (try simp only [List.map_toArray, List.map_cons, List.map_nil]); first | done | rfl | (simp only [List.length_drop, List.length_take]; rfl)) : wpList P ops Q (oi :: rest) a w :=
  goesL_ N hd hg hf hname hb args hop hargs h
theorem gs {N : Option Tmp} {f : FuncId} {fn : Func} {ags : Array Operand} {ts : Array TypeId} (hf : P.funcs[f]? = some fn) (args : Array Value)
    (h : Calls P f args w fun e w' => ∃ v, e = .returned v ∧ K (a.put N v) w')
    (hname : (fn.name == "runtime.NumGoroutine") = false := by kernel_rfl) (hb : fn.body.isSome = true := by rfl) (hw : Region.wanted oi (yielded ops a.tmps) = true := by rfl) (hN : oi.dst = N := by rfl)
    (hop : oi.op = .call { callee := .value (.func f), args := ags, argTypes := ts } := by rfl)
    (hargs : ags.map a.eval = args := by (try simp only [List.map_toArray, List.map_cons, List.map_nil]); first | done | rfl | (simp only [List.length_drop, List.length_take]; rfl)) :
    if Region.wanted oi (yielded ops a.tmps) = true then Oper.wp P oi a w K Q else K (a.put N undef) w := goes_ hf hname hb args hw hN hop hargs h
theorem bx (N : Tmp) (cs : Array Value) (t : TypeId)
    (h : ∀ g, g = w.heap.size → ∀ w1, w1.heap[g]? = some (.cells cs t (0, 0)) → Below w.heap.size w w1 → wpList P ops Q rest (a.put oi.dst (.pointer (some ⟨g, 0, none⟩))) w1)
    (hd : oi.dst = some N := by rfl) (hgd : oi.guard = none := by rfl)
    (hrun : (execOp a.eval oi).run P w = .ok (.value (.pointer (some ⟨w.heap.size, 0, none⟩))) (w.alloc (.cells cs t (0, 0))) := by first | (go_simp; done) | (go_simp; rfl)) : wpList P ops Q (oi :: rest) a w :=
  box_event hgd hd hrun h
end
end Go.Proofs.Ytnkgmcgbbldkgaa.P
namespace Go.Proofs.Ytnkgmcgbbldkgaa.X
open Go.RowKit Go.Proofs.YtnkgmcgbbldkgaaW.PrintWords Go.Proofs.YtnkgmcgbbldkgaaW.PrintLast
theorem bl_self (a : List UInt8) : Op.bytesLess a a = false := by
  induction a with
  | nil => rfl
  | cons x r ih => simp [Op.bytesLess, ih]
theorem bl_same (a : List UInt8) : ∀ (b : List UInt8), Op.bytesLess a b = false → Op.bytesLess b a = false → a = b := by
  induction a with
  | nil =>
    intro b h _
    cases b with
    | nil => rfl
    | cons y b => simp [Op.bytesLess] at h
  | cons x a ih =>
    intro b h h'
    cases b with
    | nil => simp [Op.bytesLess] at h'
    | cons y b =>
      simp only [Op.bytesLess, Bool.or_eq_false_iff, Bool.and_eq_false_iff, decide_eq_false_iff_not, beq_eq_false_iff_ne] at h h'
      obtain rfl : x = y := UInt8.le_antisymm (UInt8.not_lt.1 h'.1) (UInt8.not_lt.1 h.1)
      rw [ih b (by simpa using h.2) (by simpa using h'.2)]
theorem bl_ne {a b : ByteArray} (h : Op.bytesLess b.toList a.toList = true) : (a.toList == b.toList) = false := by
  rw [beq_eq_false_iff_ne]
  intro e
  rw [e, bl_self] at h
  cases h
theorem bl_eq {a b : ByteArray} (h : Op.bytesLess a.toList b.toList = false) (h' : Op.bytesLess b.toList a.toList = false) : (a.toList == b.toList) = true := by
  rw [bl_same _ _ h h']
  exact beq_self_eq_true _
end Go.Proofs.Ytnkgmcgbbldkgaa.X
namespace Go.Proofs.Ytnkgmcgbbldkgaa.P
/-- Marks, by a number's bits. -/
def zb (n m : Nat) : Array Bool := ((List.range n).map fun j => m.testBit j).toArray
end Go.Proofs.Ytnkgmcgbbldkgaa.P
namespace Go.Proofs.Ytnkgmcgbbldkgaa.P
open Go.RowKit Go.Proofs.YtnkgmcgbbldkgaaW.PrintWords Go.Proofs.YtnkgmcgbbldkgaaW.PrintLast Go.Proofs.YtnkgmcgbbldkgaaW.PrintMore
theorem zq0 : type_of% @List.setIfInBounds_toArray.{0} := @List.setIfInBounds_toArray.{0}
theorem zq1 : type_of% @List.set_cons_zero.{0} := @List.set_cons_zero.{0}
theorem zq2 : type_of% @List.set_cons_succ.{0} := @List.set_cons_succ.{0}
theorem zq3 : type_of% @pw_below_drewN := @pw_below_drewN
theorem zq4 : type_of% @below_drew1 := @below_drew1
theorem zq5 : type_of% @below_alloc := @below_alloc
theorem zq6 : type_of% @blk_frozen := @blk_frozen
theorem zq7 : type_of% @blk_cell := @blk_cell
theorem zq8 : type_of% @World.block_lt_of_cell? := @World.block_lt_of_cell?
theorem zq9 : type_of% @Aside0.mk := @Aside0.mk
theorem zq10 : type_of% @Kd.R_alloc := @Kd.R_alloc
theorem zq11 : type_of% @Kd.R_drewN := @Kd.R_drewN
theorem zq12 : type_of% @Kd.R_drew := @Kd.R_drew
theorem zq13 : type_of% @KeepBut.set_ := @KeepBut.set_
theorem zq14 : type_of% @keep_drewN := @keep_drewN
theorem zq15 : type_of% @keep_drew := @keep_drew
theorem zq16 : type_of% @keep_alloc := @keep_alloc
theorem zq17 : type_of% @keep_far := @keep_far
theorem zq18 : type_of% @Kd.C_alloc := @Kd.C_alloc
theorem zq19 : type_of% @Kd.C_drewN := @Kd.C_drewN
theorem zq20 : type_of% @Kd.C_drew := @Kd.C_drew
theorem zq21 : type_of% @Kd.V_alloc := @Kd.V_alloc
theorem zq22 : type_of% @Kd.V_drewN := @Kd.V_drewN
theorem zq23 : type_of% @Kd.V_drew := @Kd.V_drew
theorem zq24 : type_of% @gate_callee := @gate_callee
theorem zq25 : type_of% @gate_dst := @gate_dst
theorem zq26 : type_of% @gate_store := @gate_store
theorem zq27 : type_of% @below_step := @below_step
theorem zq28 : type_of% @below_set := @below_set
theorem zq29 : type_of% @below_size := @below_size
theorem zq30 : type_of% @blk_below := @blk_below
theorem zq31 : type_of% @Kd.C_below := @Kd.C_below
theorem zq32 : type_of% @World.drewN_drewN := @World.drewN_drewN
theorem zq33 : type_of% @List.length_drop.{0} := @List.length_drop.{0}
theorem zq34 : type_of% @List.length_take.{0} := @List.length_take.{0}
end Go.Proofs.Ytnkgmcgbbldkgaa.P

namespace Go.Proofs.Ytnkgmcgbbldkgaa.P
open Go.RowKit Go.Proofs.YtnkgmcgbbldkgaaW.PrintWords Go.Proofs.YtnkgmcgbbldkgaaW.PrintLast Go.Proofs.YtnkgmcgbbldkgaaW.PrintMore
attribute [local go_sem] max2_int min2_int max_two min_two max_three min_three max_four min_four   -- for this text's walks alone
set_option linter.unusedVariables false
set_option linter.unusedSimpArgs false
def errW : Option Int → Value
  | none => .nilIface
  | some c => .iface 0 (.int .i64 c)
theorem errW_none : errW none = .nilIface := rfl
theorem errW_some (c : Int) : errW (some c) = .iface 0 (.int .i64 c) := rfl
theorem info5 : (Try.prog.info? 5).map (fun i => (i.zero, i.size, i.bytes)) = some (some (.int .u8 0), 1, 1) := by kernel_rfl
theorem info9 : (Try.prog.info? 9).map (fun i => (i.zero, i.size, i.bytes)) = some (some (.string ⟨#[]⟩), 1, 16) := by kernel_rfl
theorem info99 : (Try.prog.info? 99).map (fun i => (i.zero, i.size, i.bytes)) = some (some (.agg #[(.string ⟨#[]⟩), (.int .i64 0)]), 2, 24) := by kernel_rfl
theorem info101 : (Try.prog.info? 101).map (fun i => (i.zero, i.size, i.bytes)) = some (some (.agg #[(.string ⟨#[]⟩), (.string ⟨#[]⟩)]), 2, 32) := by kernel_rfl
structure S95 where
  f0 : ByteArray
  f1 : Int
def z95 : S95 := ⟨(⟨#[]⟩ : ByteArray), (0 : Int)⟩
def rd_T95 (xs : List S95) (i : Int) : S95 := xs.getD i.toNat z95
structure S98 where
  f0 : ByteArray
  f1 : ByteArray
def z98 : S98 := ⟨(⟨#[]⟩ : ByteArray), (⟨#[]⟩ : ByteArray)⟩
def rd_T98 (xs : List S98) (i : Int) : S98 := xs.getD i.toNat z98
structure S99 where
  f0 : ByteArray
  f1 : Int
def z99 : S99 := ⟨(⟨#[]⟩ : ByteArray), (0 : Int)⟩
def k99 : Kd S99 := Kd.iso (Kd.pair Kd.string (Kd.int .i64)) (fun x : S99 => (x.f0, x.f1))
theorem k99_open {w : World} {x : S99} {cs : List Value} (h : k99.K w x cs) : cs = [.string x.f0, .int .i64 x.f1] := by
  obtain ⟨_, _, rfl, rfl, rfl⟩ := h
  exact rfl
theorem k99_mkM (w : World) (base : Nat) (ok : Nat → Prop) (x : S99)  : k99.M w base ok x [.string x.f0, .int .i64 x.f1] := ⟨[.string x.f0], [.int .i64 x.f1], rfl, rfl, rfl⟩
def rd_T99 (xs : List S99) (i : Int) : S99 := xs.getD i.toNat z99
theorem at_T99 {w : World} {A : Option Addr} {n : Nat} {xs : List S99} (h : Kd.C k99 w A n xs) (i : Int) (h0 : 0 ≤ i) (h1 : i < n) : ∃ ad , A = some ad ∧ w.cell? (ad.add (i.toNat * 2)) = some (.string (rd_T99 xs i).f0) ∧ w.cell? ⟨(ad.add (i.toNat * 2)).block, (ad.add (i.toNat * 2)).off + 1, none⟩ = some (.int .i64 (rd_T99 xs i).f1) := by
  obtain ⟨ad, c, e, _, hK, hc0⟩ := Kd.C_get h z99 i h0 h1
  have hc : ∀ j u, c[j]? = some u → w.cell? (ad.add (i.toNat * 2 + j)) = some u := hc0
  obtain rfl := k99_open hK
  exact ⟨ad, e, hc 0 _ rfl, by rw [← add_field _ _ 1 (by omega)]; exact hc 1 _ rfl⟩
structure S101 where
  f0 : ByteArray
  f1 : ByteArray
def z101 : S101 := ⟨(⟨#[]⟩ : ByteArray), (⟨#[]⟩ : ByteArray)⟩
def k101 : Kd S101 := Kd.iso (Kd.pair Kd.string Kd.string) (fun x : S101 => (x.f0, x.f1))
theorem k101_open {w : World} {x : S101} {cs : List Value} (h : k101.K w x cs) : cs = [.string x.f0, .string x.f1] := by
  obtain ⟨_, _, rfl, rfl, rfl⟩ := h
  exact rfl
theorem k101_openM {w : World} {base : Nat} {ok : Nat → Prop} {x : S101} {cs : List Value} (h : k101.M w base ok x cs) : cs = [.string x.f0, .string x.f1] := by
  obtain ⟨_, _, rfl, rfl, rfl⟩ := h
  exact rfl
theorem k101_mkM (w : World) (base : Nat) (ok : Nat → Prop) (x : S101)  : k101.M w base ok x [.string x.f0, .string x.f1] := ⟨[.string x.f0], [.string x.f1], rfl, rfl, rfl⟩
def rd_T101 (xs : List S101) (i : Int) : S101 := xs.getD i.toNat z101
theorem at_T101 {w : World} {A : Option Addr} {n : Nat} {xs : List S101} (h : Kd.C k101 w A n xs) (i : Int) (h0 : 0 ≤ i) (h1 : i < n) : ∃ ad , A = some ad ∧ w.cell? (ad.add (i.toNat * 2)) = some (.string (rd_T101 xs i).f0) ∧ w.cell? ⟨(ad.add (i.toNat * 2)).block, (ad.add (i.toNat * 2)).off + 1, none⟩ = some (.string (rd_T101 xs i).f1) := by
  obtain ⟨ad, c, e, _, hK, hc0⟩ := Kd.C_get h z101 i h0 h1
  have hc : ∀ j u, c[j]? = some u → w.cell? (ad.add (i.toNat * 2 + j)) = some u := hc0
  obtain rfl := k101_open hK
  exact ⟨ad, e, hc 0 _ rfl, by rw [← add_field _ _ 1 (by omega)]; exact hc 1 _ rfl⟩
structure S26 where
  f0 : ByteArray
  f1 : Int
  f2 : Int
  f3 : ByteArray
  f4 : (List ByteArray)
  f5 : (List S95)
  f6 : (List S98)
def z26 : S26 := ⟨(⟨#[]⟩ : ByteArray), (0 : Int), (0 : Int), (⟨#[]⟩ : ByteArray), ([] : List ByteArray), ([] : List S95), ([] : List S98)⟩
def rd_T26 (xs : List S26) (i : Int) : S26 := xs.getD i.toNat z26
structure S32 where
  f0 : ByteArray
  f1 : Int
  f2 : Int
  f3 : ByteArray
  f4 : (List ByteArray)
  f5 : (List S99)
  f6 : (List S101)
def z32 : S32 := ⟨(⟨#[]⟩ : ByteArray), (0 : Int), (0 : Int), (⟨#[]⟩ : ByteArray), ([] : List ByteArray), ([] : List S99), ([] : List S101)⟩
def rd_T32 (xs : List S32) (i : Int) : S32 := xs.getD i.toNat z32
structure S41 where
  f0 : Int
  f1 : (List S26)
end Go.Proofs.Ytnkgmcgbbldkgaa.P
namespace Go.Proofs.Ytnkgmcgbbldkgaa.P
open Go.RowKit Go.Proofs.YtnkgmcgbbldkgaaW.PrintWords Go.Proofs.YtnkgmcgbbldkgaaW.PrintLast Go.Proofs.YtnkgmcgbbldkgaaW.PrintMore
attribute [local go_sem] max2_int min2_int max_two min_two max_three min_three max_four min_four   -- for this text's walks alone
set_option linter.unusedVariables false
set_option linter.unusedSimpArgs false
def laws_szStringS.l0 : Nat → List ByteArray → Int → Int → Option (Int)
  | 0, _, _, _ => none
  | k + 1, x0, x1, x5 => if x5 < (x0.length : Int) then (if 0 ≤ x5 then (if (wrap64 (x1 - ((rdOf ByteArray.empty x0 x5).size : Int))) < 0 then (some (-1)) else (laws_szStringS.l0 k x0 (wrap64 (x1 - ((rdOf ByteArray.empty x0 x5).size : Int))) (wrap64 (x5 + 1)))) else (none)) else (some x1)
def laws_szStringS.f (k : Nat) (l0 : List ByteArray) (a1 : Int) : Option (Int) := if (wrap64 (a1 - (l0.length : Int))) < 0 then (some (-1)) else (laws_szStringS.l0 k l0 (wrap64 (a1 - (l0.length : Int))) 0)
theorem laws_szStringS.mono_l : ∀ k, (∀ y0 y1 y2, LeO (laws_szStringS.l0 k y0 y1 y2) (laws_szStringS.l0 (k + 1) y0 y1 y2))
  | 0 => fun _ _ _ r h => by simp [laws_szStringS.l0] at h
  | k + 1 => by
    have ih0 := laws_szStringS.mono_l k
    · intro y0 y1 y2
      unfold laws_szStringS.l0
      repeat' first
      | (with_reducible first | exact ih0 _ _ _ | exact LeO.refl _ | exact LeO.none _ | refine LeO.ite ?_ ?_ | refine LeO.bind ?_ (fun _ => ?_))
      | exact ih0 _ _ _
      | exact LeO.none _
      | refine LeO.ite ?_ ?_
      | refine LeO.bind ?_ (fun _ => ?_)
theorem laws_szStringS.mono : ∀ a0 a1 k, LeO (laws_szStringS.f k a0 a1) (laws_szStringS.f (k + 1) a0 a1) := by
  intro a0 a1 k
  have ih0 := laws_szStringS.mono_l k
  unfold laws_szStringS.f
  repeat' first
      | (with_reducible first | exact ih0 _ _ _ | exact LeO.refl _ | exact LeO.none _ | refine LeO.ite ?_ ?_ | refine LeO.bind ?_ (fun _ => ?_))
      | exact ih0 _ _ _
      | exact LeO.none _
      | refine LeO.ite ?_ ?_
      | refine LeO.bind ?_ (fun _ => ?_)
def laws_szScore.f (a0_0 : ByteArray) (a0_1 : Int) (a1 : Int) : Option (Int) := if (wrap64 (a1 - (a0_0.size : Int))) < 0 then (some (-1)) else (some (wrap64 (a1 - (a0_0.size : Int))))
def laws_szScoreS.l0 : Nat → List (S95) → Int → Int → Option (Int)
  | 0, _, _, _ => none
  | k + 1, x0, x1, x5 => if x5 < (x0.length : Int) then (if 0 ≤ x5 then ((laws_szScore.f ((rd_T95 x0 x5).f0) ((rd_T95 x0 x5).f1) x1).bind fun t104 => (if t104 < 0 then (some (-1)) else (laws_szScoreS.l0 k x0 t104 (wrap64 (x5 + 1))))) else (none)) else (some x1)
def laws_szScoreS.f (k : Nat) (l0 : List (S95)) (a1 : Int) : Option (Int) := if (wrap64 (a1 - (l0.length : Int))) < 0 then (some (-1)) else (laws_szScoreS.l0 k l0 (wrap64 (a1 - (l0.length : Int))) 0)
theorem laws_szScoreS.mono_l : ∀ k, (∀ y0 y1 y2, LeO (laws_szScoreS.l0 k y0 y1 y2) (laws_szScoreS.l0 (k + 1) y0 y1 y2))
  | 0 => fun _ _ _ r h => by simp [laws_szScoreS.l0] at h
  | k + 1 => by
    have ih0 := laws_szScoreS.mono_l k
    · intro y0 y1 y2
      unfold laws_szScoreS.l0
      repeat' first
      | (with_reducible first | exact ih0 _ _ _ | exact LeO.refl _ | exact LeO.none _ | refine LeO.ite ?_ ?_ | refine LeO.bind ?_ (fun _ => ?_))
      | exact ih0 _ _ _
      | exact LeO.none _
      | refine LeO.ite ?_ ?_
      | refine LeO.bind ?_ (fun _ => ?_)
theorem laws_szScoreS.mono : ∀ a0 a1 k, LeO (laws_szScoreS.f k a0 a1) (laws_szScoreS.f (k + 1) a0 a1) := by
  intro a0 a1 k
  have ih0 := laws_szScoreS.mono_l k
  unfold laws_szScoreS.f
  repeat' first
      | (with_reducible first | exact ih0 _ _ _ | exact LeO.refl _ | exact LeO.none _ | refine LeO.ite ?_ ?_ | refine LeO.bind ?_ (fun _ => ?_))
      | exact ih0 _ _ _
      | exact LeO.none _
      | refine LeO.ite ?_ ?_
      | refine LeO.bind ?_ (fun _ => ?_)
def laws_szPair.f (a0_0 : ByteArray) (a0_1 : ByteArray) (a1 : Int) : Option (Int) := if (wrap64 (a1 - (a0_0.size : Int))) < 0 then (some (-1)) else (if (wrap64 ((wrap64 (a1 - (a0_0.size : Int))) - (a0_1.size : Int))) < 0 then (some (-1)) else (some (wrap64 ((wrap64 (a1 - (a0_0.size : Int))) - (a0_1.size : Int)))))
def laws_szPairS.l0 : Nat → List (S98) → Int → Int → Option (Int)
  | 0, _, _, _ => none
  | k + 1, x0, x1, x5 => if x5 < (x0.length : Int) then (if 0 ≤ x5 then ((laws_szPair.f ((rd_T98 x0 x5).f0) ((rd_T98 x0 x5).f1) x1).bind fun t107 => (if t107 < 0 then (some (-1)) else (laws_szPairS.l0 k x0 t107 (wrap64 (x5 + 1))))) else (none)) else (some x1)
def laws_szPairS.f (k : Nat) (l0 : List (S98)) (a1 : Int) : Option (Int) := if (wrap64 (a1 - (l0.length : Int))) < 0 then (some (-1)) else (laws_szPairS.l0 k l0 (wrap64 (a1 - (l0.length : Int))) 0)
theorem laws_szPairS.mono_l : ∀ k, (∀ y0 y1 y2, LeO (laws_szPairS.l0 k y0 y1 y2) (laws_szPairS.l0 (k + 1) y0 y1 y2))
  | 0 => fun _ _ _ r h => by simp [laws_szPairS.l0] at h
  | k + 1 => by
    have ih0 := laws_szPairS.mono_l k
    · intro y0 y1 y2
      unfold laws_szPairS.l0
      repeat' first
      | (with_reducible first | exact ih0 _ _ _ | exact LeO.refl _ | exact LeO.none _ | refine LeO.ite ?_ ?_ | refine LeO.bind ?_ (fun _ => ?_))
      | exact ih0 _ _ _
      | exact LeO.none _
      | refine LeO.ite ?_ ?_
      | refine LeO.bind ?_ (fun _ => ?_)
theorem laws_szPairS.mono : ∀ a0 a1 k, LeO (laws_szPairS.f k a0 a1) (laws_szPairS.f (k + 1) a0 a1) := by
  intro a0 a1 k
  have ih0 := laws_szPairS.mono_l k
  unfold laws_szPairS.f
  repeat' first
      | (with_reducible first | exact ih0 _ _ _ | exact LeO.refl _ | exact LeO.none _ | refine LeO.ite ?_ ?_ | refine LeO.bind ?_ (fun _ => ?_))
      | exact ih0 _ _ _
      | exact LeO.none _
      | refine LeO.ite ?_ ?_
      | refine LeO.bind ?_ (fun _ => ?_)
def laws_szEntry.f (k : Nat) (a0_0 : ByteArray) (a0_1 : Int) (a0_2 : Int) (a0_3 : ByteArray) (l0_4 : List ByteArray) (l0_5 : List (S95)) (l0_6 : List (S98)) (a1 : Int) : Option (Int) := if (wrap64 (a1 - (a0_0.size : Int))) < 0 then (some (-1)) else (if (wrap64 ((wrap64 (a1 - (a0_0.size : Int))) - (a0_3.size : Int))) < 0 then (some (-1)) else ((laws_szStringS.f k l0_4 (wrap64 ((wrap64 (a1 - (a0_0.size : Int))) - (a0_3.size : Int)))).bind fun t109 => (if t109 < 0 then (some (-1)) else ((laws_szScoreS.f k l0_5 t109).bind fun t110 => (if t110 < 0 then (some (-1)) else ((laws_szPairS.f k l0_6 t110).bind fun t111 => (if t111 < 0 then (some (-1)) else (some t111))))))))
theorem laws_szEntry.mono : ∀ a0 a1 a2 a3 a4 a5 a6 a7 k, LeO (laws_szEntry.f k a0 a1 a2 a3 a4 a5 a6 a7) (laws_szEntry.f (k + 1) a0 a1 a2 a3 a4 a5 a6 a7) := by
  intro a0 a1 a2 a3 a4 a5 a6 a7 k
  unfold laws_szEntry.f
  repeat' first
      | (with_reducible first | exact laws_szPairS.mono _ _ _ | exact laws_szScoreS.mono _ _ _ | exact laws_szStringS.mono _ _ _ | exact LeO.refl _ | exact LeO.none _ | refine LeO.ite ?_ ?_ | refine LeO.bind ?_ (fun _ => ?_))
      | exact laws_szPairS.mono _ _ _
      | exact laws_szScoreS.mono _ _ _
      | exact laws_szStringS.mono _ _ _
      | exact LeO.none _
      | refine LeO.ite ?_ ?_
      | refine LeO.bind ?_ (fun _ => ?_)
def spec_l1In.f (a0 : Int) (a1 : Int) (a2 : Int) : Option (Bool) := if a0 ≥ a1 then (some (decide (a0 ≤ a2))) else (some false)
def spec_l4Key.f (a0 : ByteArray) : Option (Bool) := (spec_l1In.f (a0.size : Int) 1 12).bind fun t112 => (some t112)
def spec_l2Texts.l0 : Nat → List ByteArray → Int → Option (Bool)
  | 0, _, _ => none
  | k + 1, x0, x3 => if x3 < (x0.length : Int) then (if 0 ≤ x3 then (if ((rdOf ByteArray.empty x0 x3).size : Int) > 40 then (some false) else (spec_l2Texts.l0 k x0 (wrap64 (x3 + 1)))) else (none)) else (some (decide ((x0.length : Int) ≤ 16)))
def spec_l2Texts.f (k : Nat) (l0 : List ByteArray) : Option (Bool) := spec_l2Texts.l0 k l0 0
theorem spec_l2Texts.mono_l : ∀ k, (∀ y0 y1, LeO (spec_l2Texts.l0 k y0 y1) (spec_l2Texts.l0 (k + 1) y0 y1))
  | 0 => fun _ _ r h => by simp [spec_l2Texts.l0] at h
  | k + 1 => by
    have ih0 := spec_l2Texts.mono_l k
    · intro y0 y1
      unfold spec_l2Texts.l0
      repeat' first
      | (with_reducible first | exact ih0 _ _ | exact LeO.refl _ | exact LeO.none _ | refine LeO.ite ?_ ?_ | refine LeO.bind ?_ (fun _ => ?_))
      | exact ih0 _ _
      | exact LeO.none _
      | refine LeO.ite ?_ ?_
      | refine LeO.bind ?_ (fun _ => ?_)
theorem spec_l2Texts.mono : ∀ a0 k, LeO (spec_l2Texts.f k a0) (spec_l2Texts.f (k + 1) a0) := by
  intro a0 k
  have ih0 := spec_l2Texts.mono_l k
  unfold spec_l2Texts.f
  repeat' first
      | (with_reducible first | exact ih0 _ _ | exact LeO.refl _ | exact LeO.none _ | refine LeO.ite ?_ ?_ | refine LeO.bind ?_ (fun _ => ?_))
      | exact ih0 _ _
      | exact LeO.none _
      | refine LeO.ite ?_ ?_
      | refine LeO.bind ?_ (fun _ => ?_)
def spec_SetOk.l0 : Nat → List ByteArray → Int → Option (Bool)
  | 0, _, _ => none
  | k + 1, x0, x3 => if x3 < (x0.length : Int) then (if 0 ≤ (wrap64 (x3 - 1)) then (if (wrap64 (x3 - 1)) < (x0.length : Int) then (if 0 ≤ x3 then (if ((Op.bytesLess ((rdOf ByteArray.empty x0 (wrap64 (x3 - 1))).toList) ((rdOf ByteArray.empty x0 x3).toList)) = true) then (spec_SetOk.l0 k x0 (wrap64 (x3 + 1))) else (some false)) else (none)) else (none)) else (none)) else ((spec_l2Texts.f k x0).bind fun t116 => (some t116))
def spec_SetOk.f (k : Nat) (l0 : List ByteArray) : Option (Bool) := spec_SetOk.l0 k l0 1
theorem spec_SetOk.mono_l : ∀ k, (∀ y0 y1, LeO (spec_SetOk.l0 k y0 y1) (spec_SetOk.l0 (k + 1) y0 y1))
  | 0 => fun _ _ r h => by simp [spec_SetOk.l0] at h
  | k + 1 => by
    have ih0 := spec_SetOk.mono_l k
    · intro y0 y1
      unfold spec_SetOk.l0
      repeat' first
      | (with_reducible first | exact ih0 _ _ | exact spec_l2Texts.mono _ _ | exact LeO.refl _ | exact LeO.none _ | refine LeO.ite ?_ ?_ | refine LeO.bind ?_ (fun _ => ?_))
      | exact ih0 _ _
      | exact spec_l2Texts.mono _ _
      | exact LeO.none _
      | refine LeO.ite ?_ ?_
      | refine LeO.bind ?_ (fun _ => ?_)
theorem spec_SetOk.mono : ∀ a0 k, LeO (spec_SetOk.f k a0) (spec_SetOk.f (k + 1) a0) := by
  intro a0 k
  have ih0 := spec_SetOk.mono_l k
  unfold spec_SetOk.f
  repeat' first
      | (with_reducible first | exact ih0 _ _ | exact spec_l2Texts.mono _ _ | exact LeO.refl _ | exact LeO.none _ | refine LeO.ite ?_ ?_ | refine LeO.bind ?_ (fun _ => ?_))
      | exact ih0 _ _
      | exact spec_l2Texts.mono _ _
      | exact LeO.none _
      | refine LeO.ite ?_ ?_
      | refine LeO.bind ?_ (fun _ => ?_)
def spec_l3Ahead.f (a0_0 : ByteArray) (a0_1 : Int) (a1_0 : ByteArray) (a1_1 : Int) : Option (Bool) := if a0_1 < a1_1 then (some true) else (if a0_1 = a1_1 then (some (Op.bytesLess a0_0.toList a1_0.toList)) else (some false))
mutual
def spec_ScoresOk.l0 : Nat → List (S99) → Int → Option (Bool)
  | 0, _, _ => none
  | k + 1, x0, x3 => if x3 < (x0.length : Int) then (if 0 ≤ x3 then (if (((rd_T99 x0 x3).f0).size : Int) > 40 then (spec_ScoresOk.j1 k x0 x3 true) else ((spec_l1In.f ((rd_T99 x0 x3).f1) (-1000000000) 1000000000).bind fun t121 => (if t121 = true then (if x3 > 0 then (if 0 ≤ (wrap64 (x3 - 1)) then (if (wrap64 (x3 - 1)) < (x0.length : Int) then ((spec_l3Ahead.f ((rd_T99 x0 (wrap64 (x3 - 1))).f0) ((rd_T99 x0 (wrap64 (x3 - 1))).f1) ((rd_T99 x0 x3).f0) ((rd_T99 x0 x3).f1)).bind fun t124 => (spec_ScoresOk.j1 k x0 x3 (!t124))) else (none)) else (none)) else (spec_ScoresOk.j1 k x0 x3 false)) else (spec_ScoresOk.j1 k x0 x3 true)))) else (none)) else (some (decide ((x0.length : Int) ≤ 16)))
def spec_ScoresOk.j1 : Nat → List (S99) → Int → Bool → Option (Bool)
  | 0, _, _, _ => none
  | k + 1, x0, x3, x43 => if x43 = true then (some false) else (spec_ScoresOk.l1 k x0 x3 0)
def spec_ScoresOk.l1 : Nat → List (S99) → Int → Int → Option (Bool)
  | 0, _, _, _ => none
  | k + 1, x0, x3, x4 => if x4 < x3 then (if 0 ≤ x4 then (if x4 < (x0.length : Int) then (if 0 ≤ x3 then (if x3 < (x0.length : Int) then (if ((rd_T99 x0 x4).f0).toList = ((rd_T99 x0 x3).f0).toList then (some false) else (spec_ScoresOk.l1 k x0 x3 (wrap64 (x4 + 1)))) else (none)) else (none)) else (none)) else (none)) else (spec_ScoresOk.l0 k x0 (wrap64 (x3 + 1)))
end
def spec_ScoresOk.f (k : Nat) (l0 : List (S99)) : Option (Bool) := spec_ScoresOk.l0 k l0 0
theorem spec_ScoresOk.mono_l : ∀ k, (∀ y0 y1, LeO (spec_ScoresOk.l0 k y0 y1) (spec_ScoresOk.l0 (k + 1) y0 y1)) ∧ (∀ y0 y1 y2, LeO (spec_ScoresOk.j1 k y0 y1 y2) (spec_ScoresOk.j1 (k + 1) y0 y1 y2)) ∧ (∀ y0 y1 y2, LeO (spec_ScoresOk.l1 k y0 y1 y2) (spec_ScoresOk.l1 (k + 1) y0 y1 y2))
  | 0 => ⟨fun _ _ r h => by simp [spec_ScoresOk.l0] at h, fun _ _ _ r h => by simp [spec_ScoresOk.j1] at h, fun _ _ _ r h => by simp [spec_ScoresOk.l1] at h⟩
  | k + 1 => by
    obtain ⟨ih0, ih1, ih2⟩ := spec_ScoresOk.mono_l k
    refine ⟨?_, ?_, ?_⟩
    · intro y0 y1
      unfold spec_ScoresOk.l0
      repeat' first
      | (with_reducible first | exact ih0 _ _ | exact ih1 _ _ _ | exact ih2 _ _ _ | exact LeO.refl _ | exact LeO.none _ | refine LeO.ite ?_ ?_ | refine LeO.bind ?_ (fun _ => ?_))
      | exact ih0 _ _
      | exact ih1 _ _ _
      | exact ih2 _ _ _
      | exact LeO.none _
      | refine LeO.ite ?_ ?_
      | refine LeO.bind ?_ (fun _ => ?_)
    · intro y0 y1 y2
      unfold spec_ScoresOk.j1
      repeat' first
      | (with_reducible first | exact ih0 _ _ | exact ih1 _ _ _ | exact ih2 _ _ _ | exact LeO.refl _ | exact LeO.none _ | refine LeO.ite ?_ ?_ | refine LeO.bind ?_ (fun _ => ?_))
      | exact ih0 _ _
      | exact ih1 _ _ _
      | exact ih2 _ _ _
      | exact LeO.none _
      | refine LeO.ite ?_ ?_
      | refine LeO.bind ?_ (fun _ => ?_)
    · intro y0 y1 y2
      unfold spec_ScoresOk.l1
      repeat' first
      | (with_reducible first | exact ih0 _ _ | exact ih1 _ _ _ | exact ih2 _ _ _ | exact LeO.refl _ | exact LeO.none _ | refine LeO.ite ?_ ?_ | refine LeO.bind ?_ (fun _ => ?_))
      | exact ih0 _ _
      | exact ih1 _ _ _
      | exact ih2 _ _ _
      | exact LeO.none _
      | refine LeO.ite ?_ ?_
      | refine LeO.bind ?_ (fun _ => ?_)
theorem spec_ScoresOk.mono : ∀ a0 k, LeO (spec_ScoresOk.f k a0) (spec_ScoresOk.f (k + 1) a0) := by
  intro a0 k
  obtain ⟨ih0, ih1, ih2⟩ := spec_ScoresOk.mono_l k
  unfold spec_ScoresOk.f
  repeat' first
      | (with_reducible first | exact ih0 _ _ | exact ih1 _ _ _ | exact ih2 _ _ _ | exact LeO.refl _ | exact LeO.none _ | refine LeO.ite ?_ ?_ | refine LeO.bind ?_ (fun _ => ?_))
      | exact ih0 _ _
      | exact ih1 _ _ _
      | exact ih2 _ _ _
      | exact LeO.none _
      | refine LeO.ite ?_ ?_
      | refine LeO.bind ?_ (fun _ => ?_)
def spec_FieldsOk.l0 : Nat → List (S101) → Int → Option (Bool)
  | 0, _, _ => none
  | k + 1, x0, x3 => if x3 < (x0.length : Int) then (if 0 ≤ x3 then (if (((rd_T101 x0 x3).f0).size : Int) > 40 then (some false) else (if (((rd_T101 x0 x3).f1).size : Int) > 40 then (some false) else (if x3 > 0 then (if 0 ≤ (wrap64 (x3 - 1)) then (if (wrap64 (x3 - 1)) < (x0.length : Int) then (if ((Op.bytesLess (((rd_T101 x0 (wrap64 (x3 - 1))).f0).toList) (((rd_T101 x0 x3).f0).toList)) = true) then (spec_FieldsOk.l0 k x0 (wrap64 (x3 + 1))) else (some false)) else (none)) else (none)) else (spec_FieldsOk.l0 k x0 (wrap64 (x3 + 1)))))) else (none)) else (some (decide ((x0.length : Int) ≤ 16)))
def spec_FieldsOk.f (k : Nat) (l0 : List (S101)) : Option (Bool) := spec_FieldsOk.l0 k l0 0
theorem spec_FieldsOk.mono_l : ∀ k, (∀ y0 y1, LeO (spec_FieldsOk.l0 k y0 y1) (spec_FieldsOk.l0 (k + 1) y0 y1))
  | 0 => fun _ _ r h => by simp [spec_FieldsOk.l0] at h
  | k + 1 => by
    have ih0 := spec_FieldsOk.mono_l k
    · intro y0 y1
      unfold spec_FieldsOk.l0
      repeat' first
      | (with_reducible first | exact ih0 _ _ | exact LeO.refl _ | exact LeO.none _ | refine LeO.ite ?_ ?_ | refine LeO.bind ?_ (fun _ => ?_))
      | exact ih0 _ _
      | exact LeO.none _
      | refine LeO.ite ?_ ?_
      | refine LeO.bind ?_ (fun _ => ?_)
theorem spec_FieldsOk.mono : ∀ a0 k, LeO (spec_FieldsOk.f k a0) (spec_FieldsOk.f (k + 1) a0) := by
  intro a0 k
  have ih0 := spec_FieldsOk.mono_l k
  unfold spec_FieldsOk.f
  repeat' first
      | (with_reducible first | exact ih0 _ _ | exact LeO.refl _ | exact LeO.none _ | refine LeO.ite ?_ ?_ | refine LeO.bind ?_ (fun _ => ?_))
      | exact ih0 _ _
      | exact LeO.none _
      | refine LeO.ite ?_ ?_
      | refine LeO.bind ?_ (fun _ => ?_)
def spec_EntryOk.j0 : Nat → Bool → ByteArray → Int → Int → ByteArray → List ByteArray → List (S99) → List (S101) → Option (Bool)
  | 0, _, _, _, _, _, _, _, _ => none
  | k + 1, x16, x132000, x132001, x132002, x132003, x132004, x132005, x132006 => if x16 = true then (some false) else (if x132002 = 1 then (if (x132003.size : Int) ≤ 40 then (if (x132004.length : Int) = 0 then (if (x132005.length : Int) = 0 then (some ((x132006.length : Int) == 0)) else (some false)) else (some false)) else (some false)) else (if x132002 = 2 then (if x132003.toList = ([] : List UInt8) then (if ((x132004.length : Int) = 0) then (some false) else ((spec_l2Texts.f k x132004).bind fun t134 => (if t134 = true then (if (x132005.length : Int) = 0 then (some ((x132006.length : Int) == 0)) else (some false)) else (some false)))) else (some false)) else (if x132002 = 3 then (if x132003.toList = ([] : List UInt8) then (if ((x132004.length : Int) = 0) then (some false) else ((spec_SetOk.f k x132004).bind fun t135 => (if t135 = true then (if (x132005.length : Int) = 0 then (some ((x132006.length : Int) == 0)) else (some false)) else (some false)))) else (some false)) else (if x132002 = 4 then (if x132003.toList = ([] : List UInt8) then (if (x132004.length : Int) = 0 then (if ((x132005.length : Int) = 0) then (some false) else ((spec_ScoresOk.f k x132005).bind fun t136 => (if t136 = true then (some ((x132006.length : Int) == 0)) else (some false)))) else (some false)) else (some false)) else (if x132002 = 5 then (if x132003.toList = ([] : List UInt8) then (if (x132004.length : Int) = 0 then (if (x132005.length : Int) = 0 then (if ((x132006.length : Int) = 0) then (some false) else ((spec_FieldsOk.f k x132006).bind fun t137 => (some t137))) else (some false)) else (some false)) else (some false)) else (some false))))))
def spec_EntryOk.f (k : Nat) (a0_0 : ByteArray) (a0_1 : Int) (a0_2 : Int) (a0_3 : ByteArray) (l0_4 : List ByteArray) (l0_5 : List (S99)) (l0_6 : List (S101)) : Option (Bool) := (spec_l4Key.f a0_0).bind fun t132 => (if t132 = true then ((spec_l1In.f a0_1 0 2000000).bind fun t133 => (spec_EntryOk.j0 k (!t133) a0_0 a0_1 a0_2 a0_3 l0_4 l0_5 l0_6)) else (spec_EntryOk.j0 k true a0_0 a0_1 a0_2 a0_3 l0_4 l0_5 l0_6))
theorem spec_EntryOk.mono_l : ∀ k, (∀ y0 y1 y2 y3 y4 y5 y6 y7, LeO (spec_EntryOk.j0 k y0 y1 y2 y3 y4 y5 y6 y7) (spec_EntryOk.j0 (k + 1) y0 y1 y2 y3 y4 y5 y6 y7))
  | 0 => fun _ _ _ _ _ _ _ _ r h => by simp [spec_EntryOk.j0] at h
  | k + 1 => by
    have ih0 := spec_EntryOk.mono_l k
    · intro y0 y1 y2 y3 y4 y5 y6 y7
      unfold spec_EntryOk.j0
      repeat' first
      | (with_reducible first | exact ih0 _ _ _ _ _ _ _ _ | exact spec_FieldsOk.mono _ _ | exact spec_ScoresOk.mono _ _ | exact spec_SetOk.mono _ _ | exact spec_l2Texts.mono _ _ | exact LeO.refl _ | exact LeO.none _ | refine LeO.ite ?_ ?_ | refine LeO.bind ?_ (fun _ => ?_))
      | exact ih0 _ _ _ _ _ _ _ _
      | exact spec_FieldsOk.mono _ _
      | exact spec_ScoresOk.mono _ _
      | exact spec_SetOk.mono _ _
      | exact spec_l2Texts.mono _ _
      | exact LeO.none _
      | refine LeO.ite ?_ ?_
      | refine LeO.bind ?_ (fun _ => ?_)
theorem spec_EntryOk.mono : ∀ a0 a1 a2 a3 a4 a5 a6 k, LeO (spec_EntryOk.f k a0 a1 a2 a3 a4 a5 a6) (spec_EntryOk.f (k + 1) a0 a1 a2 a3 a4 a5 a6) := by
  intro a0 a1 a2 a3 a4 a5 a6 k
  have ih0 := spec_EntryOk.mono_l k
  unfold spec_EntryOk.f
  repeat' first
      | (with_reducible first | exact ih0 _ _ _ _ _ _ _ _ | exact spec_FieldsOk.mono _ _ | exact spec_ScoresOk.mono _ _ | exact spec_SetOk.mono _ _ | exact spec_l2Texts.mono _ _ | exact LeO.refl _ | exact LeO.none _ | refine LeO.ite ?_ ?_ | refine LeO.bind ?_ (fun _ => ?_))
      | exact ih0 _ _ _ _ _ _ _ _
      | exact spec_FieldsOk.mono _ _
      | exact spec_ScoresOk.mono _ _
      | exact spec_SetOk.mono _ _
      | exact spec_l2Texts.mono _ _
      | exact LeO.none _
      | refine LeO.ite ?_ ?_
      | refine LeO.bind ?_ (fun _ => ?_)
def laws_toStringS.l0 : Nat → List ByteArray → List ByteArray → Int → Option (List ByteArray)
  | 0, _, _, _ => none
  | k + 1, x0, x3, x4 => if x4 < (x0.length : Int) then (if 0 ≤ x4 then (if x4 < (x3.length : Int) then (laws_toStringS.l0 k x0 (x3.set (x4 : Int).toNat (rdOf ByteArray.empty x0 x4)) (wrap64 (x4 + 1))) else (none)) else (none)) else (some x3)
def laws_toStringS.f (k : Nat) (l0 : List ByteArray) : Option (List ByteArray) := if 0 ≤ (l0.length : Int) then (if ((l0.length : Int) : Int).toNat ≤ 17592186044416 then (laws_toStringS.l0 k l0 (List.replicate ((l0.length : Int) : Int).toNat (⟨#[]⟩ : ByteArray)) 0) else (none)) else (none)
theorem laws_toStringS.mono_l : ∀ k, (∀ y0 y1 y2, LeO (laws_toStringS.l0 k y0 y1 y2) (laws_toStringS.l0 (k + 1) y0 y1 y2))
  | 0 => fun _ _ _ r h => by simp [laws_toStringS.l0] at h
  | k + 1 => by
    have ih0 := laws_toStringS.mono_l k
    · intro y0 y1 y2
      unfold laws_toStringS.l0
      repeat' first
      | (with_reducible first | exact ih0 _ _ _ | exact LeO.refl _ | exact LeO.none _ | refine LeO.ite ?_ ?_ | refine LeO.bind ?_ (fun _ => ?_))
      | exact ih0 _ _ _
      | exact LeO.none _
      | refine LeO.ite ?_ ?_
      | refine LeO.bind ?_ (fun _ => ?_)
theorem laws_toStringS.mono : ∀ a0 k, LeO (laws_toStringS.f k a0) (laws_toStringS.f (k + 1) a0) := by
  intro a0 k
  have ih0 := laws_toStringS.mono_l k
  unfold laws_toStringS.f
  repeat' first
      | (with_reducible first | exact ih0 _ _ _ | exact LeO.refl _ | exact LeO.none _ | refine LeO.ite ?_ ?_ | refine LeO.bind ?_ (fun _ => ?_))
      | exact ih0 _ _ _
      | exact LeO.none _
      | refine LeO.ite ?_ ?_
      | refine LeO.bind ?_ (fun _ => ?_)
def laws_toScore.f (a0_0 : ByteArray) (a0_1 : Int) : Option (ByteArray × Int) := some (a0_0, a0_1)
def laws_toScoreS.l0 : Nat → List (S95) → List (S99) → Int → Option ((List (S99)))
  | 0, _, _, _ => none
  | k + 1, x0, x3, x4 => if x4 < (x0.length : Int) then (if 0 ≤ x4 then ((laws_toScore.f ((rd_T95 x0 x4).f0) ((rd_T95 x0 x4).f1)).bind fun bt150 => (if x4 < (x3.length : Int) then (laws_toScoreS.l0 k x0 (x3.set (x4 : Int).toNat (⟨bt150.1, bt150.2⟩ : S99)) (wrap64 (x4 + 1))) else (none))) else (none)) else (some x3)
def laws_toScoreS.f (k : Nat) (l0 : List (S95)) : Option ((List (S99))) := if 0 ≤ (l0.length : Int) then (if ((l0.length : Int) : Int).toNat ≤ 11728124029610 then (laws_toScoreS.l0 k l0 (List.replicate ((l0.length : Int) : Int).toNat z99) 0) else (none)) else (none)
theorem laws_toScoreS.mono_l : ∀ k, (∀ y0 y1 y2, LeO (laws_toScoreS.l0 k y0 y1 y2) (laws_toScoreS.l0 (k + 1) y0 y1 y2))
  | 0 => fun _ _ _ r h => by simp [laws_toScoreS.l0] at h
  | k + 1 => by
    have ih0 := laws_toScoreS.mono_l k
    · intro y0 y1 y2
      unfold laws_toScoreS.l0
      repeat' first
      | (with_reducible first | exact ih0 _ _ _ | exact LeO.refl _ | exact LeO.none _ | refine LeO.ite ?_ ?_ | refine LeO.bind ?_ (fun _ => ?_))
      | exact ih0 _ _ _
      | exact LeO.none _
      | refine LeO.ite ?_ ?_
      | refine LeO.bind ?_ (fun _ => ?_)
theorem laws_toScoreS.mono : ∀ a0 k, LeO (laws_toScoreS.f k a0) (laws_toScoreS.f (k + 1) a0) := by
  intro a0 k
  have ih0 := laws_toScoreS.mono_l k
  unfold laws_toScoreS.f
  repeat' first
      | (with_reducible first | exact ih0 _ _ _ | exact LeO.refl _ | exact LeO.none _ | refine LeO.ite ?_ ?_ | refine LeO.bind ?_ (fun _ => ?_))
      | exact ih0 _ _ _
      | exact LeO.none _
      | refine LeO.ite ?_ ?_
      | refine LeO.bind ?_ (fun _ => ?_)
def laws_toPair.f (a0_0 : ByteArray) (a0_1 : ByteArray) : Option (ByteArray × ByteArray) := some (a0_0, a0_1)
def laws_toPairS.l0 : Nat → List (S98) → List (S101) → Int → Option ((List (S101)))
  | 0, _, _, _ => none
  | k + 1, x0, x3, x4 => if x4 < (x0.length : Int) then (if 0 ≤ x4 then ((laws_toPair.f ((rd_T98 x0 x4).f0) ((rd_T98 x0 x4).f1)).bind fun bt160 => (if x4 < (x3.length : Int) then (laws_toPairS.l0 k x0 (x3.set (x4 : Int).toNat (⟨bt160.1, bt160.2⟩ : S101)) (wrap64 (x4 + 1))) else (none))) else (none)) else (some x3)
def laws_toPairS.f (k : Nat) (l0 : List (S98)) : Option ((List (S101))) := if 0 ≤ (l0.length : Int) then (if ((l0.length : Int) : Int).toNat ≤ 8796093022208 then (laws_toPairS.l0 k l0 (List.replicate ((l0.length : Int) : Int).toNat z101) 0) else (none)) else (none)
theorem laws_toPairS.mono_l : ∀ k, (∀ y0 y1 y2, LeO (laws_toPairS.l0 k y0 y1 y2) (laws_toPairS.l0 (k + 1) y0 y1 y2))
  | 0 => fun _ _ _ r h => by simp [laws_toPairS.l0] at h
  | k + 1 => by
    have ih0 := laws_toPairS.mono_l k
    · intro y0 y1 y2
      unfold laws_toPairS.l0
      repeat' first
      | (with_reducible first | exact ih0 _ _ _ | exact LeO.refl _ | exact LeO.none _ | refine LeO.ite ?_ ?_ | refine LeO.bind ?_ (fun _ => ?_))
      | exact ih0 _ _ _
      | exact LeO.none _
      | refine LeO.ite ?_ ?_
      | refine LeO.bind ?_ (fun _ => ?_)
theorem laws_toPairS.mono : ∀ a0 k, LeO (laws_toPairS.f k a0) (laws_toPairS.f (k + 1) a0) := by
  intro a0 k
  have ih0 := laws_toPairS.mono_l k
  unfold laws_toPairS.f
  repeat' first
      | (with_reducible first | exact ih0 _ _ _ | exact LeO.refl _ | exact LeO.none _ | refine LeO.ite ?_ ?_ | refine LeO.bind ?_ (fun _ => ?_))
      | exact ih0 _ _ _
      | exact LeO.none _
      | refine LeO.ite ?_ ?_
      | refine LeO.bind ?_ (fun _ => ?_)
def laws_toEntry.f (k : Nat) (a0_0 : ByteArray) (a0_1 : Int) (a0_2 : Int) (a0_3 : ByteArray) (l0_4 : List ByteArray) (l0_5 : List (S95)) (l0_6 : List (S98)) : Option (ByteArray × Int × Int × ByteArray × List ByteArray × (List (S99)) × (List (S101))) := (laws_toStringS.f k l0_4).bind fun t166 => ((laws_toScoreS.f k l0_5).bind fun t169 => ((laws_toPairS.f k l0_6).bind fun t172 => (some (a0_0, a0_1, a0_2, a0_3, t166, t169, t172))))
theorem laws_toEntry.mono : ∀ a0 a1 a2 a3 a4 a5 a6 k, LeO (laws_toEntry.f k a0 a1 a2 a3 a4 a5 a6) (laws_toEntry.f (k + 1) a0 a1 a2 a3 a4 a5 a6) := by
  intro a0 a1 a2 a3 a4 a5 a6 k
  unfold laws_toEntry.f
  repeat' first
      | (with_reducible first | exact laws_toPairS.mono _ _ | exact laws_toScoreS.mono _ _ | exact laws_toStringS.mono _ _ | exact LeO.refl _ | exact LeO.none _ | refine LeO.ite ?_ ?_ | refine LeO.bind ?_ (fun _ => ?_))
      | exact laws_toPairS.mono _ _
      | exact laws_toScoreS.mono _ _
      | exact laws_toStringS.mono _ _
      | exact LeO.none _
      | refine LeO.ite ?_ ?_
      | refine LeO.bind ?_ (fun _ => ?_)
def impl_within.f (a0 : Int) (a1 : Int) (a2 : Int) : Option (Bool) := if a0 ≥ a1 then (some (decide (a0 ≤ a2))) else (some false)
def impl_keyOk.f (a0 : ByteArray) : Option (Bool) := (impl_within.f (a0.size : Int) 1 12).bind fun t175 => (some t175)
def impl_textsOk.l0 : Nat → List ByteArray → Int → List ByteArray → Int → Int → Option (Bool)
  | 0, _, _, _, _, _ => none
  | k + 1, x0, x1, x7, x8, x9 => if x9 < x8 then (if 0 ≤ x9 then (if x9 < (x7.length : Int) then (if ((rdOf ByteArray.empty x7 x9).size : Int) > 40 then (some false) else (impl_textsOk.l0 k x0 x1 x7 x8 (wrap64 (x9 + 1)))) else (none)) else (none)) else (some (decide ((x0.length : Int) ≤ x1)))
def impl_textsOk.f (k : Nat) (l0 : List ByteArray) (a1 : Int) : Option (Bool) := impl_textsOk.l0 k l0 a1 l0 (l0.length : Int) 0
theorem impl_textsOk.mono_l : ∀ k, (∀ y0 y1 y2 y3 y4, LeO (impl_textsOk.l0 k y0 y1 y2 y3 y4) (impl_textsOk.l0 (k + 1) y0 y1 y2 y3 y4))
  | 0 => fun _ _ _ _ _ r h => by simp [impl_textsOk.l0] at h
  | k + 1 => by
    have ih0 := impl_textsOk.mono_l k
    · intro y0 y1 y2 y3 y4
      unfold impl_textsOk.l0
      repeat' first
      | (with_reducible first | exact ih0 _ _ _ _ _ | exact LeO.refl _ | exact LeO.none _ | refine LeO.ite ?_ ?_ | refine LeO.bind ?_ (fun _ => ?_))
      | exact ih0 _ _ _ _ _
      | exact LeO.none _
      | refine LeO.ite ?_ ?_
      | refine LeO.bind ?_ (fun _ => ?_)
theorem impl_textsOk.mono : ∀ a0 a1 k, LeO (impl_textsOk.f k a0 a1) (impl_textsOk.f (k + 1) a0 a1) := by
  intro a0 a1 k
  have ih0 := impl_textsOk.mono_l k
  unfold impl_textsOk.f
  repeat' first
      | (with_reducible first | exact ih0 _ _ _ _ _ | exact LeO.refl _ | exact LeO.none _ | refine LeO.ite ?_ ?_ | refine LeO.bind ?_ (fun _ => ?_))
      | exact ih0 _ _ _ _ _
      | exact LeO.none _
      | refine LeO.ite ?_ ?_
      | refine LeO.bind ?_ (fun _ => ?_)
def impl_listOk.f (k : Nat) (l0 : List ByteArray) : Option (Bool) := (impl_textsOk.f k l0 16).bind fun t177 => (some t177)
theorem impl_listOk.mono : ∀ a0 k, LeO (impl_listOk.f k a0) (impl_listOk.f (k + 1) a0) := by
  intro a0 k
  unfold impl_listOk.f
  repeat' first
      | (with_reducible first | exact impl_textsOk.mono _ _ _ | exact LeO.refl _ | exact LeO.none _ | refine LeO.ite ?_ ?_ | refine LeO.bind ?_ (fun _ => ?_))
      | exact impl_textsOk.mono _ _ _
      | exact LeO.none _
      | refine LeO.ite ?_ ?_
      | refine LeO.bind ?_ (fun _ => ?_)
def impl_SetOk.l0 : Nat → List ByteArray → Int → Option (Bool)
  | 0, _, _ => none
  | k + 1, x0, x3 => if x3 < (x0.length : Int) then (if 0 ≤ (wrap64 (x3 - 1)) then (if (wrap64 (x3 - 1)) < (x0.length : Int) then (if 0 ≤ x3 then (if ((Op.bytesLess ((rdOf ByteArray.empty x0 (wrap64 (x3 - 1))).toList) ((rdOf ByteArray.empty x0 x3).toList)) = true) then (impl_SetOk.l0 k x0 (wrap64 (x3 + 1))) else (some false)) else (none)) else (none)) else (none)) else ((impl_listOk.f k x0).bind fun t180 => (some t180))
def impl_SetOk.f (k : Nat) (l0 : List ByteArray) : Option (Bool) := impl_SetOk.l0 k l0 1
theorem impl_SetOk.mono_l : ∀ k, (∀ y0 y1, LeO (impl_SetOk.l0 k y0 y1) (impl_SetOk.l0 (k + 1) y0 y1))
  | 0 => fun _ _ r h => by simp [impl_SetOk.l0] at h
  | k + 1 => by
    have ih0 := impl_SetOk.mono_l k
    · intro y0 y1
      unfold impl_SetOk.l0
      repeat' first
      | (with_reducible first | exact ih0 _ _ | exact impl_listOk.mono _ _ | exact LeO.refl _ | exact LeO.none _ | refine LeO.ite ?_ ?_ | refine LeO.bind ?_ (fun _ => ?_))
      | exact ih0 _ _
      | exact impl_listOk.mono _ _
      | exact LeO.none _
      | refine LeO.ite ?_ ?_
      | refine LeO.bind ?_ (fun _ => ?_)
theorem impl_SetOk.mono : ∀ a0 k, LeO (impl_SetOk.f k a0) (impl_SetOk.f (k + 1) a0) := by
  intro a0 k
  have ih0 := impl_SetOk.mono_l k
  unfold impl_SetOk.f
  repeat' first
      | (with_reducible first | exact ih0 _ _ | exact impl_listOk.mono _ _ | exact LeO.refl _ | exact LeO.none _ | refine LeO.ite ?_ ?_ | refine LeO.bind ?_ (fun _ => ?_))
      | exact ih0 _ _
      | exact impl_listOk.mono _ _
      | exact LeO.none _
      | refine LeO.ite ?_ ?_
      | refine LeO.bind ?_ (fun _ => ?_)
def impl_position.f (a0 : Int) : Option (Bool) := (impl_within.f a0 (-1000000000) 1000000000).bind fun t181 => (some t181)
def cmp_Or_int.l0 : Nat → Int → List Int → Int → Int → Option (Int)
  | 0, _, _, _, _ => none
  | k + 1, x3, x6, x7, x8 => if x8 < x7 then (if 0 ≤ x8 then (if x8 < (x6.length : Int) then (if (rd x6 x8) = x3 then (cmp_Or_int.l0 k x3 x6 x7 (wrap64 (x8 + 1))) else (some (rd x6 x8))) else (none)) else (none)) else (some x3)
def cmp_Or_int.f (k : Nat) (l0 : List Int) : Option (Int) := cmp_Or_int.l0 k 0 l0 (l0.length : Int) 0
theorem cmp_Or_int.mono_l : ∀ k, (∀ y0 y1 y2 y3, LeO (cmp_Or_int.l0 k y0 y1 y2 y3) (cmp_Or_int.l0 (k + 1) y0 y1 y2 y3))
  | 0 => fun _ _ _ _ r h => by simp [cmp_Or_int.l0] at h
  | k + 1 => by
    have ih0 := cmp_Or_int.mono_l k
    · intro y0 y1 y2 y3
      unfold cmp_Or_int.l0
      repeat' first
      | (with_reducible first | exact ih0 _ _ _ _ | exact LeO.refl _ | exact LeO.none _ | refine LeO.ite ?_ ?_ | refine LeO.bind ?_ (fun _ => ?_))
      | exact ih0 _ _ _ _
      | exact LeO.none _
      | refine LeO.ite ?_ ?_
      | refine LeO.bind ?_ (fun _ => ?_)
theorem cmp_Or_int.mono : ∀ a0 k, LeO (cmp_Or_int.f k a0) (cmp_Or_int.f (k + 1) a0) := by
  intro a0 k
  have ih0 := cmp_Or_int.mono_l k
  unfold cmp_Or_int.f
  repeat' first
      | (with_reducible first | exact ih0 _ _ _ _ | exact LeO.refl _ | exact LeO.none _ | refine LeO.ite ?_ ?_ | refine LeO.bind ?_ (fun _ => ?_))
      | exact ih0 _ _ _ _
      | exact LeO.none _
      | refine LeO.ite ?_ ?_
      | refine LeO.bind ?_ (fun _ => ?_)
def cmp_isNaN_int.f (a0 : Int) : Option (Bool) := some (a0 != a0)
def cmp_Compare_int.f (a0 : Int) (a1 : Int) : Option (Int) := (cmp_isNaN_int.f a0).bind fun t183 => ((cmp_isNaN_int.f a1).bind fun t184 => (if t183 = true then (if t184 = true then (some 0) else (some (-1))) else (if t184 = true then (some 1) else (if a0 < a1 then (some (-1)) else (if a0 > a1 then (some 1) else (some 0))))))
def cmp_isNaN_string.f (a0 : ByteArray) : Option (Bool) := some (a0.toList != a0.toList)
def cmp_Compare_string.f (a0 : ByteArray) (a1 : ByteArray) : Option (Int) := (cmp_isNaN_string.f a0).bind fun t185 => ((cmp_isNaN_string.f a1).bind fun t186 => (if t185 = true then (if t186 = true then (some 0) else (some (-1))) else (if t186 = true then (some 1) else (if (Op.bytesLess a0.toList a1.toList) = true then (some (-1)) else (if (Op.bytesLess a1.toList a0.toList) = true then (some 1) else (some 0))))))
def impl_scoreOrder.f (k : Nat) (a0_0 : ByteArray) (a0_1 : Int) (a1_0 : ByteArray) (a1_1 : Int) : Option (Int) := (cmp_Compare_int.f a0_1 a1_1).bind fun t189 => ((cmp_Compare_string.f a0_0 a1_0).bind fun t190 => ((cmp_Or_int.f k (([t189, t190] : List Int))).bind fun t194 => (some t194)))
theorem impl_scoreOrder.mono : ∀ a0 a1 a2 a3 k, LeO (impl_scoreOrder.f k a0 a1 a2 a3) (impl_scoreOrder.f (k + 1) a0 a1 a2 a3) := by
  intro a0 a1 a2 a3 k
  unfold impl_scoreOrder.f
  repeat' first
      | (with_reducible first | exact cmp_Or_int.mono _ _ | exact LeO.refl _ | exact LeO.none _ | refine LeO.ite ?_ ?_ | refine LeO.bind ?_ (fun _ => ?_))
      | exact cmp_Or_int.mono _ _
      | exact LeO.none _
      | refine LeO.ite ?_ ?_
      | refine LeO.bind ?_ (fun _ => ?_)
def impl_scoreAt.from (t : ByteArray) : List S99 → Nat → Int
  | [], _ => -1
  | x :: r, i => if x.f0.toList = t.toList then (i : Int) else impl_scoreAt.from t r (i + 1)
def impl_scoreAt.f (l0 : List S99) (a1 : ByteArray) : Option Int := some (impl_scoreAt.from a1 l0 0)
def impl_ScoresOk.l0 : Nat → List (S99) → List (S99) → Int → Int → Option (Bool)
  | 0, _, _, _, _ => none
  | k + 1, x0, x5, x6, x7 => if x7 < x6 then (if 0 ≤ x7 then (if x7 < (x5.length : Int) then (if (((rd_T99 x5 x7).f0).size : Int) > 40 then (some false) else ((impl_position.f ((rd_T99 x5 x7).f1)).bind fun t197 => (if t197 = true then (if x7 > 0 then (if 0 ≤ (wrap64 (x7 - 1)) then (if (wrap64 (x7 - 1)) < (x0.length : Int) then ((impl_scoreOrder.f k ((rd_T99 x0 (wrap64 (x7 - 1))).f0) ((rd_T99 x0 (wrap64 (x7 - 1))).f1) ((rd_T99 x5 x7).f0) ((rd_T99 x5 x7).f1)).bind fun t199 => (if t199 ≥ 0 then (some false) else ((impl_scoreAt.f x0 ((rd_T99 x5 x7).f0)).bind fun t200 => (if t200 = x7 then (impl_ScoresOk.l0 k x0 x5 x6 (wrap64 (x7 + 1))) else (some false))))) else (none)) else (none)) else ((impl_scoreAt.f x0 ((rd_T99 x5 x7).f0)).bind fun t201 => (if t201 = x7 then (impl_ScoresOk.l0 k x0 x5 x6 (wrap64 (x7 + 1))) else (some false)))) else (some false)))) else (none)) else (none)) else (some (decide ((x0.length : Int) ≤ 16)))
def impl_ScoresOk.f (k : Nat) (l0 : List (S99)) : Option (Bool) := impl_ScoresOk.l0 k l0 l0 (l0.length : Int) 0
theorem impl_ScoresOk.mono_l : ∀ k, (∀ y0 y1 y2 y3, LeO (impl_ScoresOk.l0 k y0 y1 y2 y3) (impl_ScoresOk.l0 (k + 1) y0 y1 y2 y3))
  | 0 => fun _ _ _ _ r h => by simp [impl_ScoresOk.l0] at h
  | k + 1 => by
    have ih0 := impl_ScoresOk.mono_l k
    · intro y0 y1 y2 y3
      unfold impl_ScoresOk.l0
      repeat' first
      | (with_reducible first | exact ih0 _ _ _ _ | exact impl_scoreOrder.mono _ _ _ _ _ | exact LeO.refl _ | exact LeO.none _ | refine LeO.ite ?_ ?_ | refine LeO.bind ?_ (fun _ => ?_))
      | exact ih0 _ _ _ _
      | exact impl_scoreOrder.mono _ _ _ _ _
      | exact LeO.none _
      | refine LeO.ite ?_ ?_
      | refine LeO.bind ?_ (fun _ => ?_)
theorem impl_ScoresOk.mono : ∀ a0 k, LeO (impl_ScoresOk.f k a0) (impl_ScoresOk.f (k + 1) a0) := by
  intro a0 k
  have ih0 := impl_ScoresOk.mono_l k
  unfold impl_ScoresOk.f
  repeat' first
      | (with_reducible first | exact ih0 _ _ _ _ | exact impl_scoreOrder.mono _ _ _ _ _ | exact LeO.refl _ | exact LeO.none _ | refine LeO.ite ?_ ?_ | refine LeO.bind ?_ (fun _ => ?_))
      | exact ih0 _ _ _ _
      | exact impl_scoreOrder.mono _ _ _ _ _
      | exact LeO.none _
      | refine LeO.ite ?_ ?_
      | refine LeO.bind ?_ (fun _ => ?_)
def impl_FieldsOk.l0 : Nat → List (S101) → List (S101) → Int → Int → Option (Bool)
  | 0, _, _, _, _ => none
  | k + 1, x0, x5, x6, x7 => if x7 < x6 then (if 0 ≤ x7 then (if x7 < (x5.length : Int) then (if (((rd_T101 x5 x7).f0).size : Int) > 40 then (some false) else (if (((rd_T101 x5 x7).f1).size : Int) > 40 then (some false) else (if x7 > 0 then (if 0 ≤ (wrap64 (x7 - 1)) then (if (wrap64 (x7 - 1)) < (x0.length : Int) then (if ((Op.bytesLess (((rd_T101 x0 (wrap64 (x7 - 1))).f0).toList) (((rd_T101 x5 x7).f0).toList)) = true) then (impl_FieldsOk.l0 k x0 x5 x6 (wrap64 (x7 + 1))) else (some false)) else (none)) else (none)) else (impl_FieldsOk.l0 k x0 x5 x6 (wrap64 (x7 + 1)))))) else (none)) else (none)) else (some (decide ((x0.length : Int) ≤ 16)))
def impl_FieldsOk.f (k : Nat) (l0 : List (S101)) : Option (Bool) := impl_FieldsOk.l0 k l0 l0 (l0.length : Int) 0
theorem impl_FieldsOk.mono_l : ∀ k, (∀ y0 y1 y2 y3, LeO (impl_FieldsOk.l0 k y0 y1 y2 y3) (impl_FieldsOk.l0 (k + 1) y0 y1 y2 y3))
  | 0 => fun _ _ _ _ r h => by simp [impl_FieldsOk.l0] at h
  | k + 1 => by
    have ih0 := impl_FieldsOk.mono_l k
    · intro y0 y1 y2 y3
      unfold impl_FieldsOk.l0
      repeat' first
      | (with_reducible first | exact ih0 _ _ _ _ | exact LeO.refl _ | exact LeO.none _ | refine LeO.ite ?_ ?_ | refine LeO.bind ?_ (fun _ => ?_))
      | exact ih0 _ _ _ _
      | exact LeO.none _
      | refine LeO.ite ?_ ?_
      | refine LeO.bind ?_ (fun _ => ?_)
theorem impl_FieldsOk.mono : ∀ a0 k, LeO (impl_FieldsOk.f k a0) (impl_FieldsOk.f (k + 1) a0) := by
  intro a0 k
  have ih0 := impl_FieldsOk.mono_l k
  unfold impl_FieldsOk.f
  repeat' first
      | (with_reducible first | exact ih0 _ _ _ _ | exact LeO.refl _ | exact LeO.none _ | refine LeO.ite ?_ ?_ | refine LeO.bind ?_ (fun _ => ?_))
      | exact ih0 _ _ _ _
      | exact LeO.none _
      | refine LeO.ite ?_ ?_
      | refine LeO.bind ?_ (fun _ => ?_)
def impl_EntryOk.j0 : Nat → Bool → ByteArray → Int → Int → ByteArray → List ByteArray → List (S99) → List (S101) → Option (Bool)
  | 0, _, _, _, _, _, _, _, _ => none
  | k + 1, x16, x206000, x206001, x206002, x206003, x206004, x206005, x206006 => if x16 = true then (some false) else (if x206002 = 1 then (if (x206003.size : Int) ≤ 40 then (if ((x206004.length : Int) > 0) then (some false) else (if ((x206005.length : Int) > 0) then (some false) else (some (!(decide ((x206006.length : Int) > 0)))))) else (some false)) else (if x206002 = 2 then (if (x206004.length : Int) > 0 then ((impl_listOk.f k x206004).bind fun t208 => (if t208 = true then (if (¬ x206003.toList = ([] : List UInt8)) then (some false) else (if ((x206005.length : Int) > 0) then (some false) else (some (!(decide ((x206006.length : Int) > 0)))))) else (some false))) else (some false)) else (if x206002 = 3 then (if (x206004.length : Int) > 0 then ((impl_SetOk.f k x206004).bind fun t209 => (if t209 = true then (if (¬ x206003.toList = ([] : List UInt8)) then (some false) else (if ((x206005.length : Int) > 0) then (some false) else (some (!(decide ((x206006.length : Int) > 0)))))) else (some false))) else (some false)) else (if x206002 = 4 then (if (x206005.length : Int) > 0 then ((impl_ScoresOk.f k x206005).bind fun t210 => (if t210 = true then (if (¬ x206003.toList = ([] : List UInt8)) then (some false) else (if ((x206004.length : Int) > 0) then (some false) else (some (!(decide ((x206006.length : Int) > 0)))))) else (some false))) else (some false)) else (if x206002 = 5 then (if (x206006.length : Int) > 0 then ((impl_FieldsOk.f k x206006).bind fun t211 => (if t211 = true then (if (¬ x206003.toList = ([] : List UInt8)) then (some false) else (if ((x206004.length : Int) > 0) then (some false) else (some (!(decide ((x206005.length : Int) > 0)))))) else (some false))) else (some false)) else (some false))))))
def impl_EntryOk.f (k : Nat) (a0_0 : ByteArray) (a0_1 : Int) (a0_2 : Int) (a0_3 : ByteArray) (l0_4 : List ByteArray) (l0_5 : List (S99)) (l0_6 : List (S101)) : Option (Bool) := (impl_keyOk.f a0_0).bind fun t206 => (if t206 = true then ((impl_within.f a0_1 0 2000000).bind fun t207 => (impl_EntryOk.j0 k (!t207) a0_0 a0_1 a0_2 a0_3 l0_4 l0_5 l0_6)) else (impl_EntryOk.j0 k true a0_0 a0_1 a0_2 a0_3 l0_4 l0_5 l0_6))
theorem impl_EntryOk.mono_l : ∀ k, (∀ y0 y1 y2 y3 y4 y5 y6 y7, LeO (impl_EntryOk.j0 k y0 y1 y2 y3 y4 y5 y6 y7) (impl_EntryOk.j0 (k + 1) y0 y1 y2 y3 y4 y5 y6 y7))
  | 0 => fun _ _ _ _ _ _ _ _ r h => by simp [impl_EntryOk.j0] at h
  | k + 1 => by
    have ih0 := impl_EntryOk.mono_l k
    · intro y0 y1 y2 y3 y4 y5 y6 y7
      unfold impl_EntryOk.j0
      repeat' first
      | (with_reducible first | exact ih0 _ _ _ _ _ _ _ _ | exact impl_FieldsOk.mono _ _ | exact impl_ScoresOk.mono _ _ | exact impl_SetOk.mono _ _ | exact impl_listOk.mono _ _ | exact LeO.refl _ | exact LeO.none _ | refine LeO.ite ?_ ?_ | refine LeO.bind ?_ (fun _ => ?_))
      | exact ih0 _ _ _ _ _ _ _ _
      | exact impl_FieldsOk.mono _ _
      | exact impl_ScoresOk.mono _ _
      | exact impl_SetOk.mono _ _
      | exact impl_listOk.mono _ _
      | exact LeO.none _
      | refine LeO.ite ?_ ?_
      | refine LeO.bind ?_ (fun _ => ?_)
theorem impl_EntryOk.mono : ∀ a0 a1 a2 a3 a4 a5 a6 k, LeO (impl_EntryOk.f k a0 a1 a2 a3 a4 a5 a6) (impl_EntryOk.f (k + 1) a0 a1 a2 a3 a4 a5 a6) := by
  intro a0 a1 a2 a3 a4 a5 a6 k
  have ih0 := impl_EntryOk.mono_l k
  unfold impl_EntryOk.f
  repeat' first
      | (with_reducible first | exact ih0 _ _ _ _ _ _ _ _ | exact impl_FieldsOk.mono _ _ | exact impl_ScoresOk.mono _ _ | exact impl_SetOk.mono _ _ | exact impl_listOk.mono _ _ | exact LeO.refl _ | exact LeO.none _ | refine LeO.ite ?_ ?_ | refine LeO.bind ?_ (fun _ => ?_))
      | exact ih0 _ _ _ _ _ _ _ _
      | exact impl_FieldsOk.mono _ _
      | exact impl_ScoresOk.mono _ _
      | exact impl_SetOk.mono _ _
      | exact impl_listOk.mono _ _
      | exact LeO.none _
      | refine LeO.ite ?_ ?_
      | refine LeO.bind ?_ (fun _ => ?_)
def laws_eqStringS.l0 : Nat → List ByteArray → List ByteArray → Int → Option (Bool)
  | 0, _, _, _ => none
  | k + 1, x0, x1, x5 => if x5 < (x0.length : Int) then (if 0 ≤ x5 then (if x5 < (x1.length : Int) then (if (rdOf ByteArray.empty x0 x5).toList = (rdOf ByteArray.empty x1 x5).toList then (laws_eqStringS.l0 k x0 x1 (wrap64 (x5 + 1))) else (some false)) else (none)) else (none)) else (some true)
def laws_eqStringS.f (k : Nat) (l0 : List ByteArray) (l1 : List ByteArray) : Option (Bool) := if (l0.length : Int) = (l1.length : Int) then (laws_eqStringS.l0 k l0 l1 0) else (some false)
theorem laws_eqStringS.mono_l : ∀ k, (∀ y0 y1 y2, LeO (laws_eqStringS.l0 k y0 y1 y2) (laws_eqStringS.l0 (k + 1) y0 y1 y2))
  | 0 => fun _ _ _ r h => by simp [laws_eqStringS.l0] at h
  | k + 1 => by
    have ih0 := laws_eqStringS.mono_l k
    · intro y0 y1 y2
      unfold laws_eqStringS.l0
      repeat' first
      | (with_reducible first | exact ih0 _ _ _ | exact LeO.refl _ | exact LeO.none _ | refine LeO.ite ?_ ?_ | refine LeO.bind ?_ (fun _ => ?_))
      | exact ih0 _ _ _
      | exact LeO.none _
      | refine LeO.ite ?_ ?_
      | refine LeO.bind ?_ (fun _ => ?_)
theorem laws_eqStringS.mono : ∀ a0 a1 k, LeO (laws_eqStringS.f k a0 a1) (laws_eqStringS.f (k + 1) a0 a1) := by
  intro a0 a1 k
  have ih0 := laws_eqStringS.mono_l k
  unfold laws_eqStringS.f
  repeat' first
      | (with_reducible first | exact ih0 _ _ _ | exact LeO.refl _ | exact LeO.none _ | refine LeO.ite ?_ ?_ | refine LeO.bind ?_ (fun _ => ?_))
      | exact ih0 _ _ _
      | exact LeO.none _
      | refine LeO.ite ?_ ?_
      | refine LeO.bind ?_ (fun _ => ?_)
def laws_eqScore.f (a0_0 : ByteArray) (a0_1 : Int) (a1_0 : ByteArray) (a1_1 : Int) : Option (Bool) := if a0_0.toList = a1_0.toList then (if a0_1 = a1_1 then (some true) else (some false)) else (some false)
def laws_eqScoreS.l0 : Nat → List (S99) → List (S99) → Int → Option (Bool)
  | 0, _, _, _ => none
  | k + 1, x0, x1, x5 => if x5 < (x0.length : Int) then (if 0 ≤ x5 then (if x5 < (x1.length : Int) then ((laws_eqScore.f ((rd_T99 x0 x5).f0) ((rd_T99 x0 x5).f1) ((rd_T99 x1 x5).f0) ((rd_T99 x1 x5).f1)).bind fun t218 => (if t218 = true then (laws_eqScoreS.l0 k x0 x1 (wrap64 (x5 + 1))) else (some false))) else (none)) else (none)) else (some true)
def laws_eqScoreS.f (k : Nat) (l0 : List (S99)) (l1 : List (S99)) : Option (Bool) := if (l0.length : Int) = (l1.length : Int) then (laws_eqScoreS.l0 k l0 l1 0) else (some false)
theorem laws_eqScoreS.mono_l : ∀ k, (∀ y0 y1 y2, LeO (laws_eqScoreS.l0 k y0 y1 y2) (laws_eqScoreS.l0 (k + 1) y0 y1 y2))
  | 0 => fun _ _ _ r h => by simp [laws_eqScoreS.l0] at h
  | k + 1 => by
    have ih0 := laws_eqScoreS.mono_l k
    · intro y0 y1 y2
      unfold laws_eqScoreS.l0
      repeat' first
      | (with_reducible first | exact ih0 _ _ _ | exact LeO.refl _ | exact LeO.none _ | refine LeO.ite ?_ ?_ | refine LeO.bind ?_ (fun _ => ?_))
      | exact ih0 _ _ _
      | exact LeO.none _
      | refine LeO.ite ?_ ?_
      | refine LeO.bind ?_ (fun _ => ?_)
theorem laws_eqScoreS.mono : ∀ a0 a1 k, LeO (laws_eqScoreS.f k a0 a1) (laws_eqScoreS.f (k + 1) a0 a1) := by
  intro a0 a1 k
  have ih0 := laws_eqScoreS.mono_l k
  unfold laws_eqScoreS.f
  repeat' first
      | (with_reducible first | exact ih0 _ _ _ | exact LeO.refl _ | exact LeO.none _ | refine LeO.ite ?_ ?_ | refine LeO.bind ?_ (fun _ => ?_))
      | exact ih0 _ _ _
      | exact LeO.none _
      | refine LeO.ite ?_ ?_
      | refine LeO.bind ?_ (fun _ => ?_)
def laws_eqPair.f (a0_0 : ByteArray) (a0_1 : ByteArray) (a1_0 : ByteArray) (a1_1 : ByteArray) : Option (Bool) := if a0_0.toList = a1_0.toList then (if a0_1.toList = a1_1.toList then (some true) else (some false)) else (some false)
def laws_eqPairS.l0 : Nat → List (S101) → List (S101) → Int → Option (Bool)
  | 0, _, _, _ => none
  | k + 1, x0, x1, x5 => if x5 < (x0.length : Int) then (if 0 ≤ x5 then (if x5 < (x1.length : Int) then ((laws_eqPair.f ((rd_T101 x0 x5).f0) ((rd_T101 x0 x5).f1) ((rd_T101 x1 x5).f0) ((rd_T101 x1 x5).f1)).bind fun t223 => (if t223 = true then (laws_eqPairS.l0 k x0 x1 (wrap64 (x5 + 1))) else (some false))) else (none)) else (none)) else (some true)
def laws_eqPairS.f (k : Nat) (l0 : List (S101)) (l1 : List (S101)) : Option (Bool) := if (l0.length : Int) = (l1.length : Int) then (laws_eqPairS.l0 k l0 l1 0) else (some false)
theorem laws_eqPairS.mono_l : ∀ k, (∀ y0 y1 y2, LeO (laws_eqPairS.l0 k y0 y1 y2) (laws_eqPairS.l0 (k + 1) y0 y1 y2))
  | 0 => fun _ _ _ r h => by simp [laws_eqPairS.l0] at h
  | k + 1 => by
    have ih0 := laws_eqPairS.mono_l k
    · intro y0 y1 y2
      unfold laws_eqPairS.l0
      repeat' first
      | (with_reducible first | exact ih0 _ _ _ | exact LeO.refl _ | exact LeO.none _ | refine LeO.ite ?_ ?_ | refine LeO.bind ?_ (fun _ => ?_))
      | exact ih0 _ _ _
      | exact LeO.none _
      | refine LeO.ite ?_ ?_
      | refine LeO.bind ?_ (fun _ => ?_)
theorem laws_eqPairS.mono : ∀ a0 a1 k, LeO (laws_eqPairS.f k a0 a1) (laws_eqPairS.f (k + 1) a0 a1) := by
  intro a0 a1 k
  have ih0 := laws_eqPairS.mono_l k
  unfold laws_eqPairS.f
  repeat' first
      | (with_reducible first | exact ih0 _ _ _ | exact LeO.refl _ | exact LeO.none _ | refine LeO.ite ?_ ?_ | refine LeO.bind ?_ (fun _ => ?_))
      | exact ih0 _ _ _
      | exact LeO.none _
      | refine LeO.ite ?_ ?_
      | refine LeO.bind ?_ (fun _ => ?_)
def laws_eqEntry.f (k : Nat) (a0_0 : ByteArray) (a0_1 : Int) (a0_2 : Int) (a0_3 : ByteArray) (l0_4 : List ByteArray) (l0_5 : List (S99)) (l0_6 : List (S101)) (a1_0 : ByteArray) (a1_1 : Int) (a1_2 : Int) (a1_3 : ByteArray) (l1_4 : List ByteArray) (l1_5 : List (S99)) (l1_6 : List (S101)) : Option (Bool) := if a0_0.toList = a1_0.toList then (if a0_1 = a1_1 then (if a0_2 = a1_2 then (if a0_3.toList = a1_3.toList then ((laws_eqStringS.f k l0_4 l1_4).bind fun t226 => (if t226 = true then ((laws_eqScoreS.f k l0_5 l1_5).bind fun t227 => (if t227 = true then ((laws_eqPairS.f k l0_6 l1_6).bind fun t228 => (if t228 = true then (some true) else (some false))) else (some false))) else (some false))) else (some false)) else (some false)) else (some false)) else (some false)
theorem laws_eqEntry.mono : ∀ a0 a1 a2 a3 a4 a5 a6 a7 a8 a9 a10 a11 a12 a13 k, LeO (laws_eqEntry.f k a0 a1 a2 a3 a4 a5 a6 a7 a8 a9 a10 a11 a12 a13) (laws_eqEntry.f (k + 1) a0 a1 a2 a3 a4 a5 a6 a7 a8 a9 a10 a11 a12 a13) := by
  intro a0 a1 a2 a3 a4 a5 a6 a7 a8 a9 a10 a11 a12 a13 k
  unfold laws_eqEntry.f
  repeat' first
      | (with_reducible first | exact laws_eqPairS.mono _ _ _ | exact laws_eqScoreS.mono _ _ _ | exact laws_eqStringS.mono _ _ _ | exact LeO.refl _ | exact LeO.none _ | refine LeO.ite ?_ ?_ | refine LeO.bind ?_ (fun _ => ?_))
      | exact laws_eqPairS.mono _ _ _
      | exact laws_eqScoreS.mono _ _ _
      | exact laws_eqStringS.mono _ _ _
      | exact LeO.none _
      | refine LeO.ite ?_ ?_
      | refine LeO.bind ?_ (fun _ => ?_)
def laws_FnExactEntryOk.f (k : Nat) (a0_0 : ByteArray) (a0_1 : Int) (a0_2 : Int) (a0_3 : ByteArray) (l0_4 : List ByteArray) (l0_5 : List (S95)) (l0_6 : List (S98)) : Option (Bool) := (laws_szEntry.f k a0_0 a0_1 a0_2 a0_3 l0_4 l0_5 l0_6 1048576).bind fun t230 => (if t230 < 0 then (some true) else ((laws_toEntry.f k a0_0 a0_1 a0_2 a0_3 l0_4 l0_5 l0_6).bind fun bt231 => ((spec_EntryOk.f k bt231.1 bt231.2.1 bt231.2.2.1 bt231.2.2.2.1 bt231.2.2.2.2.1 bt231.2.2.2.2.2.1 bt231.2.2.2.2.2.2).bind fun t244 => ((laws_toEntry.f k a0_0 a0_1 a0_2 a0_3 l0_4 l0_5 l0_6).bind fun bt245 => ((impl_EntryOk.f k bt245.1 bt245.2.1 bt245.2.2.1 bt245.2.2.2.1 bt245.2.2.2.2.1 bt245.2.2.2.2.2.1 bt245.2.2.2.2.2.2).bind fun t259 => (if (t259 != t244) = true then (some false) else ((laws_toEntry.f k a0_0 a0_1 a0_2 a0_3 l0_4 l0_5 l0_6).bind fun bt260 => ((laws_eqEntry.f k bt245.1 bt245.2.1 bt245.2.2.1 bt245.2.2.2.1 bt245.2.2.2.2.1 bt245.2.2.2.2.2.1 bt245.2.2.2.2.2.2 bt260.1 bt260.2.1 bt260.2.2.1 bt260.2.2.2.1 bt260.2.2.2.2.1 bt260.2.2.2.2.2.1 bt260.2.2.2.2.2.2).bind fun t273 => (if t273 = true then (some true) else (some false))))))))))
theorem laws_FnExactEntryOk.mono : ∀ a0 a1 a2 a3 a4 a5 a6 k, LeO (laws_FnExactEntryOk.f k a0 a1 a2 a3 a4 a5 a6) (laws_FnExactEntryOk.f (k + 1) a0 a1 a2 a3 a4 a5 a6) := by
  intro a0 a1 a2 a3 a4 a5 a6 k
  unfold laws_FnExactEntryOk.f
  repeat' first
      | (with_reducible first | exact impl_EntryOk.mono _ _ _ _ _ _ _ _ | exact laws_eqEntry.mono _ _ _ _ _ _ _ _ _ _ _ _ _ _ _ | exact laws_szEntry.mono _ _ _ _ _ _ _ _ _ | exact laws_toEntry.mono _ _ _ _ _ _ _ _ | exact spec_EntryOk.mono _ _ _ _ _ _ _ _ | exact LeO.refl _ | exact LeO.none _ | refine LeO.ite ?_ ?_ | refine LeO.bind ?_ (fun _ => ?_))
      | exact impl_EntryOk.mono _ _ _ _ _ _ _ _
      | exact laws_eqEntry.mono _ _ _ _ _ _ _ _ _ _ _ _ _ _ _
      | exact laws_szEntry.mono _ _ _ _ _ _ _ _ _
      | exact laws_toEntry.mono _ _ _ _ _ _ _ _
      | exact spec_EntryOk.mono _ _ _ _ _ _ _ _
      | exact LeO.none _
      | refine LeO.ite ?_ ?_
      | refine LeO.bind ?_ (fun _ => ?_)
def IsS118 (w0 W : World) (g : Nat) (f0 : List Int) (f1 : Int) : Prop := ∃ A0 c0, W.heap[g]? = some (.cells #[.slice A0 f0.length c0, .int .i64 f1] 118 (0, 0)) ∧ w0.heap.size ≤ g ∧ Kd.C (Kd.int .u8) w0 A0 f0.length f0
theorem IsS118.grown {w0 W : World} {g : Nat} {f0 : List Int} {f1 : Int} {W1 : World} {row : Option Nat} (h : IsS118 w0 W g f0 f1) (hw : W.grownBy W1 row) (hne : some g ≠ row) : IsS118 w0 W1 g f0 f1 := by
  obtain ⟨A0, c0, hb, hg, hr0⟩ := h
  exact ⟨A0, c0, blk_grown hb hw hne, hg, hr0⟩
theorem IsS118.fresh {w0 W : World} {g : Nat} {f0 : List Int} {f1 : Int} (h : IsS118 w0 W g f0 f1) : ∀ k, W.heap.size ≤ k → k ≠ g := by
  obtain ⟨A0, c0, hb, hg, hr0⟩ := h
  exact Kd.freshB hb
theorem IsS118.kept {w0 W : World} {g : Nat} {f0 : List Int} {f1 : Int} {W1 : World} {S : Nat → Prop} (h : IsS118 w0 W g f0 f1) (hk : Kept W W1 S) (hne : ¬ S g) : IsS118 w0 W1 g f0 f1 := by
  obtain ⟨A0, c0, hb, hg, hr0⟩ := h
  exact ⟨A0, c0, blk_kept hb hk hne, hg, hr0⟩
theorem IsS118.below {w0 W : World} {g : Nat} {f0 : List Int} {f1 : Int} {W1 : World} (h : IsS118 w0 W g f0 f1) (hw : Below W.heap.size W W1) : IsS118 w0 W1 g f0 f1 := h.grown (grown_of_below hw none) (by simp)
theorem IsS118.alloc {w0 W : World} {g : Nat} {f0 : List Int} {f1 : Int} (h : IsS118 w0 W g f0 f1) (o : Obj) : IsS118 w0 (W.alloc o) g f0 f1 := h.below (zq5 (Below.refl _ _) o)
theorem IsS118.drewN {w0 W : World} {g : Nat} {f0 : List Int} {f1 : Int} (h : IsS118 w0 W g f0 f1) (m : Nat) : IsS118 w0 (W.drewN m) g f0 f1 := h
theorem IsS118.drew {w0 W : World} {g : Nat} {f0 : List Int} {f1 : Int} (h : IsS118 w0 W g f0 f1) : IsS118 w0 W.drew g f0 f1 := h
theorem IsS118.at_ {w0 W : World} {g : Nat} {f0 : List Int} {f1 : Int} {w' : World} {m : Nat} (hq : W.drewN m = w') (h : IsS118 w0 W g f0 f1) : IsS118 w0 w' g f0 f1 := by subst hq; exact IsS118.drewN h m
theorem IsS118.apart {w0 W : World} {g : Nat} {f0 : List Int} {f1 : Int} {α : Type} {d : Kd α} {e : Nat} {base : Nat} {ok : Nat → Prop} {v : Value} {xs : List α} (h : IsS118 w0 W g f0 f1) (ho : d.R e W base ok v xs) (ht : ∀ q, q ∈ e :: d.E → q ≠ 118) : d.R e W base (fun k => ok k ∧ k ≠ g) v xs := by
  obtain ⟨A0, c0, hb, hg, hr0⟩ := h
  exact Kd.R_types ho hb ht
theorem IsS118.own_ne {w0 W : World} {g : Nat} {f0 : List Int} {f1 : Int} {α : Type} {d : Kd α} {e : Nat} {base : Nat} {ok : Nat → Prop} {v : Value} {xs : List α} (h : IsS118 w0 W g f0 f1) (ho : d.R e W base ok v xs) (ht : e ≠ 118) : some g ≠ v.ownBlock := by
  obtain ⟨A0, c0, hb, hg, hr0⟩ := h
  exact Kd.R_ne ho hb ht
theorem IsS118.lt {w0 W : World} {g : Nat} {f0 : List Int} {f1 : Int} (h : IsS118 w0 W g f0 f1) : g < W.heap.size := by
  obtain ⟨A0, c0, hb, hg, hr0⟩ := h
  exact blk_lt hb
theorem IsS118.ge {w0 W : World} {g : Nat} {f0 : List Int} {f1 : Int} (h : IsS118 w0 W g f0 f1) : w0.heap.size ≤ g := by
  obtain ⟨A0, c0, hb, hg, hr0⟩ := h
  exact hg
theorem IsS118.ne_blk {w0 W : World} {g : Nat} {f0 : List Int} {f1 : Int} {a : Nat} {cs : Array Value} {t : TypeId} {fr : Nat × Nat} (h : IsS118 w0 W g f0 f1) (hb2 : W.heap[a]? = some (.cells cs t fr)) (ht : t ≠ 118) : g ≠ a := by
  obtain ⟨A0, c0, hb, hg, hr0⟩ := h
  rintro rfl
  rw [hb] at hb2
  injection hb2 with hb2
  injection hb2 with _ ht2
  exact ht ht2.symm
theorem IsS118.far {w0 W : World} {g : Nat} {f0 : List Int} {f1 : Int} {p : Addr} (h : IsS118 w0 W g f0 f1) (hne : g ≠ p.block) (u : Value) : IsS118 w0 (W.setCell p u) g f0 f1 := by
  obtain ⟨A0, c0, hb, hg, hr0⟩ := h
  exact ⟨A0, c0, blk_far hb hne u, hg, hr0⟩
theorem cellS118_0 {W : World} {g : Nat} {A0 : Option Addr} {c0 : Nat} {f0 : List Int} {f1 : Int} (h : W.heap[g]? = some (.cells #[.slice A0 f0.length c0, .int .i64 f1] 118 (0, 0))) : W.cell? ⟨g, 0, none⟩ = some (.slice A0 f0.length c0) := (zq7 h 0).trans rfl
theorem cellS118_1 {W : World} {g : Nat} {A0 : Option Addr} {c0 : Nat} {f0 : List Int} {f1 : Int} (h : W.heap[g]? = some (.cells #[.slice A0 f0.length c0, .int .i64 f1] 118 (0, 0))) : W.cell? ⟨g, 1, none⟩ = some (.int .i64 f1) := (zq7 h 1).trans rfl
theorem IsS118.set_1 {w0 W : World} {g : Nat} {f0 : List Int} {f1 : Int} (h : IsS118 w0 W g f0 f1) (x : Int) : IsS118 w0 (W.setCell ⟨g, 1, none⟩ (.int .i64 x)) g f0 x := by
  obtain ⟨A0, c0, hb, hg, hr0⟩ := h
  exact ⟨A0, c0, by simpa using blk_set hb 1 (.int .i64 x), hg, hr0⟩
class Wi118 (a b : World) (g : Nat) (f : Int) (f' : outParam Int) : Prop where
  out : ∀ (w0 : World) (f0 : List Int), IsS118 w0 a g f0 f → IsS118 w0 b g f0 f'
instance Wi118.refl (a : World) (g : Nat) (f : Int) : Wi118 a a g f f := ⟨fun _ _ h => h⟩
instance Wi118.alloc (a b : World) (g : Nat) (f f' : Int) (o : Obj) [k : Wi118 a b g f f'] : Wi118 a (b.alloc o) g f f' := ⟨fun w0 f0 h => IsS118.alloc (k.out w0 f0 h) o⟩
instance Wi118.drew (a b : World) (g : Nat) (f f' : Int) [k : Wi118 a b g f f'] : Wi118 a b.drew g f f' := ⟨fun w0 f0 h => IsS118.drew (k.out w0 f0 h)⟩
instance Wi118.drewN (a b : World) (g : Nat) (f f' : Int) (n : Nat) [k : Wi118 a b g f f'] : Wi118 a (b.drewN n) g f f' := ⟨fun w0 f0 h => IsS118.drewN (k.out w0 f0 h) n⟩
instance Wi118.set_1 (a b : World) (g : Nat) (f f' x : Int) [k : Wi118 a b g f f'] : Wi118 a (b.setCell ⟨g, 1, none⟩ (.int .i64 x)) g f x := ⟨fun w0 f0 h => IsS118.set_1 (k.out w0 f0 h) x⟩
theorem iz118 {w0 a b : World} {g : Nat} {f0 : List Int} {f f' : Int} (h : Aside0 (IsS118 w0 a g f0 f)) [k : Wi118 a b g f f'] : IsS118 w0 b g f0 f' := k.out w0 f0 h.out
def spec_l1Rd_pick.j0 : Nat → Int → Bool → List Int → Int → Option (Int × Int)
  | 0, _, _, _, _ => none
  | k + 1, x1, x24, x1000, x1001 => if x24 = true then (some (0, x1001)) else (if (wrap64 (x1001 - 1)) < (x1000.length : Int) then (if 0 ≤ (wrap64 (x1001 - 1)) then (if x1 = 0 then (none) else (some (Int.tmod (wrap64 (rd x1000 (wrap64 (x1001 - 1)))) x1, x1001))) else (none)) else (if (x1000.length : Int) = 0 then (none) else (if 0 ≤ (Int.tmod (wrap64 (x1001 - 1)) (x1000.length : Int)) then (if (Int.tmod (wrap64 (x1001 - 1)) (x1000.length : Int)) < (x1000.length : Int) then (if 0 ≤ (Int.tmod (wrap64 ((wrap64 ((wrap64 (x1001 - 1)) * 7)) + 3)) (x1000.length : Int)) then (if (Int.tmod (wrap64 ((wrap64 ((wrap64 (x1001 - 1)) * 7)) + 3)) (x1000.length : Int)) < (x1000.length : Int) then (if x1 = 0 then (none) else (some (Int.tmod (Go.bits .xor .i64 (wrap64 ((wrap64 ((wrap64 ((wrap64 ((wrap64 (rd x1000 (Int.tmod (wrap64 (x1001 - 1)) (x1000.length : Int)))) * 131)) + (wrap64 ((wrap64 (rd x1000 (Int.tmod (wrap64 ((wrap64 ((wrap64 (x1001 - 1)) * 7)) + 3)) (x1000.length : Int)))) * 1117)))) + (wrap64 ((wrap64 (x1001 - 1)) * 29)))) + (wrap64 ((wrap64 (Int.tdiv (wrap64 (x1001 - 1)) (x1000.length : Int))) * 53)))) (wrap64 (Int.tdiv (wrap64 ((wrap64 ((wrap64 ((wrap64 ((wrap64 (rd x1000 (Int.tmod (wrap64 (x1001 - 1)) (x1000.length : Int)))) * 131)) + (wrap64 ((wrap64 (rd x1000 (Int.tmod (wrap64 ((wrap64 ((wrap64 (x1001 - 1)) * 7)) + 3)) (x1000.length : Int)))) * 1117)))) + (wrap64 ((wrap64 (x1001 - 1)) * 29)))) + (wrap64 ((wrap64 (Int.tdiv (wrap64 (x1001 - 1)) (x1000.length : Int))) * 53)))) 64))) x1, x1001))) else (none)) else (none)) else (none)) else (none))))
def spec_l1Rd_pick.f (k : Nat) (s0_0 : List Int) (s0_1 : Int) (a1 : Int) : Option (Int × Int) := if a1 < 1 then (spec_l1Rd_pick.j0 k a1 true s0_0 (wrap64 (s0_1 + 1))) else (spec_l1Rd_pick.j0 k a1 ((s0_0.length : Int) == 0) s0_0 (wrap64 (s0_1 + 1)))
theorem spec_l1Rd_pick.mono_l : ∀ k, (∀ y0 y1 y2 y3, LeO (spec_l1Rd_pick.j0 k y0 y1 y2 y3) (spec_l1Rd_pick.j0 (k + 1) y0 y1 y2 y3))
  | 0 => fun _ _ _ _ r h => by simp [spec_l1Rd_pick.j0] at h
  | k + 1 => by
    have ih0 := spec_l1Rd_pick.mono_l k
    · intro y0 y1 y2 y3
      unfold spec_l1Rd_pick.j0
      repeat' first
      | (with_reducible first | exact ih0 _ _ _ _ | exact LeO.refl _ | exact LeO.none _ | refine LeO.ite ?_ ?_ | refine LeO.bind ?_ (fun _ => ?_))
      | exact ih0 _ _ _ _
      | exact LeO.none _
      | refine LeO.ite ?_ ?_
      | refine LeO.bind ?_ (fun _ => ?_)
theorem spec_l1Rd_pick.mono : ∀ a0 a1 a2 k, LeO (spec_l1Rd_pick.f k a0 a1 a2) (spec_l1Rd_pick.f (k + 1) a0 a1 a2) := by
  intro a0 a1 a2 k
  have ih0 := spec_l1Rd_pick.mono_l k
  unfold spec_l1Rd_pick.f
  repeat' first
      | (with_reducible first | exact ih0 _ _ _ _ | exact LeO.refl _ | exact LeO.none _ | refine LeO.ite ?_ ?_ | refine LeO.bind ?_ (fun _ => ?_))
      | exact ih0 _ _ _ _
      | exact LeO.none _
      | refine LeO.ite ?_ ?_
      | refine LeO.bind ?_ (fun _ => ?_)
def spec_l1Rd_of.f (k : Nat) (s0_0 : List Int) (s0_1 : Int) (l1 : List ByteArray) : Option (ByteArray × Int) := (spec_l1Rd_pick.f k s0_0 s0_1 (l1.length : Int)).bind fun bt277 => (if 0 ≤ bt277.1 then (if bt277.1 < (l1.length : Int) then (some (rdOf ByteArray.empty l1 bt277.1, bt277.2)) else (none)) else (none))
theorem spec_l1Rd_of.mono : ∀ a0 a1 a2 k, LeO (spec_l1Rd_of.f k a0 a1 a2) (spec_l1Rd_of.f (k + 1) a0 a1 a2) := by
  intro a0 a1 a2 k
  unfold spec_l1Rd_of.f
  repeat' first
      | (with_reducible first | exact spec_l1Rd_pick.mono _ _ _ _ | exact LeO.refl _ | exact LeO.none _ | refine LeO.ite ?_ ?_ | refine LeO.bind ?_ (fun _ => ?_))
      | exact spec_l1Rd_pick.mono _ _ _ _
      | exact LeO.none _
      | refine LeO.ite ?_ ?_
      | refine LeO.bind ?_ (fun _ => ?_)
def spec_l1Rd_one.f (k : Nat) (s0_0 : List Int) (s0_1 : Int) (l1 : List Int) : Option (Int × Int) := (spec_l1Rd_pick.f k s0_0 s0_1 (l1.length : Int)).bind fun bt280 => (if 0 ≤ bt280.1 then (if bt280.1 < (l1.length : Int) then (some (rd l1 bt280.1, bt280.2)) else (none)) else (none))
theorem spec_l1Rd_one.mono : ∀ a0 a1 a2 k, LeO (spec_l1Rd_one.f k a0 a1 a2) (spec_l1Rd_one.f (k + 1) a0 a1 a2) := by
  intro a0 a1 a2 k
  unfold spec_l1Rd_one.f
  repeat' first
      | (with_reducible first | exact spec_l1Rd_pick.mono _ _ _ _ | exact LeO.refl _ | exact LeO.none _ | refine LeO.ite ?_ ?_ | refine LeO.bind ?_ (fun _ => ?_))
      | exact spec_l1Rd_pick.mono _ _ _ _
      | exact LeO.none _
      | refine LeO.ite ?_ ?_
      | refine LeO.bind ?_ (fun _ => ?_)
def spec_l1Many.l0 : Nat → ByteArray → Int → ByteArray → Option (ByteArray)
  | 0, _, _, _ => none
  | k + 1, x0, x1, x5 => if x1 > 0 then (if (Int.tmod x1 2) = 1 then (if x5.size + x0.size ≤ 9223372036854775807 then (if x0.size + x0.size ≤ 9223372036854775807 then (spec_l1Many.l0 k (x0 ++ x0) (wrap64 (Int.tdiv x1 2)) (x5 ++ x0)) else (none)) else (none)) else (if x0.size + x0.size ≤ 9223372036854775807 then (spec_l1Many.l0 k (x0 ++ x0) (wrap64 (Int.tdiv x1 2)) x5) else (none))) else (some x5)
def spec_l1Many.f (k : Nat) (a0 : ByteArray) (a1 : Int) : Option (ByteArray) := spec_l1Many.l0 k a0 a1 (⟨#[]⟩ : ByteArray)
theorem spec_l1Many.mono_l : ∀ k, (∀ y0 y1 y2, LeO (spec_l1Many.l0 k y0 y1 y2) (spec_l1Many.l0 (k + 1) y0 y1 y2))
  | 0 => fun _ _ _ r h => by simp [spec_l1Many.l0] at h
  | k + 1 => by
    have ih0 := spec_l1Many.mono_l k
    · intro y0 y1 y2
      unfold spec_l1Many.l0
      repeat' first
      | (with_reducible first | exact ih0 _ _ _ | exact LeO.refl _ | exact LeO.none _ | refine LeO.ite ?_ ?_ | refine LeO.bind ?_ (fun _ => ?_))
      | exact ih0 _ _ _
      | exact LeO.none _
      | refine LeO.ite ?_ ?_
      | refine LeO.bind ?_ (fun _ => ?_)
theorem spec_l1Many.mono : ∀ a0 a1 k, LeO (spec_l1Many.f k a0 a1) (spec_l1Many.f (k + 1) a0 a1) := by
  intro a0 a1 k
  have ih0 := spec_l1Many.mono_l k
  unfold spec_l1Many.f
  repeat' first
      | (with_reducible first | exact ih0 _ _ _ | exact LeO.refl _ | exact LeO.none _ | refine LeO.ite ?_ ?_ | refine LeO.bind ?_ (fun _ => ?_))
      | exact ih0 _ _ _
      | exact LeO.none _
      | refine LeO.ite ?_ ?_
      | refine LeO.bind ?_ (fun _ => ?_)
def spec_l11Text.f (k : Nat) (s0_0 : List Int) (s0_1 : Int) : Option (ByteArray × Int) := (spec_l1Many.f k (⟨#[120]⟩ : ByteArray) 40).bind fun t283 => ((spec_l1Rd_of.f k s0_0 s0_1 (([(⟨#[]⟩ : ByteArray), (⟨#[97]⟩ : ByteArray), (⟨#[98]⟩ : ByteArray), (⟨#[99]⟩ : ByteArray), (⟨#[53]⟩ : ByteArray), (⟨#[45, 51]⟩ : ByteArray), (⟨#[104, 101, 108, 108, 111]⟩ : ByteArray), (⟨#[13, 10]⟩ : ByteArray), (⟨#[255]⟩ : ByteArray), t283, (⟨#[57, 57, 57, 57, 57, 57, 57, 57, 57]⟩ : ByteArray)] : List ByteArray))).bind fun bt287 => (some (bt287.1, bt287.2)))
theorem spec_l11Text.mono : ∀ a0 a1 k, LeO (spec_l11Text.f k a0 a1) (spec_l11Text.f (k + 1) a0 a1) := by
  intro a0 a1 k
  unfold spec_l11Text.f
  repeat' first
      | (with_reducible first | exact spec_l1Many.mono _ _ _ | exact spec_l1Rd_of.mono _ _ _ _ | exact LeO.refl _ | exact LeO.none _ | refine LeO.ite ?_ ?_ | refine LeO.bind ?_ (fun _ => ?_))
      | exact spec_l1Many.mono _ _ _
      | exact spec_l1Rd_of.mono _ _ _ _
      | exact LeO.none _
      | refine LeO.ite ?_ ?_
      | refine LeO.bind ?_ (fun _ => ?_)
def spec_l11Texts.l0 : Nat → List ByteArray → Int → List Int → Int → Option (List ByteArray × Int)
  | 0, _, _, _, _ => none
  | k + 1, x5, x6, x1000, x1001 => if x6 > 0 then ((spec_l11Text.f k x1000 x1001).bind fun bt294 => (if x5.length < 8796093022208 then (spec_l11Texts.l0 k (x5 ++ [bt294.1]) (wrap64 (x6 - 1)) x1000 bt294.2) else (none))) else (some (x5, x1001))
def spec_l11Texts.f (k : Nat) (s0_0 : List Int) (s0_1 : Int) (a1 : Int) : Option (List ByteArray × Int) := (spec_l1Rd_pick.f k s0_0 s0_1 (wrap64 (a1 + 1))).bind fun bt292 => (spec_l11Texts.l0 k (([] : List ByteArray)) bt292.1 s0_0 bt292.2)
theorem spec_l11Texts.mono_l : ∀ k, (∀ y0 y1 y2 y3, LeO (spec_l11Texts.l0 k y0 y1 y2 y3) (spec_l11Texts.l0 (k + 1) y0 y1 y2 y3))
  | 0 => fun _ _ _ _ r h => by simp [spec_l11Texts.l0] at h
  | k + 1 => by
    have ih0 := spec_l11Texts.mono_l k
    · intro y0 y1 y2 y3
      unfold spec_l11Texts.l0
      repeat' first
      | (with_reducible first | exact ih0 _ _ _ _ | exact spec_l11Text.mono _ _ _ | exact spec_l1Rd_pick.mono _ _ _ _ | exact LeO.refl _ | exact LeO.none _ | refine LeO.ite ?_ ?_ | refine LeO.bind ?_ (fun _ => ?_))
      | exact ih0 _ _ _ _
      | exact spec_l11Text.mono _ _ _
      | exact spec_l1Rd_pick.mono _ _ _ _
      | exact LeO.none _
      | refine LeO.ite ?_ ?_
      | refine LeO.bind ?_ (fun _ => ?_)
theorem spec_l11Texts.mono : ∀ a0 a1 a2 k, LeO (spec_l11Texts.f k a0 a1 a2) (spec_l11Texts.f (k + 1) a0 a1 a2) := by
  intro a0 a1 a2 k
  have ih0 := spec_l11Texts.mono_l k
  unfold spec_l11Texts.f
  repeat' first
      | (with_reducible first | exact ih0 _ _ _ _ | exact spec_l11Text.mono _ _ _ | exact spec_l1Rd_pick.mono _ _ _ _ | exact LeO.refl _ | exact LeO.none _ | refine LeO.ite ?_ ?_ | refine LeO.bind ?_ (fun _ => ?_))
      | exact ih0 _ _ _ _
      | exact spec_l11Text.mono _ _ _
      | exact spec_l1Rd_pick.mono _ _ _ _
      | exact LeO.none _
      | refine LeO.ite ?_ ?_
      | refine LeO.bind ?_ (fun _ => ?_)
def spec_l1Dec.f : Nat → Int → Option (ByteArray)
  | 0, _ => none
  | k + 1, a0 => if a0 < (-9223372036854775807) then (some (⟨#[45, 57, 50, 50, 51, 51, 55, 50, 48, 51, 54, 56, 53, 52, 55, 55, 53, 56, 48, 56]⟩ : ByteArray)) else (if a0 < 0 then ((spec_l1Dec.f k (wrap64 (-a0))).bind fun t299 => (if 1 + t299.size ≤ 9223372036854775807 then (some ((⟨#[45]⟩ : ByteArray) ++ t299)) else (none))) else (if a0 < 10 then (some (strOfNums (([(wrap64 (48 + a0)) % 256] : List Int)))) else ((spec_l1Dec.f k (wrap64 (Int.tdiv a0 10))).bind fun t303 => ((some (([(wrap64 (48 + (Int.tmod a0 10))) % 256] : List Int) : List Int)).bind fun y304 => (if t303.size + (strOfNums y304).size ≤ 9223372036854775807 then (some (t303 ++ (strOfNums y304))) else (none))))))
theorem spec_l1Dec.mono_l : ∀ k, (∀ y0, LeO (spec_l1Dec.f k y0) (spec_l1Dec.f (k + 1) y0))
  | 0 => fun _ r h => by simp [spec_l1Dec.f] at h
  | k + 1 => by
    have ih0 := spec_l1Dec.mono_l k
    · intro y0
      unfold spec_l1Dec.f
      repeat' first
      | (with_reducible first | exact ih0 _ | exact LeO.refl _ | exact LeO.none _ | refine LeO.ite ?_ ?_ | refine LeO.bind ?_ (fun _ => ?_))
      | exact ih0 _
      | exact LeO.none _
      | refine LeO.ite ?_ ?_
      | refine LeO.bind ?_ (fun _ => ?_)
theorem spec_l1Dec.mono : ∀ a0 k, LeO (spec_l1Dec.f k a0) (spec_l1Dec.f (k + 1) a0) := by
  intro a0 k
  have ih0 := spec_l1Dec.mono_l k
  exact ih0 a0
def spec_l11AnyTexts.l0 : Nat → List ByteArray → List Int → Int → Option (List ByteArray × Int)
  | 0, _, _, _ => none
  | k + 1, x3, x1000, x1001 => (spec_l1Rd_pick.f k x1000 x1001 2).bind fun bt317 => (if (x3.length : Int) < (wrap64 (16 + bt317.1)) then ((spec_l1Dec.f k (x3.length : Int)).bind fun t319 => (if 1 + t319.size ≤ 9223372036854775807 then (if x3.length < 8796093022208 then (spec_l11AnyTexts.l0 k (x3 ++ [(⟨#[110]⟩ : ByteArray) ++ t319]) x1000 bt317.2) else (none)) else (none))) else (some (x3, bt317.2)))
def spec_l11AnyTexts.f (k : Nat) (s0_0 : List Int) (s0_1 : Int) : Option (List ByteArray × Int) := (spec_l11Texts.f k s0_0 s0_1 6).bind fun bt307 => ((spec_l1Rd_pick.f k s0_0 bt307.2 16).bind fun bt311 => (if bt311.1 = 0 then ((spec_l1Many.f k (⟨#[121]⟩ : ByteArray) 41).bind fun t313 => (if bt307.1.length < 8796093022208 then (some ((bt307.1 ++ [t313]), bt311.2)) else (none))) else (if bt311.1 = 1 then (spec_l11AnyTexts.l0 k bt307.1 s0_0 bt311.2) else (some (bt307.1, bt311.2)))))
theorem spec_l11AnyTexts.mono_l : ∀ k, (∀ y0 y1 y2, LeO (spec_l11AnyTexts.l0 k y0 y1 y2) (spec_l11AnyTexts.l0 (k + 1) y0 y1 y2))
  | 0 => fun _ _ _ r h => by simp [spec_l11AnyTexts.l0] at h
  | k + 1 => by
    have ih0 := spec_l11AnyTexts.mono_l k
    · intro y0 y1 y2
      unfold spec_l11AnyTexts.l0
      repeat' first
      | (with_reducible first | exact ih0 _ _ _ | exact spec_l11Texts.mono _ _ _ _ | exact spec_l1Dec.mono _ _ | exact spec_l1Many.mono _ _ _ | exact spec_l1Rd_pick.mono _ _ _ _ | exact LeO.refl _ | exact LeO.none _ | refine LeO.ite ?_ ?_ | refine LeO.bind ?_ (fun _ => ?_))
      | exact ih0 _ _ _
      | exact spec_l11Texts.mono _ _ _ _
      | exact spec_l1Dec.mono _ _
      | exact spec_l1Many.mono _ _ _
      | exact spec_l1Rd_pick.mono _ _ _ _
      | exact LeO.none _
      | refine LeO.ite ?_ ?_
      | refine LeO.bind ?_ (fun _ => ?_)
theorem spec_l11AnyTexts.mono : ∀ a0 a1 k, LeO (spec_l11AnyTexts.f k a0 a1) (spec_l11AnyTexts.f (k + 1) a0 a1) := by
  intro a0 a1 k
  have ih0 := spec_l11AnyTexts.mono_l k
  unfold spec_l11AnyTexts.f
  repeat' first
      | (with_reducible first | exact ih0 _ _ _ | exact spec_l11Texts.mono _ _ _ _ | exact spec_l1Dec.mono _ _ | exact spec_l1Many.mono _ _ _ | exact spec_l1Rd_pick.mono _ _ _ _ | exact LeO.refl _ | exact LeO.none _ | refine LeO.ite ?_ ?_ | refine LeO.bind ?_ (fun _ => ?_))
      | exact ih0 _ _ _
      | exact spec_l11Texts.mono _ _ _ _
      | exact spec_l1Dec.mono _ _
      | exact spec_l1Many.mono _ _ _
      | exact spec_l1Rd_pick.mono _ _ _ _
      | exact LeO.none _
      | refine LeO.ite ?_ ?_
      | refine LeO.bind ?_ (fun _ => ?_)
def spec_l2Put.l0 : Nat → List ByteArray → ByteArray → Int → Option (List ByteArray)
  | 0, _, _, _ => none
  | k + 1, x0, x1, x5 => if x5 < (x0.length : Int) then (if 0 ≤ x5 then (if (Op.bytesLess ((rdOf ByteArray.empty x0 x5).toList) x1.toList) = true then (spec_l2Put.l0 k x0 x1 (wrap64 (x5 + 1))) else (if (rdOf ByteArray.empty x0 x5).toList = x1.toList then (some x0) else ((some (([] : List ByteArray) : List ByteArray)).bind fun y325 => (if x5 ≤ (x0.length : Int) then ((some (x0.take (x5 : Int).toNat : List ByteArray)).bind fun y328 => (if y325.length + y328.length < 8796093022208 then ((some (y325 ++ y328 : List ByteArray)).bind fun y333 => ((some (([x1] : List ByteArray) : List ByteArray)).bind fun y336 => (if y333.length + y336.length < 8796093022208 then ((some (y333 ++ y336 : List ByteArray)).bind fun y339 => ((some (x0.drop (x5 : Int).toNat : List ByteArray)).bind fun y342 => (if y339.length + y342.length < 8796093022208 then (some (y339 ++ y342)) else (none)))) else (none)))) else (none))) else (none))))) else (none)) else ((some (([] : List ByteArray) : List ByteArray)).bind fun y350 => (if 0 ≤ x5 then (if x5 ≤ (x0.length : Int) then ((some (x0.take (x5 : Int).toNat : List ByteArray)).bind fun y353 => (if y350.length + y353.length < 8796093022208 then ((some (y350 ++ y353 : List ByteArray)).bind fun y358 => ((some (([x1] : List ByteArray) : List ByteArray)).bind fun y361 => (if y358.length + y361.length < 8796093022208 then ((some (y358 ++ y361 : List ByteArray)).bind fun y364 => ((some (x0.drop (x5 : Int).toNat : List ByteArray)).bind fun y367 => (if y364.length + y367.length < 8796093022208 then (some (y364 ++ y367)) else (none)))) else (none)))) else (none))) else (none)) else (none)))
def spec_l2Put.f (k : Nat) (l0 : List ByteArray) (a1 : ByteArray) : Option (List ByteArray) := spec_l2Put.l0 k l0 a1 0
theorem spec_l2Put.mono_l : ∀ k, (∀ y0 y1 y2, LeO (spec_l2Put.l0 k y0 y1 y2) (spec_l2Put.l0 (k + 1) y0 y1 y2))
  | 0 => fun _ _ _ r h => by simp [spec_l2Put.l0] at h
  | k + 1 => by
    have ih0 := spec_l2Put.mono_l k
    · intro y0 y1 y2
      unfold spec_l2Put.l0
      repeat' first
      | (with_reducible first | exact ih0 _ _ _ | exact LeO.refl _ | exact LeO.none _ | refine LeO.ite ?_ ?_ | refine LeO.bind ?_ (fun _ => ?_))
      | exact ih0 _ _ _
      | exact LeO.none _
      | refine LeO.ite ?_ ?_
      | refine LeO.bind ?_ (fun _ => ?_)
theorem spec_l2Put.mono : ∀ a0 a1 k, LeO (spec_l2Put.f k a0 a1) (spec_l2Put.f (k + 1) a0 a1) := by
  intro a0 a1 k
  have ih0 := spec_l2Put.mono_l k
  unfold spec_l2Put.f
  repeat' first
      | (with_reducible first | exact ih0 _ _ _ | exact LeO.refl _ | exact LeO.none _ | refine LeO.ite ?_ ?_ | refine LeO.bind ?_ (fun _ => ?_))
      | exact ih0 _ _ _
      | exact LeO.none _
      | refine LeO.ite ?_ ?_
      | refine LeO.bind ?_ (fun _ => ?_)
def spec_l11Set.l0 : Nat → List ByteArray → List ByteArray → Int → List Int → Int → Option (List ByteArray × Int)
  | 0, _, _, _, _, _ => none
  | k + 1, x3, x4, x5, x1000, x1001 => if x5 < (x4.length : Int) then (if 0 ≤ x5 then (if ((rdOf ByteArray.empty x4 x5).size : Int) ≤ 40 then ((spec_l2Put.f k x3 (rdOf ByteArray.empty x4 x5)).bind fun t384 => (spec_l11Set.l0 k t384 x4 (wrap64 (x5 + 1)) x1000 x1001)) else (spec_l11Set.l0 k x3 x4 (wrap64 (x5 + 1)) x1000 x1001)) else (none)) else (some (x3, x1001))
def spec_l11Set.f (k : Nat) (s0_0 : List Int) (s0_1 : Int) : Option (List ByteArray × Int) := (spec_l11AnyTexts.f k s0_0 s0_1).bind fun bt378 => (spec_l11Set.l0 k (([] : List ByteArray)) bt378.1 0 s0_0 bt378.2)
theorem spec_l11Set.mono_l : ∀ k, (∀ y0 y1 y2 y3 y4, LeO (spec_l11Set.l0 k y0 y1 y2 y3 y4) (spec_l11Set.l0 (k + 1) y0 y1 y2 y3 y4))
  | 0 => fun _ _ _ _ _ r h => by simp [spec_l11Set.l0] at h
  | k + 1 => by
    have ih0 := spec_l11Set.mono_l k
    · intro y0 y1 y2 y3 y4
      unfold spec_l11Set.l0
      repeat' first
      | (with_reducible first | exact ih0 _ _ _ _ _ | exact spec_l11AnyTexts.mono _ _ _ | exact spec_l2Put.mono _ _ _ | exact LeO.refl _ | exact LeO.none _ | refine LeO.ite ?_ ?_ | refine LeO.bind ?_ (fun _ => ?_))
      | exact ih0 _ _ _ _ _
      | exact spec_l11AnyTexts.mono _ _ _
      | exact spec_l2Put.mono _ _ _
      | exact LeO.none _
      | refine LeO.ite ?_ ?_
      | refine LeO.bind ?_ (fun _ => ?_)
theorem spec_l11Set.mono : ∀ a0 a1 k, LeO (spec_l11Set.f k a0 a1) (spec_l11Set.f (k + 1) a0 a1) := by
  intro a0 a1 k
  have ih0 := spec_l11Set.mono_l k
  unfold spec_l11Set.f
  repeat' first
      | (with_reducible first | exact ih0 _ _ _ _ _ | exact spec_l11AnyTexts.mono _ _ _ | exact spec_l2Put.mono _ _ _ | exact LeO.refl _ | exact LeO.none _ | refine LeO.ite ?_ ?_ | refine LeO.bind ?_ (fun _ => ?_))
      | exact ih0 _ _ _ _ _
      | exact spec_l11AnyTexts.mono _ _ _
      | exact spec_l2Put.mono _ _ _
      | exact LeO.none _
      | refine LeO.ite ?_ ?_
      | refine LeO.bind ?_ (fun _ => ?_)
def spec_l11AnySet.f (k : Nat) (s0_0 : List Int) (s0_1 : Int) : Option (List ByteArray × Int) := (spec_l1Rd_pick.f k s0_0 s0_1 10).bind fun bt387 => (if bt387.1 = 0 then ((spec_l11AnyTexts.f k s0_0 bt387.2).bind fun bt389 => (some (bt389.1, bt389.2))) else ((spec_l11Set.f k s0_0 bt387.2).bind fun bt393 => (some (bt393.1, bt393.2))))
theorem spec_l11AnySet.mono : ∀ a0 a1 k, LeO (spec_l11AnySet.f k a0 a1) (spec_l11AnySet.f (k + 1) a0 a1) := by
  intro a0 a1 k
  unfold spec_l11AnySet.f
  repeat' first
      | (with_reducible first | exact spec_l11AnyTexts.mono _ _ _ | exact spec_l11Set.mono _ _ _ | exact spec_l1Rd_pick.mono _ _ _ _ | exact LeO.refl _ | exact LeO.none _ | refine LeO.ite ?_ ?_ | refine LeO.bind ?_ (fun _ => ?_))
      | exact spec_l11AnyTexts.mono _ _ _
      | exact spec_l11Set.mono _ _ _
      | exact spec_l1Rd_pick.mono _ _ _ _
      | exact LeO.none _
      | refine LeO.ite ?_ ?_
      | refine LeO.bind ?_ (fun _ => ?_)
def spec_l3Without.l0 : Nat → List (S99) → ByteArray → List (S99) → Int → Option ((List (S99)))
  | 0, _, _, _, _ => none
  | k + 1, x0, x1, x5, x6 => if x6 < (x0.length : Int) then (if 0 ≤ x6 then (if ((rd_T99 x0 x6).f0).toList = x1.toList then (spec_l3Without.l0 k x0 x1 x5 (wrap64 (x6 + 1))) else (if x5.length < 5864062014805 then (spec_l3Without.l0 k x0 x1 (x5 ++ [(⟨(rd_T99 x0 x6).f0, (rd_T99 x0 x6).f1⟩ : S99)]) (wrap64 (x6 + 1))) else (none))) else (none)) else (some x5)
def spec_l3Without.f (k : Nat) (l0 : List (S99)) (a1 : ByteArray) : Option ((List (S99))) := spec_l3Without.l0 k l0 a1 (([] : List (S99))) 0
theorem spec_l3Without.mono_l : ∀ k, (∀ y0 y1 y2 y3, LeO (spec_l3Without.l0 k y0 y1 y2 y3) (spec_l3Without.l0 (k + 1) y0 y1 y2 y3))
  | 0 => fun _ _ _ _ r h => by simp [spec_l3Without.l0] at h
  | k + 1 => by
    have ih0 := spec_l3Without.mono_l k
    · intro y0 y1 y2 y3
      unfold spec_l3Without.l0
      repeat' first
      | (with_reducible first | exact ih0 _ _ _ _ | exact LeO.refl _ | exact LeO.none _ | refine LeO.ite ?_ ?_ | refine LeO.bind ?_ (fun _ => ?_))
      | exact ih0 _ _ _ _
      | exact LeO.none _
      | refine LeO.ite ?_ ?_
      | refine LeO.bind ?_ (fun _ => ?_)
theorem spec_l3Without.mono : ∀ a0 a1 k, LeO (spec_l3Without.f k a0 a1) (spec_l3Without.f (k + 1) a0 a1) := by
  intro a0 a1 k
  have ih0 := spec_l3Without.mono_l k
  unfold spec_l3Without.f
  repeat' first
      | (with_reducible first | exact ih0 _ _ _ _ | exact LeO.refl _ | exact LeO.none _ | refine LeO.ite ?_ ?_ | refine LeO.bind ?_ (fun _ => ?_))
      | exact ih0 _ _ _ _
      | exact LeO.none _
      | refine LeO.ite ?_ ?_
      | refine LeO.bind ?_ (fun _ => ?_)
mutual
def spec_ScoresPut.j1 : Nat → List (S99) → List (S99) → Int → ByteArray → Int → Option ((List (S99)) × Bool × Bool)
  | 0, _, _, _, _, _ => none
  | k + 1, x0, x7, x8, x406000, x406001 => (some (([] : List (S99)) : List (S99))).bind fun y415 => (if 0 ≤ x8 then (if x8 ≤ (x7.length : Int) then ((some (x7.take (x8 : Int).toNat : List (S99))).bind fun y418 => (if y415.length + y418.length < 5864062014805 then ((some (y415 ++ y418 : List (S99))).bind fun y422 => ((some (([(⟨x406000, x406001⟩ : S99)] : List (S99)) : List (S99))).bind fun y425 => (if y422.length + y425.length < 5864062014805 then ((some (y422 ++ y425 : List (S99))).bind fun y428 => ((some (x7.drop (x8 : Int).toNat : List (S99))).bind fun y431 => (if y428.length + y431.length < 5864062014805 then ((some (y428 ++ y431 : List (S99))).bind fun y435 => ((spec_ScoresOk.f k y435).bind fun t438 => (if t438 = true then (some (y435, ((x7.length : Int) == (x0.length : Int)), true)) else ((some (([] : List (S99)) : List (S99))).bind fun y439 => (if y439.length + x0.length < 5864062014805 then (some ((y439 ++ x0), false, false)) else (none)))))) else (none)))) else (none)))) else (none))) else (none)) else (none))
def spec_ScoresPut.l0 : Nat → List (S99) → List (S99) → Int → ByteArray → Int → Option ((List (S99)) × Bool × Bool)
  | 0, _, _, _, _, _ => none
  | k + 1, x0, x7, x8, x406000, x406001 => if x8 < (x7.length : Int) then (if 0 ≤ x8 then ((spec_l3Ahead.f ((rd_T99 x7 x8).f0) ((rd_T99 x7 x8).f1) x406000 x406001).bind fun t414 => (if t414 = true then (spec_ScoresPut.l0 k x0 x7 (wrap64 (x8 + 1)) x406000 x406001) else (spec_ScoresPut.j1 k x0 x7 x8 x406000 x406001))) else (none)) else (spec_ScoresPut.j1 k x0 x7 x8 x406000 x406001)
end
def spec_ScoresPut.f (k : Nat) (l0 : List (S99)) (a1_0 : ByteArray) (a1_1 : Int) : Option ((List (S99)) × Bool × Bool) := (spec_ScoresOk.f k l0).bind fun t406 => (if t406 = true then ((spec_l3Without.f k l0 a1_0).bind fun t410 => (spec_ScoresPut.l0 k l0 t410 0 a1_0 a1_1)) else (some ((([] : List (S99))), false, false)))
theorem spec_ScoresPut.mono_l : ∀ k, (∀ y0 y1 y2 y3 y4, LeO (spec_ScoresPut.j1 k y0 y1 y2 y3 y4) (spec_ScoresPut.j1 (k + 1) y0 y1 y2 y3 y4)) ∧ (∀ y0 y1 y2 y3 y4, LeO (spec_ScoresPut.l0 k y0 y1 y2 y3 y4) (spec_ScoresPut.l0 (k + 1) y0 y1 y2 y3 y4))
  | 0 => ⟨fun _ _ _ _ _ r h => by simp [spec_ScoresPut.j1] at h, fun _ _ _ _ _ r h => by simp [spec_ScoresPut.l0] at h⟩
  | k + 1 => by
    obtain ⟨ih0, ih1⟩ := spec_ScoresPut.mono_l k
    refine ⟨?_, ?_⟩
    · intro y0 y1 y2 y3 y4
      unfold spec_ScoresPut.j1
      repeat' first
      | (with_reducible first | exact ih0 _ _ _ _ _ | exact ih1 _ _ _ _ _ | exact spec_ScoresOk.mono _ _ | exact spec_l3Without.mono _ _ _ | exact LeO.refl _ | exact LeO.none _ | refine LeO.ite ?_ ?_ | refine LeO.bind ?_ (fun _ => ?_))
      | exact ih0 _ _ _ _ _
      | exact ih1 _ _ _ _ _
      | exact spec_ScoresOk.mono _ _
      | exact spec_l3Without.mono _ _ _
      | exact LeO.none _
      | refine LeO.ite ?_ ?_
      | refine LeO.bind ?_ (fun _ => ?_)
    · intro y0 y1 y2 y3 y4
      unfold spec_ScoresPut.l0
      repeat' first
      | (with_reducible first | exact ih0 _ _ _ _ _ | exact ih1 _ _ _ _ _ | exact spec_ScoresOk.mono _ _ | exact spec_l3Without.mono _ _ _ | exact LeO.refl _ | exact LeO.none _ | refine LeO.ite ?_ ?_ | refine LeO.bind ?_ (fun _ => ?_))
      | exact ih0 _ _ _ _ _
      | exact ih1 _ _ _ _ _
      | exact spec_ScoresOk.mono _ _
      | exact spec_l3Without.mono _ _ _
      | exact LeO.none _
      | refine LeO.ite ?_ ?_
      | refine LeO.bind ?_ (fun _ => ?_)
theorem spec_ScoresPut.mono : ∀ a0 a1 a2 k, LeO (spec_ScoresPut.f k a0 a1 a2) (spec_ScoresPut.f (k + 1) a0 a1 a2) := by
  intro a0 a1 a2 k
  obtain ⟨ih0, ih1⟩ := spec_ScoresPut.mono_l k
  unfold spec_ScoresPut.f
  repeat' first
      | (with_reducible first | exact ih0 _ _ _ _ _ | exact ih1 _ _ _ _ _ | exact spec_ScoresOk.mono _ _ | exact spec_l3Without.mono _ _ _ | exact LeO.refl _ | exact LeO.none _ | refine LeO.ite ?_ ?_ | refine LeO.bind ?_ (fun _ => ?_))
      | exact ih0 _ _ _ _ _
      | exact ih1 _ _ _ _ _
      | exact spec_ScoresOk.mono _ _
      | exact spec_l3Without.mono _ _ _
      | exact LeO.none _
      | refine LeO.ite ?_ ?_
      | refine LeO.bind ?_ (fun _ => ?_)
mutual
def spec_l11Scores.l0 : Nat → List (S99) → Int → List Int → Int → Option ((List (S99)) × Int)
  | 0, _, _, _, _ => none
  | k + 1, x3, x4, x1000, x1001 => if x4 > 0 then ((spec_l11Text.f k x1000 x1001).bind fun bt450 => ((spec_l1Rd_one.f k x1000 bt450.2 (([0, 1, 1, 2, (-5), 7, 1000000000] : List Int))).bind fun bt455 => ((spec_ScoresPut.f k x3 bt450.1 bt455.1).bind fun bt457 => (spec_l11Scores.l0 k bt457.1 (wrap64 (x4 - 1)) x1000 bt455.2)))) else ((spec_l1Rd_pick.f k x1000 x1001 30).bind fun bt462 => (if bt462.1 = 0 then (spec_l11Scores.l1 k x3 0 x1000 bt462.2) else (some (x3, bt462.2))))
def spec_l11Scores.l1 : Nat → List (S99) → Int → List Int → Int → Option ((List (S99)) × Int)
  | 0, _, _, _, _ => none
  | k + 1, x3, x5, x1000, x1001 => if (x3.length : Int) < 16 then ((spec_l1Dec.f k x5).bind fun t464 => (if 1 + t464.size ≤ 9223372036854775807 then ((spec_ScoresPut.f k x3 ((⟨#[110]⟩ : ByteArray) ++ t464) (Int.tmod x5 3)).bind fun bt465 => (spec_l11Scores.l1 k bt465.1 (wrap64 (x5 + 1)) x1000 x1001)) else (none))) else (some (x3, x1001))
end
def spec_l11Scores.f (k : Nat) (s0_0 : List Int) (s0_1 : Int) : Option ((List (S99)) × Int) := (spec_l1Rd_pick.f k s0_0 s0_1 7).bind fun bt448 => (spec_l11Scores.l0 k (([] : List (S99))) bt448.1 s0_0 bt448.2)
theorem spec_l11Scores.mono_l : ∀ k, (∀ y0 y1 y2 y3, LeO (spec_l11Scores.l0 k y0 y1 y2 y3) (spec_l11Scores.l0 (k + 1) y0 y1 y2 y3)) ∧ (∀ y0 y1 y2 y3, LeO (spec_l11Scores.l1 k y0 y1 y2 y3) (spec_l11Scores.l1 (k + 1) y0 y1 y2 y3))
  | 0 => ⟨fun _ _ _ _ r h => by simp [spec_l11Scores.l0] at h, fun _ _ _ _ r h => by simp [spec_l11Scores.l1] at h⟩
  | k + 1 => by
    obtain ⟨ih0, ih1⟩ := spec_l11Scores.mono_l k
    refine ⟨?_, ?_⟩
    · intro y0 y1 y2 y3
      unfold spec_l11Scores.l0
      repeat' first
      | (with_reducible first | exact ih0 _ _ _ _ | exact ih1 _ _ _ _ | exact spec_ScoresPut.mono _ _ _ _ | exact spec_l11Text.mono _ _ _ | exact spec_l1Dec.mono _ _ | exact spec_l1Rd_one.mono _ _ _ _ | exact spec_l1Rd_pick.mono _ _ _ _ | exact LeO.refl _ | exact LeO.none _ | refine LeO.ite ?_ ?_ | refine LeO.bind ?_ (fun _ => ?_))
      | exact ih0 _ _ _ _
      | exact ih1 _ _ _ _
      | exact spec_ScoresPut.mono _ _ _ _
      | exact spec_l11Text.mono _ _ _
      | exact spec_l1Dec.mono _ _
      | exact spec_l1Rd_one.mono _ _ _ _
      | exact spec_l1Rd_pick.mono _ _ _ _
      | exact LeO.none _
      | refine LeO.ite ?_ ?_
      | refine LeO.bind ?_ (fun _ => ?_)
    · intro y0 y1 y2 y3
      unfold spec_l11Scores.l1
      repeat' first
      | (with_reducible first | exact ih0 _ _ _ _ | exact ih1 _ _ _ _ | exact spec_ScoresPut.mono _ _ _ _ | exact spec_l11Text.mono _ _ _ | exact spec_l1Dec.mono _ _ | exact spec_l1Rd_one.mono _ _ _ _ | exact spec_l1Rd_pick.mono _ _ _ _ | exact LeO.refl _ | exact LeO.none _ | refine LeO.ite ?_ ?_ | refine LeO.bind ?_ (fun _ => ?_))
      | exact ih0 _ _ _ _
      | exact ih1 _ _ _ _
      | exact spec_ScoresPut.mono _ _ _ _
      | exact spec_l11Text.mono _ _ _
      | exact spec_l1Dec.mono _ _
      | exact spec_l1Rd_one.mono _ _ _ _
      | exact spec_l1Rd_pick.mono _ _ _ _
      | exact LeO.none _
      | refine LeO.ite ?_ ?_
      | refine LeO.bind ?_ (fun _ => ?_)
theorem spec_l11Scores.mono : ∀ a0 a1 k, LeO (spec_l11Scores.f k a0 a1) (spec_l11Scores.f (k + 1) a0 a1) := by
  intro a0 a1 k
  obtain ⟨ih0, ih1⟩ := spec_l11Scores.mono_l k
  unfold spec_l11Scores.f
  repeat' first
      | (with_reducible first | exact ih0 _ _ _ _ | exact ih1 _ _ _ _ | exact spec_ScoresPut.mono _ _ _ _ | exact spec_l11Text.mono _ _ _ | exact spec_l1Dec.mono _ _ | exact spec_l1Rd_one.mono _ _ _ _ | exact spec_l1Rd_pick.mono _ _ _ _ | exact LeO.refl _ | exact LeO.none _ | refine LeO.ite ?_ ?_ | refine LeO.bind ?_ (fun _ => ?_))
      | exact ih0 _ _ _ _
      | exact ih1 _ _ _ _
      | exact spec_ScoresPut.mono _ _ _ _
      | exact spec_l11Text.mono _ _ _
      | exact spec_l1Dec.mono _ _
      | exact spec_l1Rd_one.mono _ _ _ _
      | exact spec_l1Rd_pick.mono _ _ _ _
      | exact LeO.none _
      | refine LeO.ite ?_ ?_
      | refine LeO.bind ?_ (fun _ => ?_)
def spec_l11AnyScores.f (k : Nat) (s0_0 : List Int) (s0_1 : Int) : Option ((List (S99)) × Int) := (spec_l11Scores.f k s0_0 s0_1).bind fun bt470 => ((spec_l1Rd_pick.f k s0_0 bt470.2 10).bind fun bt474 => (if bt474.1 = 0 then ((spec_l11Text.f k s0_0 bt474.2).bind fun bt476 => ((spec_l1Rd_one.f k s0_0 bt476.2 (([0, 1000000001] : List Int))).bind fun bt481 => (if bt470.1.length < 5864062014805 then (some ((bt470.1 ++ [(⟨bt476.1, bt481.1⟩ : S99)]), bt481.2)) else (none)))) else (some (bt470.1, bt474.2))))
theorem spec_l11AnyScores.mono : ∀ a0 a1 k, LeO (spec_l11AnyScores.f k a0 a1) (spec_l11AnyScores.f (k + 1) a0 a1) := by
  intro a0 a1 k
  unfold spec_l11AnyScores.f
  repeat' first
      | (with_reducible first | exact spec_l11Scores.mono _ _ _ | exact spec_l11Text.mono _ _ _ | exact spec_l1Rd_one.mono _ _ _ _ | exact spec_l1Rd_pick.mono _ _ _ _ | exact LeO.refl _ | exact LeO.none _ | refine LeO.ite ?_ ?_ | refine LeO.bind ?_ (fun _ => ?_))
      | exact spec_l11Scores.mono _ _ _
      | exact spec_l11Text.mono _ _ _
      | exact spec_l1Rd_one.mono _ _ _ _
      | exact spec_l1Rd_pick.mono _ _ _ _
      | exact LeO.none _
      | refine LeO.ite ?_ ?_
      | refine LeO.bind ?_ (fun _ => ?_)
def spec_l3At.l0 : Nat → List (S101) → ByteArray → Int → Option (Int × Bool)
  | 0, _, _, _ => none
  | k + 1, x0, x1, x6 => if x6 < (x0.length : Int) then (if 0 ≤ x6 then (if (Op.bytesLess (((rd_T101 x0 x6).f0).toList) x1.toList) = true then (spec_l3At.l0 k x0 x1 (wrap64 (x6 + 1))) else (some (x6, (((rd_T101 x0 x6).f0).toList == x1.toList)))) else (none)) else (some (x6, false))
def spec_l3At.f (k : Nat) (l0 : List (S101)) (a1 : ByteArray) : Option (Int × Bool) := spec_l3At.l0 k l0 a1 0
theorem spec_l3At.mono_l : ∀ k, (∀ y0 y1 y2, LeO (spec_l3At.l0 k y0 y1 y2) (spec_l3At.l0 (k + 1) y0 y1 y2))
  | 0 => fun _ _ _ r h => by simp [spec_l3At.l0] at h
  | k + 1 => by
    have ih0 := spec_l3At.mono_l k
    · intro y0 y1 y2
      unfold spec_l3At.l0
      repeat' first
      | (with_reducible first | exact ih0 _ _ _ | exact LeO.refl _ | exact LeO.none _ | refine LeO.ite ?_ ?_ | refine LeO.bind ?_ (fun _ => ?_))
      | exact ih0 _ _ _
      | exact LeO.none _
      | refine LeO.ite ?_ ?_
      | refine LeO.bind ?_ (fun _ => ?_)
theorem spec_l3At.mono : ∀ a0 a1 k, LeO (spec_l3At.f k a0 a1) (spec_l3At.f (k + 1) a0 a1) := by
  intro a0 a1 k
  have ih0 := spec_l3At.mono_l k
  unfold spec_l3At.f
  repeat' first
      | (with_reducible first | exact ih0 _ _ _ | exact LeO.refl _ | exact LeO.none _ | refine LeO.ite ?_ ?_ | refine LeO.bind ?_ (fun _ => ?_))
      | exact ih0 _ _ _
      | exact LeO.none _
      | refine LeO.ite ?_ ?_
      | refine LeO.bind ?_ (fun _ => ?_)
def spec_FieldsPut.j0 : Nat → List (S101) → Bool → List (S101) → Option ((List (S101)) × Bool × Bool)
  | 0, _, _, _ => none
  | k + 1, x0, x8, x9 => (spec_FieldsOk.f k x9).bind fun t525 => (if t525 = true then (some (x9, !x8, true)) else ((some (([] : List (S101)) : List (S101))).bind fun y526 => (if y526.length + x0.length < 4398046511104 then (some ((y526 ++ x0), false, false)) else (none))))
def spec_FieldsPut.f (k : Nat) (l0 : List (S101)) (a1_0 : ByteArray) (a1_1 : ByteArray) : Option ((List (S101)) × Bool × Bool) := (spec_FieldsOk.f k l0).bind fun t489 => (if t489 = true then ((spec_l3At.f k l0 a1_0).bind fun bt493 => ((some (([] : List (S101)) : List (S101))).bind fun y495 => (if y495.length + l0.length < 4398046511104 then ((some (y495 ++ l0 : List (S101))).bind fun y498 => (if bt493.2 = true then (if 0 ≤ bt493.1 then (if bt493.1 < (y498.length : Int) then (spec_FieldsPut.j0 k l0 bt493.2 (y498.set (bt493.1 : Int).toNat (⟨a1_0, a1_1⟩ : S101))) else (none)) else (none)) else ((some (([] : List (S101)) : List (S101))).bind fun y502 => (if 0 ≤ bt493.1 then (if bt493.1 ≤ (l0.length : Int) then ((some (l0.take (bt493.1 : Int).toNat : List (S101))).bind fun y505 => (if y502.length + y505.length < 4398046511104 then ((some (y502 ++ y505 : List (S101))).bind fun y509 => ((some (([(⟨a1_0, a1_1⟩ : S101)] : List (S101)) : List (S101))).bind fun y512 => (if y509.length + y512.length < 4398046511104 then ((some (y509 ++ y512 : List (S101))).bind fun y515 => ((some (l0.drop (bt493.1 : Int).toNat : List (S101))).bind fun y518 => (if y515.length + y518.length < 4398046511104 then (spec_FieldsPut.j0 k l0 bt493.2 (y515 ++ y518)) else (none)))) else (none)))) else (none))) else (none)) else (none))))) else (none)))) else (some ((([] : List (S101))), false, false)))
theorem spec_FieldsPut.mono_l : ∀ k, (∀ y0 y1 y2, LeO (spec_FieldsPut.j0 k y0 y1 y2) (spec_FieldsPut.j0 (k + 1) y0 y1 y2))
  | 0 => fun _ _ _ r h => by simp [spec_FieldsPut.j0] at h
  | k + 1 => by
    have ih0 := spec_FieldsPut.mono_l k
    · intro y0 y1 y2
      unfold spec_FieldsPut.j0
      repeat' first
      | (with_reducible first | exact ih0 _ _ _ | exact spec_FieldsOk.mono _ _ | exact spec_l3At.mono _ _ _ | exact LeO.refl _ | exact LeO.none _ | refine LeO.ite ?_ ?_ | refine LeO.bind ?_ (fun _ => ?_))
      | exact ih0 _ _ _
      | exact spec_FieldsOk.mono _ _
      | exact spec_l3At.mono _ _ _
      | exact LeO.none _
      | refine LeO.ite ?_ ?_
      | refine LeO.bind ?_ (fun _ => ?_)
theorem spec_FieldsPut.mono : ∀ a0 a1 a2 k, LeO (spec_FieldsPut.f k a0 a1 a2) (spec_FieldsPut.f (k + 1) a0 a1 a2) := by
  intro a0 a1 a2 k
  have ih0 := spec_FieldsPut.mono_l k
  unfold spec_FieldsPut.f
  repeat' first
      | (with_reducible first | exact ih0 _ _ _ | exact spec_FieldsOk.mono _ _ | exact spec_l3At.mono _ _ _ | exact LeO.refl _ | exact LeO.none _ | refine LeO.ite ?_ ?_ | refine LeO.bind ?_ (fun _ => ?_))
      | exact ih0 _ _ _
      | exact spec_FieldsOk.mono _ _
      | exact spec_l3At.mono _ _ _
      | exact LeO.none _
      | refine LeO.ite ?_ ?_
      | refine LeO.bind ?_ (fun _ => ?_)
def spec_l11Fields.l0 : Nat → List (S101) → Int → List Int → Int → Option ((List (S101)) × Int)
  | 0, _, _, _, _ => none
  | k + 1, x3, x4, x1000, x1001 => if x4 > 0 then ((spec_l11Text.f k x1000 x1001).bind fun bt537 => ((spec_l11Text.f k x1000 bt537.2).bind fun bt539 => ((spec_FieldsPut.f k x3 bt537.1 bt539.1).bind fun bt541 => (spec_l11Fields.l0 k bt541.1 (wrap64 (x4 - 1)) x1000 bt539.2)))) else (some (x3, x1001))
def spec_l11Fields.f (k : Nat) (s0_0 : List Int) (s0_1 : Int) : Option ((List (S101)) × Int) := (spec_l1Rd_pick.f k s0_0 s0_1 5).bind fun bt535 => (spec_l11Fields.l0 k (([] : List (S101))) bt535.1 s0_0 bt535.2)
theorem spec_l11Fields.mono_l : ∀ k, (∀ y0 y1 y2 y3, LeO (spec_l11Fields.l0 k y0 y1 y2 y3) (spec_l11Fields.l0 (k + 1) y0 y1 y2 y3))
  | 0 => fun _ _ _ _ r h => by simp [spec_l11Fields.l0] at h
  | k + 1 => by
    have ih0 := spec_l11Fields.mono_l k
    · intro y0 y1 y2 y3
      unfold spec_l11Fields.l0
      repeat' first
      | (with_reducible first | exact ih0 _ _ _ _ | exact spec_FieldsPut.mono _ _ _ _ | exact spec_l11Text.mono _ _ _ | exact spec_l1Rd_pick.mono _ _ _ _ | exact LeO.refl _ | exact LeO.none _ | refine LeO.ite ?_ ?_ | refine LeO.bind ?_ (fun _ => ?_))
      | exact ih0 _ _ _ _
      | exact spec_FieldsPut.mono _ _ _ _
      | exact spec_l11Text.mono _ _ _
      | exact spec_l1Rd_pick.mono _ _ _ _
      | exact LeO.none _
      | refine LeO.ite ?_ ?_
      | refine LeO.bind ?_ (fun _ => ?_)
theorem spec_l11Fields.mono : ∀ a0 a1 k, LeO (spec_l11Fields.f k a0 a1) (spec_l11Fields.f (k + 1) a0 a1) := by
  intro a0 a1 k
  have ih0 := spec_l11Fields.mono_l k
  unfold spec_l11Fields.f
  repeat' first
      | (with_reducible first | exact ih0 _ _ _ _ | exact spec_FieldsPut.mono _ _ _ _ | exact spec_l11Text.mono _ _ _ | exact spec_l1Rd_pick.mono _ _ _ _ | exact LeO.refl _ | exact LeO.none _ | refine LeO.ite ?_ ?_ | refine LeO.bind ?_ (fun _ => ?_))
      | exact ih0 _ _ _ _
      | exact spec_FieldsPut.mono _ _ _ _
      | exact spec_l11Text.mono _ _ _
      | exact spec_l1Rd_pick.mono _ _ _ _
      | exact LeO.none _
      | refine LeO.ite ?_ ?_
      | refine LeO.bind ?_ (fun _ => ?_)
def spec_l11AnyFields.l0 : Nat → List (S101) → Int → List Int → Int → Option ((List (S101)) × Int)
  | 0, _, _, _, _ => none
  | k + 1, x3, x4, x1000, x1001 => if (x3.length : Int) < 16 then ((spec_l1Dec.f k x4).bind fun t557 => (if 1 + t557.size ≤ 9223372036854775807 then ((spec_FieldsPut.f k x3 ((⟨#[102]⟩ : ByteArray) ++ t557) (⟨#[]⟩ : ByteArray)).bind fun bt558 => (spec_l11AnyFields.l0 k bt558.1 (wrap64 (x4 + 1)) x1000 x1001)) else (none))) else (some (x3, x1001))
def spec_l11AnyFields.f (k : Nat) (s0_0 : List Int) (s0_1 : Int) : Option ((List (S101)) × Int) := (spec_l11Fields.f k s0_0 s0_1).bind fun bt546 => ((spec_l1Rd_pick.f k s0_0 bt546.2 12).bind fun bt550 => (if bt550.1 = 0 then ((spec_l11Text.f k s0_0 bt550.2).bind fun bt552 => (if bt546.1.length < 4398046511104 then (some ((bt546.1 ++ [(⟨bt552.1, (⟨#[]⟩ : ByteArray)⟩ : S101)]), bt552.2)) else (none))) else (if bt550.1 = 1 then (spec_l11AnyFields.l0 k bt546.1 10 s0_0 bt550.2) else (some (bt546.1, bt550.2)))))
theorem spec_l11AnyFields.mono_l : ∀ k, (∀ y0 y1 y2 y3, LeO (spec_l11AnyFields.l0 k y0 y1 y2 y3) (spec_l11AnyFields.l0 (k + 1) y0 y1 y2 y3))
  | 0 => fun _ _ _ _ r h => by simp [spec_l11AnyFields.l0] at h
  | k + 1 => by
    have ih0 := spec_l11AnyFields.mono_l k
    · intro y0 y1 y2 y3
      unfold spec_l11AnyFields.l0
      repeat' first
      | (with_reducible first | exact ih0 _ _ _ _ | exact spec_FieldsPut.mono _ _ _ _ | exact spec_l11Fields.mono _ _ _ | exact spec_l11Text.mono _ _ _ | exact spec_l1Dec.mono _ _ | exact spec_l1Rd_pick.mono _ _ _ _ | exact LeO.refl _ | exact LeO.none _ | refine LeO.ite ?_ ?_ | refine LeO.bind ?_ (fun _ => ?_))
      | exact ih0 _ _ _ _
      | exact spec_FieldsPut.mono _ _ _ _
      | exact spec_l11Fields.mono _ _ _
      | exact spec_l11Text.mono _ _ _
      | exact spec_l1Dec.mono _ _
      | exact spec_l1Rd_pick.mono _ _ _ _
      | exact LeO.none _
      | refine LeO.ite ?_ ?_
      | refine LeO.bind ?_ (fun _ => ?_)
theorem spec_l11AnyFields.mono : ∀ a0 a1 k, LeO (spec_l11AnyFields.f k a0 a1) (spec_l11AnyFields.f (k + 1) a0 a1) := by
  intro a0 a1 k
  have ih0 := spec_l11AnyFields.mono_l k
  unfold spec_l11AnyFields.f
  repeat' first
      | (with_reducible first | exact ih0 _ _ _ _ | exact spec_FieldsPut.mono _ _ _ _ | exact spec_l11Fields.mono _ _ _ | exact spec_l11Text.mono _ _ _ | exact spec_l1Dec.mono _ _ | exact spec_l1Rd_pick.mono _ _ _ _ | exact LeO.refl _ | exact LeO.none _ | refine LeO.ite ?_ ?_ | refine LeO.bind ?_ (fun _ => ?_))
      | exact ih0 _ _ _ _
      | exact spec_FieldsPut.mono _ _ _ _
      | exact spec_l11Fields.mono _ _ _
      | exact spec_l11Text.mono _ _ _
      | exact spec_l1Dec.mono _ _
      | exact spec_l1Rd_pick.mono _ _ _ _
      | exact LeO.none _
      | refine LeO.ite ?_ ?_
      | refine LeO.bind ?_ (fun _ => ?_)
def spec_l11Entry.j0 : Nat → List Int → Int → ByteArray → Int → Int → ByteArray → List ByteArray → List (S99) → List (S101) → Option (ByteArray × Int × Int × ByteArray × List ByteArray × (List (S99)) × (List (S101)) × Int)
  | 0, _, _, _, _, _, _, _, _, _ => none
  | k + 1, x1000, x1001, x577000, x577001, x577002, x577003, x577004, x577005, x577006 => (spec_l1Rd_pick.f k x1000 x1001 16).bind fun bt595 => (if bt595.1 = 0 then ((spec_l1Rd_pick.f k x1000 bt595.2 7).bind fun bt597 => (some (x577000, x577001, bt597.1, x577003, x577004, x577005, x577006, bt597.2))) else (some (x577000, x577001, x577002, x577003, x577004, x577005, x577006, bt595.2)))
def spec_l11Entry.f (k : Nat) (s0_0 : List Int) (s0_1 : Int) : Option (ByteArray × Int × Int × ByteArray × List ByteArray × (List (S99)) × (List (S101)) × Int) := (spec_l1Rd_of.f k s0_0 s0_1 (([(⟨#[107]⟩ : ByteArray), (⟨#[108]⟩ : ByteArray), (⟨#[110, 101, 119]⟩ : ByteArray), (⟨#[]⟩ : ByteArray), (⟨#[109, 117, 99, 104, 116, 111, 111, 108, 111, 110, 103, 107, 101, 121]⟩ : ByteArray)] : List ByteArray))).bind fun bt567 => ((spec_l1Rd_pick.f k s0_0 bt567.2 5).bind fun bt569 => ((spec_l1Rd_one.f k s0_0 bt569.2 (([0, 0, 20, 2000001, 1] : List Int))).bind fun bt574 => (if (wrap64 (1 + bt569.1)) = 1 then ((spec_l11Text.f k s0_0 bt574.2).bind fun bt577 => (spec_l11Entry.j0 k s0_0 bt577.2 bt567.1 bt574.1 (wrap64 (1 + bt569.1)) bt577.1 ([] : List ByteArray) ([] : List (S99)) ([] : List (S101)))) else (if (wrap64 (1 + bt569.1)) = 2 then ((spec_l11AnyTexts.f k s0_0 bt574.2).bind fun bt579 => (spec_l11Entry.j0 k s0_0 bt579.2 bt567.1 bt574.1 (wrap64 (1 + bt569.1)) (⟨#[]⟩ : ByteArray) bt579.1 ([] : List (S99)) ([] : List (S101)))) else (if (wrap64 (1 + bt569.1)) = 3 then ((spec_l11AnySet.f k s0_0 bt574.2).bind fun bt583 => (spec_l11Entry.j0 k s0_0 bt583.2 bt567.1 bt574.1 (wrap64 (1 + bt569.1)) (⟨#[]⟩ : ByteArray) bt583.1 ([] : List (S99)) ([] : List (S101)))) else (if (wrap64 (1 + bt569.1)) = 4 then ((spec_l11AnyScores.f k s0_0 bt574.2).bind fun bt587 => (spec_l11Entry.j0 k s0_0 bt587.2 bt567.1 bt574.1 (wrap64 (1 + bt569.1)) (⟨#[]⟩ : ByteArray) ([] : List ByteArray) bt587.1 ([] : List (S101)))) else (if (wrap64 (1 + bt569.1)) = 5 then ((spec_l11AnyFields.f k s0_0 bt574.2).bind fun bt591 => (spec_l11Entry.j0 k s0_0 bt591.2 bt567.1 bt574.1 (wrap64 (1 + bt569.1)) (⟨#[]⟩ : ByteArray) ([] : List ByteArray) ([] : List (S99)) bt591.1)) else (spec_l11Entry.j0 k s0_0 bt574.2 bt567.1 bt574.1 (wrap64 (1 + bt569.1)) (⟨#[]⟩ : ByteArray) ([] : List ByteArray) ([] : List (S99)) ([] : List (S101))))))))))
theorem spec_l11Entry.mono_l : ∀ k, (∀ y0 y1 y2 y3 y4 y5 y6 y7 y8, LeO (spec_l11Entry.j0 k y0 y1 y2 y3 y4 y5 y6 y7 y8) (spec_l11Entry.j0 (k + 1) y0 y1 y2 y3 y4 y5 y6 y7 y8))
  | 0 => fun _ _ _ _ _ _ _ _ _ r h => by simp [spec_l11Entry.j0] at h
  | k + 1 => by
    have ih0 := spec_l11Entry.mono_l k
    · intro y0 y1 y2 y3 y4 y5 y6 y7 y8
      unfold spec_l11Entry.j0
      repeat' first
      | (with_reducible first | exact ih0 _ _ _ _ _ _ _ _ _ | exact spec_l11AnyFields.mono _ _ _ | exact spec_l11AnyScores.mono _ _ _ | exact spec_l11AnySet.mono _ _ _ | exact spec_l11AnyTexts.mono _ _ _ | exact spec_l11Text.mono _ _ _ | exact spec_l1Rd_of.mono _ _ _ _ | exact spec_l1Rd_one.mono _ _ _ _ | exact spec_l1Rd_pick.mono _ _ _ _ | exact LeO.refl _ | exact LeO.none _ | refine LeO.ite ?_ ?_ | refine LeO.bind ?_ (fun _ => ?_))
      | exact ih0 _ _ _ _ _ _ _ _ _
      | exact spec_l11AnyFields.mono _ _ _
      | exact spec_l11AnyScores.mono _ _ _
      | exact spec_l11AnySet.mono _ _ _
      | exact spec_l11AnyTexts.mono _ _ _
      | exact spec_l11Text.mono _ _ _
      | exact spec_l1Rd_of.mono _ _ _ _
      | exact spec_l1Rd_one.mono _ _ _ _
      | exact spec_l1Rd_pick.mono _ _ _ _
      | exact LeO.none _
      | refine LeO.ite ?_ ?_
      | refine LeO.bind ?_ (fun _ => ?_)
theorem spec_l11Entry.mono : ∀ a0 a1 k, LeO (spec_l11Entry.f k a0 a1) (spec_l11Entry.f (k + 1) a0 a1) := by
  intro a0 a1 k
  have ih0 := spec_l11Entry.mono_l k
  unfold spec_l11Entry.f
  repeat' first
      | (with_reducible first | exact ih0 _ _ _ _ _ _ _ _ _ | exact spec_l11AnyFields.mono _ _ _ | exact spec_l11AnyScores.mono _ _ _ | exact spec_l11AnySet.mono _ _ _ | exact spec_l11AnyTexts.mono _ _ _ | exact spec_l11Text.mono _ _ _ | exact spec_l1Rd_of.mono _ _ _ _ | exact spec_l1Rd_one.mono _ _ _ _ | exact spec_l1Rd_pick.mono _ _ _ _ | exact LeO.refl _ | exact LeO.none _ | refine LeO.ite ?_ ?_ | refine LeO.bind ?_ (fun _ => ?_))
      | exact ih0 _ _ _ _ _ _ _ _ _
      | exact spec_l11AnyFields.mono _ _ _
      | exact spec_l11AnyScores.mono _ _ _
      | exact spec_l11AnySet.mono _ _ _
      | exact spec_l11AnyTexts.mono _ _ _
      | exact spec_l11Text.mono _ _ _
      | exact spec_l1Rd_of.mono _ _ _ _
      | exact spec_l1Rd_one.mono _ _ _ _
      | exact spec_l1Rd_pick.mono _ _ _ _
      | exact LeO.none _
      | refine LeO.ite ?_ ?_
      | refine LeO.bind ?_ (fun _ => ?_)
def spec_l1Open.f (l0 : List Int) : Option (List Int × Int) := if (l0.length : Int) > 2000 then (if 2000 ≤ (l0.length : Int) then (some (l0.take 2000, 0)) else (none)) else (some (l0, 0))
def spec_DrawEntryOk.f (k : Nat) (l0 : List Int) : Option (ByteArray × Int × Int × ByteArray × List ByteArray × (List (S99)) × (List (S101))) := (spec_l1Open.f l0).bind fun bt603 => ((spec_l11Entry.f k bt603.1 bt603.2).bind fun bt606 => (some (bt606.1, bt606.2.1, bt606.2.2.1, bt606.2.2.2.1, bt606.2.2.2.2.1, bt606.2.2.2.2.2.1, bt606.2.2.2.2.2.2.1)))
theorem spec_DrawEntryOk.mono : ∀ a0 k, LeO (spec_DrawEntryOk.f k a0) (spec_DrawEntryOk.f (k + 1) a0) := by
  intro a0 k
  unfold spec_DrawEntryOk.f
  repeat' first
      | (with_reducible first | exact spec_l11Entry.mono _ _ _ | exact LeO.refl _ | exact LeO.none _ | refine LeO.ite ?_ ?_ | refine LeO.bind ?_ (fun _ => ?_))
      | exact spec_l11Entry.mono _ _ _
      | exact LeO.none _
      | refine LeO.ite ?_ ?_
      | refine LeO.bind ?_ (fun _ => ?_)
mutual
def laws_FnEntryOk.j0 : Nat → Bool → Bool → ByteArray → Int → Int → ByteArray → List ByteArray → List (S99) → List (S101) → Option (Bool)
  | 0, _, _, _, _, _, _, _, _, _ => none
  | k + 1, x4, x21, x634000, x634001, x634002, x634003, x634004, x634005, x634006 => if x21 = true then ((spec_EntryOk.f k x634000 x634001 x634002 x634003 x634004 x634005 x634006).bind fun t636 => (some (x4 == t636))) else (if x634002 = 2 then (laws_FnEntryOk.j1 k true x634000 x634001 x634002 x634003 x634004 x634005 x634006 x634000 x634001 (wrap64 ((Int.tmod x634002 5) + 1)) x634003 x634004 x634005 x634006) else (if x634002 = 1 then (laws_FnEntryOk.j1 k (x634003.toList == ([] : List UInt8)) x634000 x634001 x634002 x634003 x634004 x634005 x634006 x634000 x634001 (wrap64 ((Int.tmod x634002 5) + 1)) x634003 x634004 x634005 x634006) else (laws_FnEntryOk.j1 k false x634000 x634001 x634002 x634003 x634004 x634005 x634006 x634000 x634001 (wrap64 ((Int.tmod x634002 5) + 1)) x634003 x634004 x634005 x634006)))
def laws_FnEntryOk.j1 : Nat → Bool → ByteArray → Int → Int → ByteArray → List ByteArray → List (S99) → List (S101) → ByteArray → Int → Int → ByteArray → List ByteArray → List (S99) → List (S101) → Option (Bool)
  | 0, _, _, _, _, _, _, _, _, _, _, _, _, _, _, _ => none
  | k + 1, x44, x634000, x634001, x634002, x634003, x634004, x634005, x634006, x638000, x638001, x638002, x638003, x638004, x638005, x638006 => if x44 = true then (laws_FnEntryOk.j2 k x634000 x634001 x634002 x634003 x634004 x634005 x634006 x638000 x638001 4 x638003 x638004 x638005 x638006) else (laws_FnEntryOk.j2 k x634000 x634001 x634002 x634003 x634004 x634005 x634006 x638000 x638001 x638002 x638003 x638004 x638005 x638006)
def laws_FnEntryOk.j2 : Nat → ByteArray → Int → Int → ByteArray → List ByteArray → List (S99) → List (S101) → ByteArray → Int → Int → ByteArray → List ByteArray → List (S99) → List (S101) → Option (Bool)
  | 0, _, _, _, _, _, _, _, _, _, _, _, _, _, _ => none
  | k + 1, x634000, x634001, x634002, x634003, x634004, x634005, x634006, x638000, x638001, x638002, x638003, x638004, x638005, x638006 => (impl_EntryOk.f k x638000 x638001 x638002 x638003 x638004 x638005 x638006).bind fun t639 => (if t639 = true then (some false) else ((impl_EntryOk.f k x634000 x634001 0 x634003 x634004 x634005 x634006).bind fun t640 => (if t640 = true then (some false) else (if x634002 = 1 then (some true) else (some (decide ((wrap64 ((wrap64 ((x634004.length : Int) + (x634005.length : Int))) + (x634006.length : Int))) > 0)))))))
end
def laws_FnEntryOk.f (k : Nat) (l0 : List Int) : Option (Bool) := if (l0.length : Int) > 1048576 then (some true) else ((spec_DrawEntryOk.f k l0).bind fun bt620 => ((impl_EntryOk.f k bt620.1 bt620.2.1 bt620.2.2.1 bt620.2.2.2.1 bt620.2.2.2.2.1 bt620.2.2.2.2.2.1 bt620.2.2.2.2.2.2).bind fun t634 => ((spec_EntryOk.f k bt620.1 bt620.2.1 bt620.2.2.1 bt620.2.2.2.1 bt620.2.2.2.2.1 bt620.2.2.2.2.2.1 bt620.2.2.2.2.2.2).bind fun t635 => (if (t634 != t635) = true then (laws_FnEntryOk.j0 k t634 true bt620.1 bt620.2.1 bt620.2.2.1 bt620.2.2.2.1 bt620.2.2.2.2.1 bt620.2.2.2.2.2.1 bt620.2.2.2.2.2.2) else (laws_FnEntryOk.j0 k t634 (!t634) bt620.1 bt620.2.1 bt620.2.2.1 bt620.2.2.2.1 bt620.2.2.2.2.1 bt620.2.2.2.2.2.1 bt620.2.2.2.2.2.2)))))
theorem laws_FnEntryOk.mono_l : ∀ k, (∀ y0 y1 y2 y3 y4 y5 y6 y7 y8, LeO (laws_FnEntryOk.j0 k y0 y1 y2 y3 y4 y5 y6 y7 y8) (laws_FnEntryOk.j0 (k + 1) y0 y1 y2 y3 y4 y5 y6 y7 y8)) ∧ (∀ y0 y1 y2 y3 y4 y5 y6 y7 y8 y9 y10 y11 y12 y13 y14, LeO (laws_FnEntryOk.j1 k y0 y1 y2 y3 y4 y5 y6 y7 y8 y9 y10 y11 y12 y13 y14) (laws_FnEntryOk.j1 (k + 1) y0 y1 y2 y3 y4 y5 y6 y7 y8 y9 y10 y11 y12 y13 y14)) ∧ (∀ y0 y1 y2 y3 y4 y5 y6 y7 y8 y9 y10 y11 y12 y13, LeO (laws_FnEntryOk.j2 k y0 y1 y2 y3 y4 y5 y6 y7 y8 y9 y10 y11 y12 y13) (laws_FnEntryOk.j2 (k + 1) y0 y1 y2 y3 y4 y5 y6 y7 y8 y9 y10 y11 y12 y13))
  | 0 => ⟨fun _ _ _ _ _ _ _ _ _ r h => by simp [laws_FnEntryOk.j0] at h, fun _ _ _ _ _ _ _ _ _ _ _ _ _ _ _ r h => by simp [laws_FnEntryOk.j1] at h, fun _ _ _ _ _ _ _ _ _ _ _ _ _ _ r h => by simp [laws_FnEntryOk.j2] at h⟩
  | k + 1 => by
    obtain ⟨ih0, ih1, ih2⟩ := laws_FnEntryOk.mono_l k
    refine ⟨?_, ?_, ?_⟩
    · intro y0 y1 y2 y3 y4 y5 y6 y7 y8
      unfold laws_FnEntryOk.j0
      repeat' first
      | (with_reducible first | exact ih0 _ _ _ _ _ _ _ _ _ | exact ih1 _ _ _ _ _ _ _ _ _ _ _ _ _ _ _ | exact ih2 _ _ _ _ _ _ _ _ _ _ _ _ _ _ | exact impl_EntryOk.mono _ _ _ _ _ _ _ _ | exact spec_DrawEntryOk.mono _ _ | exact spec_EntryOk.mono _ _ _ _ _ _ _ _ | exact LeO.refl _ | exact LeO.none _ | refine LeO.ite ?_ ?_ | refine LeO.bind ?_ (fun _ => ?_))
      | exact ih0 _ _ _ _ _ _ _ _ _
      | exact ih1 _ _ _ _ _ _ _ _ _ _ _ _ _ _ _
      | exact ih2 _ _ _ _ _ _ _ _ _ _ _ _ _ _
      | exact impl_EntryOk.mono _ _ _ _ _ _ _ _
      | exact spec_DrawEntryOk.mono _ _
      | exact spec_EntryOk.mono _ _ _ _ _ _ _ _
      | exact LeO.none _
      | refine LeO.ite ?_ ?_
      | refine LeO.bind ?_ (fun _ => ?_)
    · intro y0 y1 y2 y3 y4 y5 y6 y7 y8 y9 y10 y11 y12 y13 y14
      unfold laws_FnEntryOk.j1
      repeat' first
      | (with_reducible first | exact ih0 _ _ _ _ _ _ _ _ _ | exact ih1 _ _ _ _ _ _ _ _ _ _ _ _ _ _ _ | exact ih2 _ _ _ _ _ _ _ _ _ _ _ _ _ _ | exact impl_EntryOk.mono _ _ _ _ _ _ _ _ | exact spec_DrawEntryOk.mono _ _ | exact spec_EntryOk.mono _ _ _ _ _ _ _ _ | exact LeO.refl _ | exact LeO.none _ | refine LeO.ite ?_ ?_ | refine LeO.bind ?_ (fun _ => ?_))
      | exact ih0 _ _ _ _ _ _ _ _ _
      | exact ih1 _ _ _ _ _ _ _ _ _ _ _ _ _ _ _
      | exact ih2 _ _ _ _ _ _ _ _ _ _ _ _ _ _
      | exact impl_EntryOk.mono _ _ _ _ _ _ _ _
      | exact spec_DrawEntryOk.mono _ _
      | exact spec_EntryOk.mono _ _ _ _ _ _ _ _
      | exact LeO.none _
      | refine LeO.ite ?_ ?_
      | refine LeO.bind ?_ (fun _ => ?_)
    · intro y0 y1 y2 y3 y4 y5 y6 y7 y8 y9 y10 y11 y12 y13
      unfold laws_FnEntryOk.j2
      repeat' first
      | (with_reducible first | exact ih0 _ _ _ _ _ _ _ _ _ | exact ih1 _ _ _ _ _ _ _ _ _ _ _ _ _ _ _ | exact ih2 _ _ _ _ _ _ _ _ _ _ _ _ _ _ | exact impl_EntryOk.mono _ _ _ _ _ _ _ _ | exact spec_DrawEntryOk.mono _ _ | exact spec_EntryOk.mono _ _ _ _ _ _ _ _ | exact LeO.refl _ | exact LeO.none _ | refine LeO.ite ?_ ?_ | refine LeO.bind ?_ (fun _ => ?_))
      | exact ih0 _ _ _ _ _ _ _ _ _
      | exact ih1 _ _ _ _ _ _ _ _ _ _ _ _ _ _ _
      | exact ih2 _ _ _ _ _ _ _ _ _ _ _ _ _ _
      | exact impl_EntryOk.mono _ _ _ _ _ _ _ _
      | exact spec_DrawEntryOk.mono _ _
      | exact spec_EntryOk.mono _ _ _ _ _ _ _ _
      | exact LeO.none _
      | refine LeO.ite ?_ ?_
      | refine LeO.bind ?_ (fun _ => ?_)
theorem laws_FnEntryOk.mono : ∀ a0 k, LeO (laws_FnEntryOk.f k a0) (laws_FnEntryOk.f (k + 1) a0) := by
  intro a0 k
  obtain ⟨ih0, ih1, ih2⟩ := laws_FnEntryOk.mono_l k
  unfold laws_FnEntryOk.f
  repeat' first
      | (with_reducible first | exact ih0 _ _ _ _ _ _ _ _ _ | exact ih1 _ _ _ _ _ _ _ _ _ _ _ _ _ _ _ | exact ih2 _ _ _ _ _ _ _ _ _ _ _ _ _ _ | exact impl_EntryOk.mono _ _ _ _ _ _ _ _ | exact spec_DrawEntryOk.mono _ _ | exact spec_EntryOk.mono _ _ _ _ _ _ _ _ | exact LeO.refl _ | exact LeO.none _ | refine LeO.ite ?_ ?_ | refine LeO.bind ?_ (fun _ => ?_))
      | exact ih0 _ _ _ _ _ _ _ _ _
      | exact ih1 _ _ _ _ _ _ _ _ _ _ _ _ _ _ _
      | exact ih2 _ _ _ _ _ _ _ _ _ _ _ _ _ _
      | exact impl_EntryOk.mono _ _ _ _ _ _ _ _
      | exact spec_DrawEntryOk.mono _ _
      | exact spec_EntryOk.mono _ _ _ _ _ _ _ _
      | exact LeO.none _
      | refine LeO.ite ?_ ?_
      | refine LeO.bind ?_ (fun _ => ?_)
def laws_szEntryS.l0 : Nat → List (S26) → Int → Int → Option (Int)
  | 0, _, _, _ => none
  | k + 1, x0, x1, x5 => if x5 < (x0.length : Int) then (if 0 ≤ x5 then ((laws_szEntry.f k ((rd_T26 x0 x5).f0) ((rd_T26 x0 x5).f1) ((rd_T26 x0 x5).f2) ((rd_T26 x0 x5).f3) ((rd_T26 x0 x5).f4) ((rd_T26 x0 x5).f5) ((rd_T26 x0 x5).f6) x1).bind fun t642 => (if t642 < 0 then (some (-1)) else (laws_szEntryS.l0 k x0 t642 (wrap64 (x5 + 1))))) else (none)) else (some x1)
def laws_szEntryS.f (k : Nat) (l0 : List (S26)) (a1 : Int) : Option (Int) := if (wrap64 (a1 - (l0.length : Int))) < 0 then (some (-1)) else (laws_szEntryS.l0 k l0 (wrap64 (a1 - (l0.length : Int))) 0)
theorem laws_szEntryS.mono_l : ∀ k, (∀ y0 y1 y2, LeO (laws_szEntryS.l0 k y0 y1 y2) (laws_szEntryS.l0 (k + 1) y0 y1 y2))
  | 0 => fun _ _ _ r h => by simp [laws_szEntryS.l0] at h
  | k + 1 => by
    have ih0 := laws_szEntryS.mono_l k
    · intro y0 y1 y2
      unfold laws_szEntryS.l0
      repeat' first
      | (with_reducible first | exact ih0 _ _ _ | exact laws_szEntry.mono _ _ _ _ _ _ _ _ _ | exact LeO.refl _ | exact LeO.none _ | refine LeO.ite ?_ ?_ | refine LeO.bind ?_ (fun _ => ?_))
      | exact ih0 _ _ _
      | exact laws_szEntry.mono _ _ _ _ _ _ _ _ _
      | exact LeO.none _
      | refine LeO.ite ?_ ?_
      | refine LeO.bind ?_ (fun _ => ?_)
theorem laws_szEntryS.mono : ∀ a0 a1 k, LeO (laws_szEntryS.f k a0 a1) (laws_szEntryS.f (k + 1) a0 a1) := by
  intro a0 a1 k
  have ih0 := laws_szEntryS.mono_l k
  unfold laws_szEntryS.f
  repeat' first
      | (with_reducible first | exact ih0 _ _ _ | exact laws_szEntry.mono _ _ _ _ _ _ _ _ _ | exact LeO.refl _ | exact LeO.none _ | refine LeO.ite ?_ ?_ | refine LeO.bind ?_ (fun _ => ?_))
      | exact ih0 _ _ _
      | exact laws_szEntry.mono _ _ _ _ _ _ _ _ _
      | exact LeO.none _
      | refine LeO.ite ?_ ?_
      | refine LeO.bind ?_ (fun _ => ?_)
def laws_szBase.f (k : Nat) (a0_0 : Int) (l0_1 : List (S26)) (a1 : Int) : Option (Int) := (laws_szEntryS.f k l0_1 a1).bind fun t644 => (if t644 < 0 then (some (-1)) else (some t644))
theorem laws_szBase.mono : ∀ a0 a1 a2 k, LeO (laws_szBase.f k a0 a1 a2) (laws_szBase.f (k + 1) a0 a1 a2) := by
  intro a0 a1 a2 k
  unfold laws_szBase.f
  repeat' first
      | (with_reducible first | exact laws_szEntryS.mono _ _ _ | exact LeO.refl _ | exact LeO.none _ | refine LeO.ite ?_ ?_ | refine LeO.bind ?_ (fun _ => ?_))
      | exact laws_szEntryS.mono _ _ _
      | exact LeO.none _
      | refine LeO.ite ?_ ?_
      | refine LeO.bind ?_ (fun _ => ?_)
mutual
def spec_BaseOk.l0 : Nat → Int → Int → List (S32) → Option (Bool)
  | 0, _, _, _ => none
  | k + 1, x3, x646000, x646001 => if x3 < (x646001.length : Int) then (if 0 ≤ x3 then ((spec_EntryOk.f k ((rd_T32 x646001 x3).f0) ((rd_T32 x646001 x3).f1) ((rd_T32 x646001 x3).f2) ((rd_T32 x646001 x3).f3) ((rd_T32 x646001 x3).f4) ((rd_T32 x646001 x3).f5) ((rd_T32 x646001 x3).f6)).bind fun t649 => (if t649 = true then (if ((rd_T32 x646001 x3).f1) = 0 then (if x3 > 0 then (if 0 ≤ (wrap64 (x3 - 1)) then (if (wrap64 (x3 - 1)) < (x646001.length : Int) then (spec_BaseOk.j1 k x3 (!(Op.bytesLess (((rd_T32 x646001 (wrap64 (x3 - 1))).f0).toList) (((rd_T32 x646001 x3).f0).toList))) x646000 x646001) else (none)) else (none)) else (spec_BaseOk.j1 k x3 false x646000 x646001)) else (if ((rd_T32 x646001 x3).f1) ≤ x646000 then (spec_BaseOk.j1 k x3 true x646000 x646001) else (if x3 > 0 then (if 0 ≤ (wrap64 (x3 - 1)) then (if (wrap64 (x3 - 1)) < (x646001.length : Int) then (spec_BaseOk.j1 k x3 (!(Op.bytesLess (((rd_T32 x646001 (wrap64 (x3 - 1))).f0).toList) (((rd_T32 x646001 x3).f0).toList))) x646000 x646001) else (none)) else (none)) else (spec_BaseOk.j1 k x3 false x646000 x646001)))) else (spec_BaseOk.j1 k x3 true x646000 x646001))) else (none)) else ((spec_l1In.f x646000 0 1000000).bind fun t646 => (if t646 = true then (some (decide ((x646001.length : Int) ≤ 12))) else (some false)))
def spec_BaseOk.j1 : Nat → Int → Bool → Int → List (S32) → Option (Bool)
  | 0, _, _, _, _ => none
  | k + 1, x3, x47, x646000, x646001 => if x47 = true then (some false) else (spec_BaseOk.l0 k (wrap64 (x3 + 1)) x646000 x646001)
end
def spec_BaseOk.f (k : Nat) (a0_0 : Int) (l0_1 : List (S32)) : Option (Bool) := spec_BaseOk.l0 k 0 a0_0 l0_1
theorem spec_BaseOk.mono_l : ∀ k, (∀ y0 y1 y2, LeO (spec_BaseOk.l0 k y0 y1 y2) (spec_BaseOk.l0 (k + 1) y0 y1 y2)) ∧ (∀ y0 y1 y2 y3, LeO (spec_BaseOk.j1 k y0 y1 y2 y3) (spec_BaseOk.j1 (k + 1) y0 y1 y2 y3))
  | 0 => ⟨fun _ _ _ r h => by simp [spec_BaseOk.l0] at h, fun _ _ _ _ r h => by simp [spec_BaseOk.j1] at h⟩
  | k + 1 => by
    obtain ⟨ih0, ih1⟩ := spec_BaseOk.mono_l k
    refine ⟨?_, ?_⟩
    · intro y0 y1 y2
      unfold spec_BaseOk.l0
      repeat' first
      | (with_reducible first | exact ih0 _ _ _ | exact ih1 _ _ _ _ | exact spec_EntryOk.mono _ _ _ _ _ _ _ _ | exact LeO.refl _ | exact LeO.none _ | refine LeO.ite ?_ ?_ | refine LeO.bind ?_ (fun _ => ?_))
      | exact ih0 _ _ _
      | exact ih1 _ _ _ _
      | exact spec_EntryOk.mono _ _ _ _ _ _ _ _
      | exact LeO.none _
      | refine LeO.ite ?_ ?_
      | refine LeO.bind ?_ (fun _ => ?_)
    · intro y0 y1 y2 y3
      unfold spec_BaseOk.j1
      repeat' first
      | (with_reducible first | exact ih0 _ _ _ | exact ih1 _ _ _ _ | exact spec_EntryOk.mono _ _ _ _ _ _ _ _ | exact LeO.refl _ | exact LeO.none _ | refine LeO.ite ?_ ?_ | refine LeO.bind ?_ (fun _ => ?_))
      | exact ih0 _ _ _
      | exact ih1 _ _ _ _
      | exact spec_EntryOk.mono _ _ _ _ _ _ _ _
      | exact LeO.none _
      | refine LeO.ite ?_ ?_
      | refine LeO.bind ?_ (fun _ => ?_)
theorem spec_BaseOk.mono : ∀ a0 a1 k, LeO (spec_BaseOk.f k a0 a1) (spec_BaseOk.f (k + 1) a0 a1) := by
  intro a0 a1 k
  obtain ⟨ih0, ih1⟩ := spec_BaseOk.mono_l k
  unfold spec_BaseOk.f
  repeat' first
      | (with_reducible first | exact ih0 _ _ _ | exact ih1 _ _ _ _ | exact spec_EntryOk.mono _ _ _ _ _ _ _ _ | exact LeO.refl _ | exact LeO.none _ | refine LeO.ite ?_ ?_ | refine LeO.bind ?_ (fun _ => ?_))
      | exact ih0 _ _ _
      | exact ih1 _ _ _ _
      | exact spec_EntryOk.mono _ _ _ _ _ _ _ _
      | exact LeO.none _
      | refine LeO.ite ?_ ?_
      | refine LeO.bind ?_ (fun _ => ?_)
def laws_toEntryS.l0 : Nat → List (S26) → List (S32) → Int → Option ((List (S32)))
  | 0, _, _, _ => none
  | k + 1, x0, x3, x4 => if x4 < (x0.length : Int) then (if 0 ≤ x4 then ((laws_toEntry.f k ((rd_T26 x0 x4).f0) ((rd_T26 x0 x4).f1) ((rd_T26 x0 x4).f2) ((rd_T26 x0 x4).f3) ((rd_T26 x0 x4).f4) ((rd_T26 x0 x4).f5) ((rd_T26 x0 x4).f6)).bind fun bt656 => (if x4 < (x3.length : Int) then (laws_toEntryS.l0 k x0 (x3.set (x4 : Int).toNat (⟨bt656.1, bt656.2.1, bt656.2.2.1, bt656.2.2.2.1, bt656.2.2.2.2.1, bt656.2.2.2.2.2.1, bt656.2.2.2.2.2.2⟩ : S32)) (wrap64 (x4 + 1))) else (none))) else (none)) else (some x3)
def laws_toEntryS.f (k : Nat) (l0 : List (S26)) : Option ((List (S32))) := if 0 ≤ (l0.length : Int) then (if ((l0.length : Int) : Int).toNat ≤ 2345624805922 then (laws_toEntryS.l0 k l0 (List.replicate ((l0.length : Int) : Int).toNat z32) 0) else (none)) else (none)
theorem laws_toEntryS.mono_l : ∀ k, (∀ y0 y1 y2, LeO (laws_toEntryS.l0 k y0 y1 y2) (laws_toEntryS.l0 (k + 1) y0 y1 y2))
  | 0 => fun _ _ _ r h => by simp [laws_toEntryS.l0] at h
  | k + 1 => by
    have ih0 := laws_toEntryS.mono_l k
    · intro y0 y1 y2
      unfold laws_toEntryS.l0
      repeat' first
      | (with_reducible first | exact ih0 _ _ _ | exact laws_toEntry.mono _ _ _ _ _ _ _ _ | exact LeO.refl _ | exact LeO.none _ | refine LeO.ite ?_ ?_ | refine LeO.bind ?_ (fun _ => ?_))
      | exact ih0 _ _ _
      | exact laws_toEntry.mono _ _ _ _ _ _ _ _
      | exact LeO.none _
      | refine LeO.ite ?_ ?_
      | refine LeO.bind ?_ (fun _ => ?_)
theorem laws_toEntryS.mono : ∀ a0 k, LeO (laws_toEntryS.f k a0) (laws_toEntryS.f (k + 1) a0) := by
  intro a0 k
  have ih0 := laws_toEntryS.mono_l k
  unfold laws_toEntryS.f
  repeat' first
      | (with_reducible first | exact ih0 _ _ _ | exact laws_toEntry.mono _ _ _ _ _ _ _ _ | exact LeO.refl _ | exact LeO.none _ | refine LeO.ite ?_ ?_ | refine LeO.bind ?_ (fun _ => ?_))
      | exact ih0 _ _ _
      | exact laws_toEntry.mono _ _ _ _ _ _ _ _
      | exact LeO.none _
      | refine LeO.ite ?_ ?_
      | refine LeO.bind ?_ (fun _ => ?_)
def laws_toBase.f (k : Nat) (a0_0 : Int) (l0_1 : List (S26)) : Option (Int × (List (S32))) := (laws_toEntryS.f k l0_1).bind fun t673 => (some (a0_0, t673))
theorem laws_toBase.mono : ∀ a0 a1 k, LeO (laws_toBase.f k a0 a1) (laws_toBase.f (k + 1) a0 a1) := by
  intro a0 a1 k
  unfold laws_toBase.f
  repeat' first
      | (with_reducible first | exact laws_toEntryS.mono _ _ | exact LeO.refl _ | exact LeO.none _ | refine LeO.ite ?_ ?_ | refine LeO.bind ?_ (fun _ => ?_))
      | exact laws_toEntryS.mono _ _
      | exact LeO.none _
      | refine LeO.ite ?_ ?_
      | refine LeO.bind ?_ (fun _ => ?_)
mutual
def impl_BaseOk.j0 : Nat → Bool → Int → List (S32) → Option (Bool)
  | 0, _, _, _ => none
  | k + 1, x14, x677000, x677001 => if x14 = true then (some false) else (impl_BaseOk.l0 k x677001 (x677001.length : Int) 0 x677000 x677001)
def impl_BaseOk.l0 : Nat → List (S32) → Int → Int → Int → List (S32) → Option (Bool)
  | 0, _, _, _, _, _ => none
  | k + 1, x16, x17, x18, x677000, x677001 => if x18 < x17 then (if 0 ≤ x18 then (if x18 < (x16.length : Int) then ((impl_EntryOk.f k ((rd_T32 x16 x18).f0) ((rd_T32 x16 x18).f1) ((rd_T32 x16 x18).f2) ((rd_T32 x16 x18).f3) ((rd_T32 x16 x18).f4) ((rd_T32 x16 x18).f5) ((rd_T32 x16 x18).f6)).bind fun t680 => (if t680 = true then (if x18 > 0 then (if 0 ≤ (wrap64 (x18 - 1)) then (if (wrap64 (x18 - 1)) < (x677001.length : Int) then (if ((Op.bytesLess (((rd_T32 x677001 (wrap64 (x18 - 1))).f0).toList) (((rd_T32 x16 x18).f0).toList)) = true) then (if ((rd_T32 x16 x18).f1) = 0 then (impl_BaseOk.j2 k x16 x17 x18 false x677000 x677001) else (impl_BaseOk.j2 k x16 x17 x18 (decide (((rd_T32 x16 x18).f1) ≤ x677000)) x677000 x677001)) else (impl_BaseOk.j2 k x16 x17 x18 true x677000 x677001)) else (none)) else (none)) else (if ((rd_T32 x16 x18).f1) = 0 then (impl_BaseOk.j2 k x16 x17 x18 false x677000 x677001) else (impl_BaseOk.j2 k x16 x17 x18 (decide (((rd_T32 x16 x18).f1) ≤ x677000)) x677000 x677001))) else (impl_BaseOk.j2 k x16 x17 x18 true x677000 x677001))) else (none)) else (none)) else (some true)
def impl_BaseOk.j2 : Nat → List (S32) → Int → Int → Bool → Int → List (S32) → Option (Bool)
  | 0, _, _, _, _, _, _ => none
  | k + 1, x16, x17, x18, x53, x677000, x677001 => if x53 = true then (some false) else (impl_BaseOk.l0 k x16 x17 (wrap64 (x18 + 1)) x677000 x677001)
end
def impl_BaseOk.f (k : Nat) (a0_0 : Int) (l0_1 : List (S32)) : Option (Bool) := (impl_within.f a0_0 0 1000000).bind fun t677 => (if t677 = true then (impl_BaseOk.j0 k (decide ((l0_1.length : Int) > 12)) a0_0 l0_1) else (impl_BaseOk.j0 k true a0_0 l0_1))
theorem impl_BaseOk.mono_l : ∀ k, (∀ y0 y1 y2, LeO (impl_BaseOk.j0 k y0 y1 y2) (impl_BaseOk.j0 (k + 1) y0 y1 y2)) ∧ (∀ y0 y1 y2 y3 y4, LeO (impl_BaseOk.l0 k y0 y1 y2 y3 y4) (impl_BaseOk.l0 (k + 1) y0 y1 y2 y3 y4)) ∧ (∀ y0 y1 y2 y3 y4 y5, LeO (impl_BaseOk.j2 k y0 y1 y2 y3 y4 y5) (impl_BaseOk.j2 (k + 1) y0 y1 y2 y3 y4 y5))
  | 0 => ⟨fun _ _ _ r h => by simp [impl_BaseOk.j0] at h, fun _ _ _ _ _ r h => by simp [impl_BaseOk.l0] at h, fun _ _ _ _ _ _ r h => by simp [impl_BaseOk.j2] at h⟩
  | k + 1 => by
    obtain ⟨ih0, ih1, ih2⟩ := impl_BaseOk.mono_l k
    refine ⟨?_, ?_, ?_⟩
    · intro y0 y1 y2
      unfold impl_BaseOk.j0
      repeat' first
      | (with_reducible first | exact ih0 _ _ _ | exact ih1 _ _ _ _ _ | exact ih2 _ _ _ _ _ _ | exact impl_EntryOk.mono _ _ _ _ _ _ _ _ | exact LeO.refl _ | exact LeO.none _ | refine LeO.ite ?_ ?_ | refine LeO.bind ?_ (fun _ => ?_))
      | exact ih0 _ _ _
      | exact ih1 _ _ _ _ _
      | exact ih2 _ _ _ _ _ _
      | exact impl_EntryOk.mono _ _ _ _ _ _ _ _
      | exact LeO.none _
      | refine LeO.ite ?_ ?_
      | refine LeO.bind ?_ (fun _ => ?_)
    · intro y0 y1 y2 y3 y4
      unfold impl_BaseOk.l0
      repeat' first
      | (with_reducible first | exact ih0 _ _ _ | exact ih1 _ _ _ _ _ | exact ih2 _ _ _ _ _ _ | exact impl_EntryOk.mono _ _ _ _ _ _ _ _ | exact LeO.refl _ | exact LeO.none _ | refine LeO.ite ?_ ?_ | refine LeO.bind ?_ (fun _ => ?_))
      | exact ih0 _ _ _
      | exact ih1 _ _ _ _ _
      | exact ih2 _ _ _ _ _ _
      | exact impl_EntryOk.mono _ _ _ _ _ _ _ _
      | exact LeO.none _
      | refine LeO.ite ?_ ?_
      | refine LeO.bind ?_ (fun _ => ?_)
    · intro y0 y1 y2 y3 y4 y5
      unfold impl_BaseOk.j2
      repeat' first
      | (with_reducible first | exact ih0 _ _ _ | exact ih1 _ _ _ _ _ | exact ih2 _ _ _ _ _ _ | exact impl_EntryOk.mono _ _ _ _ _ _ _ _ | exact LeO.refl _ | exact LeO.none _ | refine LeO.ite ?_ ?_ | refine LeO.bind ?_ (fun _ => ?_))
      | exact ih0 _ _ _
      | exact ih1 _ _ _ _ _
      | exact ih2 _ _ _ _ _ _
      | exact impl_EntryOk.mono _ _ _ _ _ _ _ _
      | exact LeO.none _
      | refine LeO.ite ?_ ?_
      | refine LeO.bind ?_ (fun _ => ?_)
theorem impl_BaseOk.mono : ∀ a0 a1 k, LeO (impl_BaseOk.f k a0 a1) (impl_BaseOk.f (k + 1) a0 a1) := by
  intro a0 a1 k
  obtain ⟨ih0, ih1, ih2⟩ := impl_BaseOk.mono_l k
  unfold impl_BaseOk.f
  repeat' first
      | (with_reducible first | exact ih0 _ _ _ | exact ih1 _ _ _ _ _ | exact ih2 _ _ _ _ _ _ | exact impl_EntryOk.mono _ _ _ _ _ _ _ _ | exact LeO.refl _ | exact LeO.none _ | refine LeO.ite ?_ ?_ | refine LeO.bind ?_ (fun _ => ?_))
      | exact ih0 _ _ _
      | exact ih1 _ _ _ _ _
      | exact ih2 _ _ _ _ _ _
      | exact impl_EntryOk.mono _ _ _ _ _ _ _ _
      | exact LeO.none _
      | refine LeO.ite ?_ ?_
      | refine LeO.bind ?_ (fun _ => ?_)
def laws_eqEntryS.l0 : Nat → List (S32) → List (S32) → Int → Option (Bool)
  | 0, _, _, _ => none
  | k + 1, x0, x1, x5 => if x5 < (x0.length : Int) then (if 0 ≤ x5 then (if x5 < (x1.length : Int) then ((laws_eqEntry.f k ((rd_T32 x0 x5).f0) ((rd_T32 x0 x5).f1) ((rd_T32 x0 x5).f2) ((rd_T32 x0 x5).f3) ((rd_T32 x0 x5).f4) ((rd_T32 x0 x5).f5) ((rd_T32 x0 x5).f6) ((rd_T32 x1 x5).f0) ((rd_T32 x1 x5).f1) ((rd_T32 x1 x5).f2) ((rd_T32 x1 x5).f3) ((rd_T32 x1 x5).f4) ((rd_T32 x1 x5).f5) ((rd_T32 x1 x5).f6)).bind fun t684 => (if t684 = true then (laws_eqEntryS.l0 k x0 x1 (wrap64 (x5 + 1))) else (some false))) else (none)) else (none)) else (some true)
def laws_eqEntryS.f (k : Nat) (l0 : List (S32)) (l1 : List (S32)) : Option (Bool) := if (l0.length : Int) = (l1.length : Int) then (laws_eqEntryS.l0 k l0 l1 0) else (some false)
theorem laws_eqEntryS.mono_l : ∀ k, (∀ y0 y1 y2, LeO (laws_eqEntryS.l0 k y0 y1 y2) (laws_eqEntryS.l0 (k + 1) y0 y1 y2))
  | 0 => fun _ _ _ r h => by simp [laws_eqEntryS.l0] at h
  | k + 1 => by
    have ih0 := laws_eqEntryS.mono_l k
    · intro y0 y1 y2
      unfold laws_eqEntryS.l0
      repeat' first
      | (with_reducible first | exact ih0 _ _ _ | exact laws_eqEntry.mono _ _ _ _ _ _ _ _ _ _ _ _ _ _ _ | exact LeO.refl _ | exact LeO.none _ | refine LeO.ite ?_ ?_ | refine LeO.bind ?_ (fun _ => ?_))
      | exact ih0 _ _ _
      | exact laws_eqEntry.mono _ _ _ _ _ _ _ _ _ _ _ _ _ _ _
      | exact LeO.none _
      | refine LeO.ite ?_ ?_
      | refine LeO.bind ?_ (fun _ => ?_)
theorem laws_eqEntryS.mono : ∀ a0 a1 k, LeO (laws_eqEntryS.f k a0 a1) (laws_eqEntryS.f (k + 1) a0 a1) := by
  intro a0 a1 k
  have ih0 := laws_eqEntryS.mono_l k
  unfold laws_eqEntryS.f
  repeat' first
      | (with_reducible first | exact ih0 _ _ _ | exact laws_eqEntry.mono _ _ _ _ _ _ _ _ _ _ _ _ _ _ _ | exact LeO.refl _ | exact LeO.none _ | refine LeO.ite ?_ ?_ | refine LeO.bind ?_ (fun _ => ?_))
      | exact ih0 _ _ _
      | exact laws_eqEntry.mono _ _ _ _ _ _ _ _ _ _ _ _ _ _ _
      | exact LeO.none _
      | refine LeO.ite ?_ ?_
      | refine LeO.bind ?_ (fun _ => ?_)
def laws_eqBase.f (k : Nat) (a0_0 : Int) (l0_1 : List (S32)) (a1_0 : Int) (l1_1 : List (S32)) : Option (Bool) := if a0_0 = a1_0 then ((laws_eqEntryS.f k l0_1 l1_1).bind fun t687 => (if t687 = true then (some true) else (some false))) else (some false)
theorem laws_eqBase.mono : ∀ a0 a1 a2 a3 k, LeO (laws_eqBase.f k a0 a1 a2 a3) (laws_eqBase.f (k + 1) a0 a1 a2 a3) := by
  intro a0 a1 a2 a3 k
  unfold laws_eqBase.f
  repeat' first
      | (with_reducible first | exact laws_eqEntryS.mono _ _ _ | exact LeO.refl _ | exact LeO.none _ | refine LeO.ite ?_ ?_ | refine LeO.bind ?_ (fun _ => ?_))
      | exact laws_eqEntryS.mono _ _ _
      | exact LeO.none _
      | refine LeO.ite ?_ ?_
      | refine LeO.bind ?_ (fun _ => ?_)
def laws_FnExactBaseOk.f (k : Nat) (a0_0 : Int) (l0_1 : List (S26)) : Option (Bool) := (laws_szBase.f k a0_0 l0_1 1048576).bind fun t689 => (if t689 < 0 then (some true) else ((laws_toBase.f k a0_0 l0_1).bind fun bt690 => ((spec_BaseOk.f k bt690.1 bt690.2).bind fun t694 => ((laws_toBase.f k a0_0 l0_1).bind fun bt695 => ((impl_BaseOk.f k bt695.1 bt695.2).bind fun t700 => (if (t700 != t694) = true then (some false) else ((laws_toBase.f k a0_0 l0_1).bind fun bt701 => ((laws_eqBase.f k bt695.1 bt695.2 bt701.1 bt701.2).bind fun t705 => (if t705 = true then (some true) else (some false))))))))))
theorem laws_FnExactBaseOk.mono : ∀ a0 a1 k, LeO (laws_FnExactBaseOk.f k a0 a1) (laws_FnExactBaseOk.f (k + 1) a0 a1) := by
  intro a0 a1 k
  unfold laws_FnExactBaseOk.f
  repeat' first
      | (with_reducible first | exact impl_BaseOk.mono _ _ _ | exact laws_eqBase.mono _ _ _ _ _ | exact laws_szBase.mono _ _ _ _ | exact laws_toBase.mono _ _ _ | exact spec_BaseOk.mono _ _ _ | exact LeO.refl _ | exact LeO.none _ | refine LeO.ite ?_ ?_ | refine LeO.bind ?_ (fun _ => ?_))
      | exact impl_BaseOk.mono _ _ _
      | exact laws_eqBase.mono _ _ _ _ _
      | exact laws_szBase.mono _ _ _ _
      | exact laws_toBase.mono _ _ _
      | exact spec_BaseOk.mono _ _ _
      | exact LeO.none _
      | refine LeO.ite ?_ ?_
      | refine LeO.bind ?_ (fun _ => ?_)
def spec_Match.f : Nat → ByteArray → ByteArray → Option (Bool)
  | 0, _, _ => none
  | k + 1, a0, a1 => if a0.toList = ([] : List UInt8) then (some (a1.toList == ([] : List UInt8))) else (if 0 < (a0.size : Int) then (if (bt a0 0) = 42 then (if 1 ≤ (a0.size : Int) then ((spec_Match.f k (a0.extract 1 a0.size) a1).bind fun t706 => (if t706 = true then (some true) else (if a1.toList = ([] : List UInt8) then (some false) else (if 1 ≤ (a1.size : Int) then ((spec_Match.f k a0 (a1.extract 1 a1.size)).bind fun t707 => (some t707)) else (none))))) else (none)) else (if a1.toList = ([] : List UInt8) then (some false) else (if (bt a0 0) = 63 then (if 1 ≤ (a0.size : Int) then (if 1 ≤ (a1.size : Int) then ((spec_Match.f k (a0.extract 1 a0.size) (a1.extract 1 a1.size)).bind fun t708 => (some t708)) else (none)) else (none)) else (if 0 < (a1.size : Int) then (if (bt a0 0) = (bt a1 0) then (if 1 ≤ (a0.size : Int) then (if 1 ≤ (a1.size : Int) then ((spec_Match.f k (a0.extract 1 a0.size) (a1.extract 1 a1.size)).bind fun t709 => (some t709)) else (none)) else (none)) else (some false)) else (none))))) else (none))
theorem spec_Match.mono_l : ∀ k, (∀ y0 y1, LeO (spec_Match.f k y0 y1) (spec_Match.f (k + 1) y0 y1))
  | 0 => fun _ _ r h => by simp [spec_Match.f] at h
  | k + 1 => by
    have ih0 := spec_Match.mono_l k
    · intro y0 y1
      unfold spec_Match.f
      repeat' first
      | (with_reducible first | exact ih0 _ _ | exact LeO.refl _ | exact LeO.none _ | refine LeO.ite ?_ ?_ | refine LeO.bind ?_ (fun _ => ?_))
      | exact ih0 _ _
      | exact LeO.none _
      | refine LeO.ite ?_ ?_
      | refine LeO.bind ?_ (fun _ => ?_)
theorem spec_Match.mono : ∀ a0 a1 k, LeO (spec_Match.f k a0 a1) (spec_Match.f (k + 1) a0 a1) := by
  intro a0 a1 k
  have ih0 := spec_Match.mono_l k
  exact ih0 a0 a1
mutual
def spec_BaseKeys.l0 : Nat → ByteArray → List ByteArray → Int → Int → List (S32) → Option (List ByteArray)
  | 0, _, _, _, _, _ => none
  | k + 1, x1, x5, x6, x711000, x711001 => if x6 < (x711001.length : Int) then ((spec_BaseOk.f k x711000 x711001).bind fun t714 => (if t714 = true then (spec_BaseKeys.j1 k x1 x5 x6 (decide ((x1.size : Int) ≤ 12)) x711000 x711001) else (spec_BaseKeys.j1 k x1 x5 x6 false x711000 x711001))) else (spec_BaseKeys.j1 k x1 x5 x6 false x711000 x711001)
def spec_BaseKeys.j1 : Nat → ByteArray → List ByteArray → Int → Bool → Int → List (S32) → Option (List ByteArray)
  | 0, _, _, _, _, _, _ => none
  | k + 1, x1, x5, x6, x21, x711000, x711001 => if x21 = true then (if 0 ≤ x6 then (if x6 < (x711001.length : Int) then ((spec_Match.f k x1 ((rd_T32 x711001 x6).f0)).bind fun t716 => (if t716 = true then (if x5.length < 8796093022208 then (spec_BaseKeys.l0 k x1 (x5 ++ [(rd_T32 x711001 x6).f0]) (wrap64 (x6 + 1)) x711000 x711001) else (none)) else (spec_BaseKeys.l0 k x1 x5 (wrap64 (x6 + 1)) x711000 x711001))) else (none)) else (none)) else (some x5)
end
def spec_BaseKeys.f (k : Nat) (a0_0 : Int) (l0_1 : List (S32)) (a1 : ByteArray) : Option (List ByteArray) := spec_BaseKeys.l0 k a1 (([] : List ByteArray)) 0 a0_0 l0_1
theorem spec_BaseKeys.mono_l : ∀ k, (∀ y0 y1 y2 y3 y4, LeO (spec_BaseKeys.l0 k y0 y1 y2 y3 y4) (spec_BaseKeys.l0 (k + 1) y0 y1 y2 y3 y4)) ∧ (∀ y0 y1 y2 y3 y4 y5, LeO (spec_BaseKeys.j1 k y0 y1 y2 y3 y4 y5) (spec_BaseKeys.j1 (k + 1) y0 y1 y2 y3 y4 y5))
  | 0 => ⟨fun _ _ _ _ _ r h => by simp [spec_BaseKeys.l0] at h, fun _ _ _ _ _ _ r h => by simp [spec_BaseKeys.j1] at h⟩
  | k + 1 => by
    obtain ⟨ih0, ih1⟩ := spec_BaseKeys.mono_l k
    refine ⟨?_, ?_⟩
    · intro y0 y1 y2 y3 y4
      unfold spec_BaseKeys.l0
      repeat' first
      | (with_reducible first | exact ih0 _ _ _ _ _ | exact ih1 _ _ _ _ _ _ | exact spec_BaseOk.mono _ _ _ | exact spec_Match.mono _ _ _ | exact LeO.refl _ | exact LeO.none _ | refine LeO.ite ?_ ?_ | refine LeO.bind ?_ (fun _ => ?_))
      | exact ih0 _ _ _ _ _
      | exact ih1 _ _ _ _ _ _
      | exact spec_BaseOk.mono _ _ _
      | exact spec_Match.mono _ _ _
      | exact LeO.none _
      | refine LeO.ite ?_ ?_
      | refine LeO.bind ?_ (fun _ => ?_)
    · intro y0 y1 y2 y3 y4 y5
      unfold spec_BaseKeys.j1
      repeat' first
      | (with_reducible first | exact ih0 _ _ _ _ _ | exact ih1 _ _ _ _ _ _ | exact spec_BaseOk.mono _ _ _ | exact spec_Match.mono _ _ _ | exact LeO.refl _ | exact LeO.none _ | refine LeO.ite ?_ ?_ | refine LeO.bind ?_ (fun _ => ?_))
      | exact ih0 _ _ _ _ _
      | exact ih1 _ _ _ _ _ _
      | exact spec_BaseOk.mono _ _ _
      | exact spec_Match.mono _ _ _
      | exact LeO.none _
      | refine LeO.ite ?_ ?_
      | refine LeO.bind ?_ (fun _ => ?_)
theorem spec_BaseKeys.mono : ∀ a0 a1 a2 k, LeO (spec_BaseKeys.f k a0 a1 a2) (spec_BaseKeys.f (k + 1) a0 a1 a2) := by
  intro a0 a1 a2 k
  obtain ⟨ih0, ih1⟩ := spec_BaseKeys.mono_l k
  unfold spec_BaseKeys.f
  repeat' first
      | (with_reducible first | exact ih0 _ _ _ _ _ | exact ih1 _ _ _ _ _ _ | exact spec_BaseOk.mono _ _ _ | exact spec_Match.mono _ _ _ | exact LeO.refl _ | exact LeO.none _ | refine LeO.ite ?_ ?_ | refine LeO.bind ?_ (fun _ => ?_))
      | exact ih0 _ _ _ _ _
      | exact ih1 _ _ _ _ _ _
      | exact spec_BaseOk.mono _ _ _
      | exact spec_Match.mono _ _ _
      | exact LeO.none _
      | refine LeO.ite ?_ ?_
      | refine LeO.bind ?_ (fun _ => ?_)
mutual
def impl_Match.l0 : Nat → ByteArray → ByteArray → List Bool → Int → Int → Option (Bool)
  | 0, _, _, _, _, _ => none
  | k + 1, x0, x1, x5, x16, x17 => if x17 < x16 then (if 0 ≤ (wrap64 ((x1.size : Int) + 1)) then (if (wrap64 ((x1.size : Int) + 1) : Int).toNat ≤ 281474976710656 then (impl_Match.l1 k x0 x1 x5 x17 (List.replicate (wrap64 ((x1.size : Int) + 1) : Int).toNat false) x16 x17 (x5.length : Int) 0) else (none)) else (none)) else (if 0 ≤ (x1.size : Int) then (if (x1.size : Int) < (x5.length : Int) then (some (rdOf false x5 (x1.size : Int))) else (none)) else (none))
def impl_Match.l1 : Nat → ByteArray → ByteArray → List Bool → Int → List Bool → Int → Int → Int → Int → Option (Bool)
  | 0, _, _, _, _, _, _, _, _, _ => none
  | k + 1, x0, x1, x5, x6, x7, x16, x17, x25, x26 => if x26 < x25 then (if 0 ≤ x6 then (if x6 < (x0.size : Int) then (if (bt x0 x6) = 42 then (if 0 ≤ x26 then (if x26 < (x5.length : Int) then (if rdOf false x5 x26 = true then (if x26 < (x7.length : Int) then (impl_Match.l1 k x0 x1 x5 x6 (x7.set (x26 : Int).toNat true) x16 x17 x25 (wrap64 (x26 + 1))) else (none)) else (if x26 > 0 then (if 0 ≤ (wrap64 (x26 - 1)) then (if (wrap64 (x26 - 1)) < (x7.length : Int) then (if x26 < (x7.length : Int) then (impl_Match.l1 k x0 x1 x5 x6 (x7.set (x26 : Int).toNat (rdOf false x7 (wrap64 (x26 - 1)))) x16 x17 x25 (wrap64 (x26 + 1))) else (none)) else (none)) else (none)) else (if x26 < (x7.length : Int) then (impl_Match.l1 k x0 x1 x5 x6 (x7.set (x26 : Int).toNat false) x16 x17 x25 (wrap64 (x26 + 1))) else (none)))) else (none)) else (none)) else (if x26 > 0 then (if (bt x0 x6) = 63 then (if 0 ≤ (wrap64 (x26 - 1)) then (if (wrap64 (x26 - 1)) < (x5.length : Int) then (if 0 ≤ x26 then (if x26 < (x7.length : Int) then (impl_Match.l1 k x0 x1 x5 x6 (x7.set (x26 : Int).toNat (rdOf false x5 (wrap64 (x26 - 1)))) x16 x17 x25 (wrap64 (x26 + 1))) else (none)) else (none)) else (none)) else (none)) else (if 0 ≤ (wrap64 (x26 - 1)) then (if (wrap64 (x26 - 1)) < (x1.size : Int) then (if (bt x0 x6) = (bt x1 (wrap64 (x26 - 1))) then (if (wrap64 (x26 - 1)) < (x5.length : Int) then (if 0 ≤ x26 then (if x26 < (x7.length : Int) then (impl_Match.l1 k x0 x1 x5 x6 (x7.set (x26 : Int).toNat (rdOf false x5 (wrap64 (x26 - 1)))) x16 x17 x25 (wrap64 (x26 + 1))) else (none)) else (none)) else (none)) else (impl_Match.l1 k x0 x1 x5 x6 x7 x16 x17 x25 (wrap64 (x26 + 1)))) else (none)) else (none))) else (impl_Match.l1 k x0 x1 x5 x6 x7 x16 x17 x25 (wrap64 (x26 + 1))))) else (none)) else (none)) else (impl_Match.l0 k x0 x1 x7 x16 (wrap64 (x17 + 1)))
end
def impl_Match.f (k : Nat) (a0 : ByteArray) (a1 : ByteArray) : Option (Bool) := if 0 ≤ (wrap64 ((a1.size : Int) + 1)) then (if (wrap64 ((a1.size : Int) + 1) : Int).toNat ≤ 281474976710656 then ((some (List.replicate (wrap64 ((a1.size : Int) + 1) : Int).toNat false : List Bool)).bind fun y721 => (if 0 < (y721.length : Int) then (impl_Match.l0 k a0 a1 (y721.set (0 : Int).toNat true) (a0.size : Int) 0) else (none))) else (none)) else (none)
theorem impl_Match.mono_l : ∀ k, (∀ y0 y1 y2 y3 y4, LeO (impl_Match.l0 k y0 y1 y2 y3 y4) (impl_Match.l0 (k + 1) y0 y1 y2 y3 y4)) ∧ (∀ y0 y1 y2 y3 y4 y5 y6 y7 y8, LeO (impl_Match.l1 k y0 y1 y2 y3 y4 y5 y6 y7 y8) (impl_Match.l1 (k + 1) y0 y1 y2 y3 y4 y5 y6 y7 y8))
  | 0 => ⟨fun _ _ _ _ _ r h => by simp [impl_Match.l0] at h, fun _ _ _ _ _ _ _ _ _ r h => by simp [impl_Match.l1] at h⟩
  | k + 1 => by
    obtain ⟨ih0, ih1⟩ := impl_Match.mono_l k
    refine ⟨?_, ?_⟩
    · intro y0 y1 y2 y3 y4
      unfold impl_Match.l0
      repeat' first
      | (with_reducible first | exact ih0 _ _ _ _ _ | exact ih1 _ _ _ _ _ _ _ _ _ | exact LeO.refl _ | exact LeO.none _ | refine LeO.ite ?_ ?_ | refine LeO.bind ?_ (fun _ => ?_))
      | exact ih0 _ _ _ _ _
      | exact ih1 _ _ _ _ _ _ _ _ _
      | exact LeO.none _
      | refine LeO.ite ?_ ?_
      | refine LeO.bind ?_ (fun _ => ?_)
    · intro y0 y1 y2 y3 y4 y5 y6 y7 y8
      unfold impl_Match.l1
      repeat' first
      | (with_reducible first | exact ih0 _ _ _ _ _ | exact ih1 _ _ _ _ _ _ _ _ _ | exact LeO.refl _ | exact LeO.none _ | refine LeO.ite ?_ ?_ | refine LeO.bind ?_ (fun _ => ?_))
      | exact ih0 _ _ _ _ _
      | exact ih1 _ _ _ _ _ _ _ _ _
      | exact LeO.none _
      | refine LeO.ite ?_ ?_
      | refine LeO.bind ?_ (fun _ => ?_)
theorem impl_Match.mono : ∀ a0 a1 k, LeO (impl_Match.f k a0 a1) (impl_Match.f (k + 1) a0 a1) := by
  intro a0 a1 k
  obtain ⟨ih0, ih1⟩ := impl_Match.mono_l k
  unfold impl_Match.f
  repeat' first
      | (with_reducible first | exact ih0 _ _ _ _ _ | exact ih1 _ _ _ _ _ _ _ _ _ | exact LeO.refl _ | exact LeO.none _ | refine LeO.ite ?_ ?_ | refine LeO.bind ?_ (fun _ => ?_))
      | exact ih0 _ _ _ _ _
      | exact ih1 _ _ _ _ _ _ _ _ _
      | exact LeO.none _
      | refine LeO.ite ?_ ?_
      | refine LeO.bind ?_ (fun _ => ?_)
mutual
def impl_BaseKeys.j0 : Nat → ByteArray → List ByteArray → Bool → Int → List (S32) → Option (List ByteArray)
  | 0, _, _, _, _, _ => none
  | k + 1, x1, x5, x16, x739000, x739001 => if x16 = true then (some x5) else (impl_BaseKeys.l0 k x1 x5 x739001 (x739001.length : Int) 0)
def impl_BaseKeys.l0 : Nat → ByteArray → List ByteArray → List (S32) → Int → Int → Option (List ByteArray)
  | 0, _, _, _, _, _ => none
  | k + 1, x1, x5, x19, x20, x21 => if x21 < x20 then (if 0 ≤ x21 then (if x21 < (x19.length : Int) then ((impl_Match.f k x1 ((rd_T32 x19 x21).f0)).bind fun t745 => (if t745 = true then (if x5.length < 8796093022208 then (impl_BaseKeys.l0 k x1 (x5 ++ [(rd_T32 x19 x21).f0]) x19 x20 (wrap64 (x21 + 1))) else (none)) else (impl_BaseKeys.l0 k x1 x5 x19 x20 (wrap64 (x21 + 1))))) else (none)) else (none)) else (some x5)
end
def impl_BaseKeys.f (k : Nat) (a0_0 : Int) (l0_1 : List (S32)) (a1 : ByteArray) : Option (List ByteArray) := (some (([] : List ByteArray) : List ByteArray)).bind fun y739 => ((impl_BaseOk.f k a0_0 l0_1).bind fun t742 => (if t742 = true then (impl_BaseKeys.j0 k a1 y739 (decide ((a1.size : Int) > 12)) a0_0 l0_1) else (impl_BaseKeys.j0 k a1 y739 true a0_0 l0_1)))
theorem impl_BaseKeys.mono_l : ∀ k, (∀ y0 y1 y2 y3 y4, LeO (impl_BaseKeys.j0 k y0 y1 y2 y3 y4) (impl_BaseKeys.j0 (k + 1) y0 y1 y2 y3 y4)) ∧ (∀ y0 y1 y2 y3 y4, LeO (impl_BaseKeys.l0 k y0 y1 y2 y3 y4) (impl_BaseKeys.l0 (k + 1) y0 y1 y2 y3 y4))
  | 0 => ⟨fun _ _ _ _ _ r h => by simp [impl_BaseKeys.j0] at h, fun _ _ _ _ _ r h => by simp [impl_BaseKeys.l0] at h⟩
  | k + 1 => by
    obtain ⟨ih0, ih1⟩ := impl_BaseKeys.mono_l k
    refine ⟨?_, ?_⟩
    · intro y0 y1 y2 y3 y4
      unfold impl_BaseKeys.j0
      repeat' first
      | (with_reducible first | exact ih0 _ _ _ _ _ | exact ih1 _ _ _ _ _ | exact impl_BaseOk.mono _ _ _ | exact impl_Match.mono _ _ _ | exact LeO.refl _ | exact LeO.none _ | refine LeO.ite ?_ ?_ | refine LeO.bind ?_ (fun _ => ?_))
      | exact ih0 _ _ _ _ _
      | exact ih1 _ _ _ _ _
      | exact impl_BaseOk.mono _ _ _
      | exact impl_Match.mono _ _ _
      | exact LeO.none _
      | refine LeO.ite ?_ ?_
      | refine LeO.bind ?_ (fun _ => ?_)
    · intro y0 y1 y2 y3 y4
      unfold impl_BaseKeys.l0
      repeat' first
      | (with_reducible first | exact ih0 _ _ _ _ _ | exact ih1 _ _ _ _ _ | exact impl_BaseOk.mono _ _ _ | exact impl_Match.mono _ _ _ | exact LeO.refl _ | exact LeO.none _ | refine LeO.ite ?_ ?_ | refine LeO.bind ?_ (fun _ => ?_))
      | exact ih0 _ _ _ _ _
      | exact ih1 _ _ _ _ _
      | exact impl_BaseOk.mono _ _ _
      | exact impl_Match.mono _ _ _
      | exact LeO.none _
      | refine LeO.ite ?_ ?_
      | refine LeO.bind ?_ (fun _ => ?_)
theorem impl_BaseKeys.mono : ∀ a0 a1 a2 k, LeO (impl_BaseKeys.f k a0 a1 a2) (impl_BaseKeys.f (k + 1) a0 a1 a2) := by
  intro a0 a1 a2 k
  obtain ⟨ih0, ih1⟩ := impl_BaseKeys.mono_l k
  unfold impl_BaseKeys.f
  repeat' first
      | (with_reducible first | exact ih0 _ _ _ _ _ | exact ih1 _ _ _ _ _ | exact impl_BaseOk.mono _ _ _ | exact impl_Match.mono _ _ _ | exact LeO.refl _ | exact LeO.none _ | refine LeO.ite ?_ ?_ | refine LeO.bind ?_ (fun _ => ?_))
      | exact ih0 _ _ _ _ _
      | exact ih1 _ _ _ _ _
      | exact impl_BaseOk.mono _ _ _
      | exact impl_Match.mono _ _ _
      | exact LeO.none _
      | refine LeO.ite ?_ ?_
      | refine LeO.bind ?_ (fun _ => ?_)
def laws_markText.l0 : Nat → Int → ByteArray → Option (ByteArray)
  | 0, _, _ => none
  | k + 1, x0, x3 => if x0 > 0 then ((some (([(wrap64 (48 + (Int.tmod x0 10))) % 256] : List Int) : List Int)).bind fun y749 => (if (strOfNums y749).size + x3.size ≤ 9223372036854775807 then (laws_markText.l0 k (wrap64 (Int.tdiv x0 10)) ((strOfNums y749) ++ x3)) else (none))) else (if 1 + x3.size ≤ 9223372036854775807 then (some ((⟨#[109]⟩ : ByteArray) ++ x3)) else (none))
def laws_markText.f (k : Nat) (a0 : Int) : Option (ByteArray) := if a0 ≤ 0 then (some (⟨#[109, 48]⟩ : ByteArray)) else (laws_markText.l0 k a0 (⟨#[]⟩ : ByteArray))
theorem laws_markText.mono_l : ∀ k, (∀ y0 y1, LeO (laws_markText.l0 k y0 y1) (laws_markText.l0 (k + 1) y0 y1))
  | 0 => fun _ _ r h => by simp [laws_markText.l0] at h
  | k + 1 => by
    have ih0 := laws_markText.mono_l k
    · intro y0 y1
      unfold laws_markText.l0
      repeat' first
      | (with_reducible first | exact ih0 _ _ | exact LeO.refl _ | exact LeO.none _ | refine LeO.ite ?_ ?_ | refine LeO.bind ?_ (fun _ => ?_))
      | exact ih0 _ _
      | exact LeO.none _
      | refine LeO.ite ?_ ?_
      | refine LeO.bind ?_ (fun _ => ?_)
theorem laws_markText.mono : ∀ a0 k, LeO (laws_markText.f k a0) (laws_markText.f (k + 1) a0) := by
  intro a0 k
  have ih0 := laws_markText.mono_l k
  unfold laws_markText.f
  repeat' first
      | (with_reducible first | exact ih0 _ _ | exact LeO.refl _ | exact LeO.none _ | refine LeO.ite ?_ ?_ | refine LeO.bind ?_ (fun _ => ?_))
      | exact ih0 _ _
      | exact LeO.none _
      | refine LeO.ite ?_ ?_
      | refine LeO.bind ?_ (fun _ => ?_)
def laws_markStringS.l0 : Nat → List ByteArray → Int → Int → Option (Int × List ByteArray)
  | 0, _, _, _ => none
  | k + 1, x0, x1, x5 => if x5 < (x0.length : Int) then ((laws_markText.f k x1).bind fun t752 => (if 0 ≤ x5 then (laws_markStringS.l0 k (x0.set (x5 : Int).toNat t752) (wrap64 (x1 + 1)) (wrap64 (x5 + 1))) else (none))) else (some (x1, x0))
def laws_markStringS.f (k : Nat) (l0 : List ByteArray) (a1 : Int) : Option (Int × List ByteArray) := laws_markStringS.l0 k l0 a1 0
theorem laws_markStringS.mono_l : ∀ k, (∀ y0 y1 y2, LeO (laws_markStringS.l0 k y0 y1 y2) (laws_markStringS.l0 (k + 1) y0 y1 y2))
  | 0 => fun _ _ _ r h => by simp [laws_markStringS.l0] at h
  | k + 1 => by
    have ih0 := laws_markStringS.mono_l k
    · intro y0 y1 y2
      unfold laws_markStringS.l0
      repeat' first
      | (with_reducible first | exact ih0 _ _ _ | exact laws_markText.mono _ _ | exact LeO.refl _ | exact LeO.none _ | refine LeO.ite ?_ ?_ | refine LeO.bind ?_ (fun _ => ?_))
      | exact ih0 _ _ _
      | exact laws_markText.mono _ _
      | exact LeO.none _
      | refine LeO.ite ?_ ?_
      | refine LeO.bind ?_ (fun _ => ?_)
theorem laws_markStringS.mono : ∀ a0 a1 k, LeO (laws_markStringS.f k a0 a1) (laws_markStringS.f (k + 1) a0 a1) := by
  intro a0 a1 k
  have ih0 := laws_markStringS.mono_l k
  unfold laws_markStringS.f
  repeat' first
      | (with_reducible first | exact ih0 _ _ _ | exact laws_markText.mono _ _ | exact LeO.refl _ | exact LeO.none _ | refine LeO.ite ?_ ?_ | refine LeO.bind ?_ (fun _ => ?_))
      | exact ih0 _ _ _
      | exact laws_markText.mono _ _
      | exact LeO.none _
      | refine LeO.ite ?_ ?_
      | refine LeO.bind ?_ (fun _ => ?_)
def laws_markScoreS.l0 : Nat → List (S99) → Int → Int → Option (Int × (List (S99)))
  | 0, _, _, _ => none
  | k + 1, x0, x1, x5 => if x5 < (x0.length : Int) then ((laws_markText.f k x1).bind fun t754 => (if 0 ≤ x5 then ((some (x0.set (x5 : Int).toNat (⟨t754, (rd_T99 x0 x5).f1⟩ : S99) : List (S99))).bind fun y755 => (laws_markScoreS.l0 k (y755.set (x5 : Int).toNat (⟨(rd_T99 y755 x5).f0, wrap64 (x1 + 1)⟩ : S99)) (wrap64 ((wrap64 (x1 + 1)) + 1)) (wrap64 (x5 + 1)))) else (none))) else (some (x1, x0))
def laws_markScoreS.f (k : Nat) (l0 : List (S99)) (a1 : Int) : Option (Int × (List (S99))) := laws_markScoreS.l0 k l0 a1 0
theorem laws_markScoreS.mono_l : ∀ k, (∀ y0 y1 y2, LeO (laws_markScoreS.l0 k y0 y1 y2) (laws_markScoreS.l0 (k + 1) y0 y1 y2))
  | 0 => fun _ _ _ r h => by simp [laws_markScoreS.l0] at h
  | k + 1 => by
    have ih0 := laws_markScoreS.mono_l k
    · intro y0 y1 y2
      unfold laws_markScoreS.l0
      repeat' first
      | (with_reducible first | exact ih0 _ _ _ | exact laws_markText.mono _ _ | exact LeO.refl _ | exact LeO.none _ | refine LeO.ite ?_ ?_ | refine LeO.bind ?_ (fun _ => ?_))
      | exact ih0 _ _ _
      | exact laws_markText.mono _ _
      | exact LeO.none _
      | refine LeO.ite ?_ ?_
      | refine LeO.bind ?_ (fun _ => ?_)
theorem laws_markScoreS.mono : ∀ a0 a1 k, LeO (laws_markScoreS.f k a0 a1) (laws_markScoreS.f (k + 1) a0 a1) := by
  intro a0 a1 k
  have ih0 := laws_markScoreS.mono_l k
  unfold laws_markScoreS.f
  repeat' first
      | (with_reducible first | exact ih0 _ _ _ | exact laws_markText.mono _ _ | exact LeO.refl _ | exact LeO.none _ | refine LeO.ite ?_ ?_ | refine LeO.bind ?_ (fun _ => ?_))
      | exact ih0 _ _ _
      | exact laws_markText.mono _ _
      | exact LeO.none _
      | refine LeO.ite ?_ ?_
      | refine LeO.bind ?_ (fun _ => ?_)
def laws_markPairS.l0 : Nat → List (S101) → Int → Int → Option (Int × (List (S101)))
  | 0, _, _, _ => none
  | k + 1, x0, x1, x5 => if x5 < (x0.length : Int) then ((laws_markText.f k x1).bind fun t757 => (if 0 ≤ x5 then ((some (x0.set (x5 : Int).toNat (⟨t757, (rd_T101 x0 x5).f1⟩ : S101) : List (S101))).bind fun y758 => ((laws_markText.f k (wrap64 (x1 + 1))).bind fun t759 => (laws_markPairS.l0 k (y758.set (x5 : Int).toNat (⟨(rd_T101 y758 x5).f0, t759⟩ : S101)) (wrap64 ((wrap64 (x1 + 1)) + 1)) (wrap64 (x5 + 1))))) else (none))) else (some (x1, x0))
def laws_markPairS.f (k : Nat) (l0 : List (S101)) (a1 : Int) : Option (Int × (List (S101))) := laws_markPairS.l0 k l0 a1 0
theorem laws_markPairS.mono_l : ∀ k, (∀ y0 y1 y2, LeO (laws_markPairS.l0 k y0 y1 y2) (laws_markPairS.l0 (k + 1) y0 y1 y2))
  | 0 => fun _ _ _ r h => by simp [laws_markPairS.l0] at h
  | k + 1 => by
    have ih0 := laws_markPairS.mono_l k
    · intro y0 y1 y2
      unfold laws_markPairS.l0
      repeat' first
      | (with_reducible first | exact ih0 _ _ _ | exact laws_markText.mono _ _ | exact LeO.refl _ | exact LeO.none _ | refine LeO.ite ?_ ?_ | refine LeO.bind ?_ (fun _ => ?_))
      | exact ih0 _ _ _
      | exact laws_markText.mono _ _
      | exact LeO.none _
      | refine LeO.ite ?_ ?_
      | refine LeO.bind ?_ (fun _ => ?_)
theorem laws_markPairS.mono : ∀ a0 a1 k, LeO (laws_markPairS.f k a0 a1) (laws_markPairS.f (k + 1) a0 a1) := by
  intro a0 a1 k
  have ih0 := laws_markPairS.mono_l k
  unfold laws_markPairS.f
  repeat' first
      | (with_reducible first | exact ih0 _ _ _ | exact laws_markText.mono _ _ | exact LeO.refl _ | exact LeO.none _ | refine LeO.ite ?_ ?_ | refine LeO.bind ?_ (fun _ => ?_))
      | exact ih0 _ _ _
      | exact laws_markText.mono _ _
      | exact LeO.none _
      | refine LeO.ite ?_ ?_
      | refine LeO.bind ?_ (fun _ => ?_)
def laws_heldStringS.l0 : Nat → List ByteArray → Int → Int → Option (Int)
  | 0, _, _, _ => none
  | k + 1, x0, x1, x5 => if x5 < (x0.length : Int) then (if 0 ≤ x5 then ((laws_markText.f k x1).bind fun t764 => (if (rdOf ByteArray.empty x0 x5).toList = t764.toList then (laws_heldStringS.l0 k x0 (wrap64 (x1 + 1)) (wrap64 (x5 + 1))) else (some (-1)))) else (none)) else (some x1)
def laws_heldStringS.f (k : Nat) (l0 : List ByteArray) (a1 : Int) : Option (Int) := laws_heldStringS.l0 k l0 a1 0
theorem laws_heldStringS.mono_l : ∀ k, (∀ y0 y1 y2, LeO (laws_heldStringS.l0 k y0 y1 y2) (laws_heldStringS.l0 (k + 1) y0 y1 y2))
  | 0 => fun _ _ _ r h => by simp [laws_heldStringS.l0] at h
  | k + 1 => by
    have ih0 := laws_heldStringS.mono_l k
    · intro y0 y1 y2
      unfold laws_heldStringS.l0
      repeat' first
      | (with_reducible first | exact ih0 _ _ _ | exact laws_markText.mono _ _ | exact LeO.refl _ | exact LeO.none _ | refine LeO.ite ?_ ?_ | refine LeO.bind ?_ (fun _ => ?_))
      | exact ih0 _ _ _
      | exact laws_markText.mono _ _
      | exact LeO.none _
      | refine LeO.ite ?_ ?_
      | refine LeO.bind ?_ (fun _ => ?_)
theorem laws_heldStringS.mono : ∀ a0 a1 k, LeO (laws_heldStringS.f k a0 a1) (laws_heldStringS.f (k + 1) a0 a1) := by
  intro a0 a1 k
  have ih0 := laws_heldStringS.mono_l k
  unfold laws_heldStringS.f
  repeat' first
      | (with_reducible first | exact ih0 _ _ _ | exact laws_markText.mono _ _ | exact LeO.refl _ | exact LeO.none _ | refine LeO.ite ?_ ?_ | refine LeO.bind ?_ (fun _ => ?_))
      | exact ih0 _ _ _
      | exact laws_markText.mono _ _
      | exact LeO.none _
      | refine LeO.ite ?_ ?_
      | refine LeO.bind ?_ (fun _ => ?_)
def spec_l4At.l0 : Nat → ByteArray → Int → Int → List (S32) → Option (Int × Bool)
  | 0, _, _, _, _ => none
  | k + 1, x1, x6, x789000, x789001 => if x6 < (x789001.length : Int) then (if 0 ≤ x6 then (if (Op.bytesLess (((rd_T32 x789001 x6).f0).toList) x1.toList) = true then (spec_l4At.l0 k x1 (wrap64 (x6 + 1)) x789000 x789001) else (some (x6, (((rd_T32 x789001 x6).f0).toList == x1.toList)))) else (none)) else (some (x6, false))
def spec_l4At.f (k : Nat) (a0_0 : Int) (l0_1 : List (S32)) (a1 : ByteArray) : Option (Int × Bool) := spec_l4At.l0 k a1 0 a0_0 l0_1
theorem spec_l4At.mono_l : ∀ k, (∀ y0 y1 y2 y3, LeO (spec_l4At.l0 k y0 y1 y2 y3) (spec_l4At.l0 (k + 1) y0 y1 y2 y3))
  | 0 => fun _ _ _ _ r h => by simp [spec_l4At.l0] at h
  | k + 1 => by
    have ih0 := spec_l4At.mono_l k
    · intro y0 y1 y2 y3
      unfold spec_l4At.l0
      repeat' first
      | (with_reducible first | exact ih0 _ _ _ _ | exact LeO.refl _ | exact LeO.none _ | refine LeO.ite ?_ ?_ | refine LeO.bind ?_ (fun _ => ?_))
      | exact ih0 _ _ _ _
      | exact LeO.none _
      | refine LeO.ite ?_ ?_
      | refine LeO.bind ?_ (fun _ => ?_)
theorem spec_l4At.mono : ∀ a0 a1 a2 k, LeO (spec_l4At.f k a0 a1 a2) (spec_l4At.f (k + 1) a0 a1 a2) := by
  intro a0 a1 a2 k
  have ih0 := spec_l4At.mono_l k
  unfold spec_l4At.f
  repeat' first
      | (with_reducible first | exact ih0 _ _ _ _ | exact LeO.refl _ | exact LeO.none _ | refine LeO.ite ?_ ?_ | refine LeO.bind ?_ (fun _ => ?_))
      | exact ih0 _ _ _ _
      | exact LeO.none _
      | refine LeO.ite ?_ ?_
      | refine LeO.bind ?_ (fun _ => ?_)
def spec_l2Copy.f (l0 : List ByteArray) : Option (List ByteArray) := (some (([] : List ByteArray) : List ByteArray)).bind fun y791 => (if y791.length + l0.length < 8796093022208 then (some (y791 ++ l0)) else (none))
def spec_l4Entry.f (a0_0 : ByteArray) (a0_1 : Int) (a0_2 : Int) (a0_3 : ByteArray) (l0_4 : List ByteArray) (l0_5 : List (S99)) (l0_6 : List (S101)) : Option (ByteArray × Int × Int × ByteArray × List ByteArray × (List (S99)) × (List (S101))) := (spec_l2Copy.f l0_4).bind fun t799 => ((some (([] : List (S99)) : List (S99))).bind fun y802 => (if y802.length + l0_5.length < 5864062014805 then ((some (([] : List (S101)) : List (S101))).bind fun y808 => (if y808.length + l0_6.length < 4398046511104 then (some (a0_0, a0_1, a0_2, a0_3, t799, (y802 ++ l0_5), (y808 ++ l0_6))) else (none))) else (none)))
def spec_l4Get.f (k : Nat) (a0_0 : Int) (l0_1 : List (S32)) (a1 : ByteArray) : Option (ByteArray × Int × Int × ByteArray × List ByteArray × (List (S99)) × (List (S101))) := (spec_l4At.f k a0_0 l0_1 a1).bind fun bt816 => (if bt816.2 = true then (if 0 ≤ bt816.1 then (if bt816.1 < (l0_1.length : Int) then ((spec_l4Entry.f ((rd_T32 l0_1 bt816.1).f0) ((rd_T32 l0_1 bt816.1).f1) ((rd_T32 l0_1 bt816.1).f2) ((rd_T32 l0_1 bt816.1).f3) ((rd_T32 l0_1 bt816.1).f4) ((rd_T32 l0_1 bt816.1).f5) ((rd_T32 l0_1 bt816.1).f6)).bind fun bt819 => (some (bt819.1, bt819.2.1, bt819.2.2.1, bt819.2.2.2.1, bt819.2.2.2.2.1, bt819.2.2.2.2.2.1, bt819.2.2.2.2.2.2))) else (none)) else (none)) else (some (a1, 0, 0, (⟨#[]⟩ : ByteArray), ([] : List ByteArray), ([] : List (S99)), ([] : List (S101)))))
theorem spec_l4Get.mono : ∀ a0 a1 a2 k, LeO (spec_l4Get.f k a0 a1 a2) (spec_l4Get.f (k + 1) a0 a1 a2) := by
  intro a0 a1 a2 k
  unfold spec_l4Get.f
  repeat' first
      | (with_reducible first | exact spec_l4At.mono _ _ _ _ | exact LeO.refl _ | exact LeO.none _ | refine LeO.ite ?_ ?_ | refine LeO.bind ?_ (fun _ => ?_))
      | exact spec_l4At.mono _ _ _ _
      | exact LeO.none _
      | refine LeO.ite ?_ ?_
      | refine LeO.bind ?_ (fun _ => ?_)
def spec_BaseGet.f (k : Nat) (a0_0 : Int) (l0_1 : List (S32)) (a1 : ByteArray) : Option (ByteArray × Int × Int × ByteArray × List ByteArray × (List (S99)) × (List (S101)) × Bool) := (spec_BaseOk.f k a0_0 l0_1).bind fun t834 => (if t834 = true then ((spec_l4At.f k a0_0 l0_1 a1).bind fun bt835 => (if bt835.2 = true then ((spec_l4Get.f k a0_0 l0_1 a1).bind fun bt837 => (some (bt837.1, bt837.2.1, bt837.2.2.1, bt837.2.2.2.1, bt837.2.2.2.2.1, bt837.2.2.2.2.2.1, bt837.2.2.2.2.2.2, true))) else (some ((⟨#[]⟩ : ByteArray), 0, 0, (⟨#[]⟩ : ByteArray), ([] : List ByteArray), ([] : List (S99)), ([] : List (S101)), false)))) else (some ((⟨#[]⟩ : ByteArray), 0, 0, (⟨#[]⟩ : ByteArray), ([] : List ByteArray), ([] : List (S99)), ([] : List (S101)), false)))
theorem spec_BaseGet.mono : ∀ a0 a1 a2 k, LeO (spec_BaseGet.f k a0 a1 a2) (spec_BaseGet.f (k + 1) a0 a1 a2) := by
  intro a0 a1 a2 k
  unfold spec_BaseGet.f
  repeat' first
      | (with_reducible first | exact spec_BaseOk.mono _ _ _ | exact spec_l4At.mono _ _ _ _ | exact spec_l4Get.mono _ _ _ _ | exact LeO.refl _ | exact LeO.none _ | refine LeO.ite ?_ ?_ | refine LeO.bind ?_ (fun _ => ?_))
      | exact spec_BaseOk.mono _ _ _
      | exact spec_l4At.mono _ _ _ _
      | exact spec_l4Get.mono _ _ _ _
      | exact LeO.none _
      | refine LeO.ite ?_ ?_
      | refine LeO.bind ?_ (fun _ => ?_)
def impl_copied.f (l0 : List ByteArray) : Option (List ByteArray) := (some (([] : List ByteArray) : List ByteArray)).bind fun y851 => (if y851.length + l0.length < 8796093022208 then (some (y851 ++ l0)) else (none))
def impl_copiedScores.f (l0 : List (S99)) : Option ((List (S99))) := (some (([] : List (S99)) : List (S99))).bind fun y857 => (if y857.length + l0.length < 5864062014805 then (some (y857 ++ l0)) else (none))
def impl_copiedPairs.f (l0 : List (S101)) : Option ((List (S101))) := (some (([] : List (S101)) : List (S101))).bind fun y863 => (if y863.length + l0.length < 4398046511104 then (some (y863 ++ l0)) else (none))
def impl_cloneEntry.f (a0_0 : ByteArray) (a0_1 : Int) (a0_2 : Int) (a0_3 : ByteArray) (l0_4 : List ByteArray) (l0_5 : List (S99)) (l0_6 : List (S101)) : Option (ByteArray × Int × Int × ByteArray × List ByteArray × (List (S99)) × (List (S101))) := (impl_copied.f l0_4).bind fun t871 => ((impl_copiedScores.f l0_5).bind fun t874 => ((impl_copiedPairs.f l0_6).bind fun t877 => (some (a0_0, a0_1, a0_2, a0_3, t871, t874, t877))))
def laws_markEntry.f (k : Nat) (a0_0 : ByteArray) (a0_1 : Int) (a0_2 : Int) (a0_3 : ByteArray) (l0_4 : List ByteArray) (l0_5 : List (S99)) (l0_6 : List (S101)) (a1 : Int) : Option (Int × List ByteArray × (List (S99)) × (List (S101))) := (laws_markStringS.f k l0_4 a1).bind fun bt883 => ((laws_markScoreS.f k l0_5 bt883.1).bind fun bt885 => ((laws_markPairS.f k l0_6 bt885.1).bind fun bt887 => (some (bt887.1, bt883.2, bt885.2, bt887.2))))
theorem laws_markEntry.mono : ∀ a0 a1 a2 a3 a4 a5 a6 a7 k, LeO (laws_markEntry.f k a0 a1 a2 a3 a4 a5 a6 a7) (laws_markEntry.f (k + 1) a0 a1 a2 a3 a4 a5 a6 a7) := by
  intro a0 a1 a2 a3 a4 a5 a6 a7 k
  unfold laws_markEntry.f
  repeat' first
      | (with_reducible first | exact laws_markPairS.mono _ _ _ | exact laws_markScoreS.mono _ _ _ | exact laws_markStringS.mono _ _ _ | exact LeO.refl _ | exact LeO.none _ | refine LeO.ite ?_ ?_ | refine LeO.bind ?_ (fun _ => ?_))
      | exact laws_markPairS.mono _ _ _
      | exact laws_markScoreS.mono _ _ _
      | exact laws_markStringS.mono _ _ _
      | exact LeO.none _
      | refine LeO.ite ?_ ?_
      | refine LeO.bind ?_ (fun _ => ?_)
def laws_heldScoreS.l0 : Nat → List (S99) → Int → Int → Option (Int)
  | 0, _, _, _ => none
  | k + 1, x0, x1, x5 => if x5 < (x0.length : Int) then (if 0 ≤ x5 then ((laws_markText.f k x1).bind fun t890 => (if ((rd_T99 x0 x5).f0).toList = t890.toList then (if ((rd_T99 x0 x5).f1) = (wrap64 (x1 + 1)) then (laws_heldScoreS.l0 k x0 (wrap64 ((wrap64 (x1 + 1)) + 1)) (wrap64 (x5 + 1))) else (some (-1))) else (some (-1)))) else (none)) else (some x1)
def laws_heldScoreS.f (k : Nat) (l0 : List (S99)) (a1 : Int) : Option (Int) := laws_heldScoreS.l0 k l0 a1 0
theorem laws_heldScoreS.mono_l : ∀ k, (∀ y0 y1 y2, LeO (laws_heldScoreS.l0 k y0 y1 y2) (laws_heldScoreS.l0 (k + 1) y0 y1 y2))
  | 0 => fun _ _ _ r h => by simp [laws_heldScoreS.l0] at h
  | k + 1 => by
    have ih0 := laws_heldScoreS.mono_l k
    · intro y0 y1 y2
      unfold laws_heldScoreS.l0
      repeat' first
      | (with_reducible first | exact ih0 _ _ _ | exact laws_markText.mono _ _ | exact LeO.refl _ | exact LeO.none _ | refine LeO.ite ?_ ?_ | refine LeO.bind ?_ (fun _ => ?_))
      | exact ih0 _ _ _
      | exact laws_markText.mono _ _
      | exact LeO.none _
      | refine LeO.ite ?_ ?_
      | refine LeO.bind ?_ (fun _ => ?_)
theorem laws_heldScoreS.mono : ∀ a0 a1 k, LeO (laws_heldScoreS.f k a0 a1) (laws_heldScoreS.f (k + 1) a0 a1) := by
  intro a0 a1 k
  have ih0 := laws_heldScoreS.mono_l k
  unfold laws_heldScoreS.f
  repeat' first
      | (with_reducible first | exact ih0 _ _ _ | exact laws_markText.mono _ _ | exact LeO.refl _ | exact LeO.none _ | refine LeO.ite ?_ ?_ | refine LeO.bind ?_ (fun _ => ?_))
      | exact ih0 _ _ _
      | exact laws_markText.mono _ _
      | exact LeO.none _
      | refine LeO.ite ?_ ?_
      | refine LeO.bind ?_ (fun _ => ?_)
def laws_heldPairS.l0 : Nat → List (S101) → Int → Int → Option (Int)
  | 0, _, _, _ => none
  | k + 1, x0, x1, x5 => if x5 < (x0.length : Int) then (if 0 ≤ x5 then ((laws_markText.f k x1).bind fun t893 => (if ((rd_T101 x0 x5).f0).toList = t893.toList then ((laws_markText.f k (wrap64 (x1 + 1))).bind fun t895 => (if ((rd_T101 x0 x5).f1).toList = t895.toList then (laws_heldPairS.l0 k x0 (wrap64 ((wrap64 (x1 + 1)) + 1)) (wrap64 (x5 + 1))) else (some (-1)))) else (some (-1)))) else (none)) else (some x1)
def laws_heldPairS.f (k : Nat) (l0 : List (S101)) (a1 : Int) : Option (Int) := laws_heldPairS.l0 k l0 a1 0
theorem laws_heldPairS.mono_l : ∀ k, (∀ y0 y1 y2, LeO (laws_heldPairS.l0 k y0 y1 y2) (laws_heldPairS.l0 (k + 1) y0 y1 y2))
  | 0 => fun _ _ _ r h => by simp [laws_heldPairS.l0] at h
  | k + 1 => by
    have ih0 := laws_heldPairS.mono_l k
    · intro y0 y1 y2
      unfold laws_heldPairS.l0
      repeat' first
      | (with_reducible first | exact ih0 _ _ _ | exact laws_markText.mono _ _ | exact LeO.refl _ | exact LeO.none _ | refine LeO.ite ?_ ?_ | refine LeO.bind ?_ (fun _ => ?_))
      | exact ih0 _ _ _
      | exact laws_markText.mono _ _
      | exact LeO.none _
      | refine LeO.ite ?_ ?_
      | refine LeO.bind ?_ (fun _ => ?_)
theorem laws_heldPairS.mono : ∀ a0 a1 k, LeO (laws_heldPairS.f k a0 a1) (laws_heldPairS.f (k + 1) a0 a1) := by
  intro a0 a1 k
  have ih0 := laws_heldPairS.mono_l k
  unfold laws_heldPairS.f
  repeat' first
      | (with_reducible first | exact ih0 _ _ _ | exact laws_markText.mono _ _ | exact LeO.refl _ | exact LeO.none _ | refine LeO.ite ?_ ?_ | refine LeO.bind ?_ (fun _ => ?_))
      | exact ih0 _ _ _
      | exact laws_markText.mono _ _
      | exact LeO.none _
      | refine LeO.ite ?_ ?_
      | refine LeO.bind ?_ (fun _ => ?_)
def laws_heldEntry.f (k : Nat) (a0_0 : ByteArray) (a0_1 : Int) (a0_2 : Int) (a0_3 : ByteArray) (l0_4 : List ByteArray) (l0_5 : List (S99)) (l0_6 : List (S101)) (a1 : Int) : Option (Int) := (laws_heldStringS.f k l0_4 a1).bind fun t897 => (if t897 < 0 then (some (-1)) else ((laws_heldScoreS.f k l0_5 t897).bind fun t898 => (if t898 < 0 then (some (-1)) else ((laws_heldPairS.f k l0_6 t898).bind fun t899 => (if t899 < 0 then (some (-1)) else (some t899))))))
theorem laws_heldEntry.mono : ∀ a0 a1 a2 a3 a4 a5 a6 a7 k, LeO (laws_heldEntry.f k a0 a1 a2 a3 a4 a5 a6 a7) (laws_heldEntry.f (k + 1) a0 a1 a2 a3 a4 a5 a6 a7) := by
  intro a0 a1 a2 a3 a4 a5 a6 a7 k
  unfold laws_heldEntry.f
  repeat' first
      | (with_reducible first | exact laws_heldPairS.mono _ _ _ | exact laws_heldScoreS.mono _ _ _ | exact laws_heldStringS.mono _ _ _ | exact LeO.refl _ | exact LeO.none _ | refine LeO.ite ?_ ?_ | refine LeO.bind ?_ (fun _ => ?_))
      | exact laws_heldPairS.mono _ _ _
      | exact laws_heldScoreS.mono _ _ _
      | exact laws_heldStringS.mono _ _ _
      | exact LeO.none _
      | refine LeO.ite ?_ ?_
      | refine LeO.bind ?_ (fun _ => ?_)
def spec_l4Copy.l0 : Nat → Int → Int → List (S32) → Int → List (S32) → Option (Int × (List (S32)))
  | 0, _, _, _, _, _ => none
  | k + 1, x4, x927000, x927001, x929000, x929001 => if x4 < (x927001.length : Int) then (if 0 ≤ x4 then ((spec_l4Entry.f ((rd_T32 x927001 x4).f0) ((rd_T32 x927001 x4).f1) ((rd_T32 x927001 x4).f2) ((rd_T32 x927001 x4).f3) ((rd_T32 x927001 x4).f4) ((rd_T32 x927001 x4).f5) ((rd_T32 x927001 x4).f6)).bind fun bt930 => (if x929001.length < 1172812402961 then (spec_l4Copy.l0 k (wrap64 (x4 + 1)) x927000 x927001 x929000 (x929001 ++ [(⟨bt930.1, bt930.2.1, bt930.2.2.1, bt930.2.2.2.1, bt930.2.2.2.2.1, bt930.2.2.2.2.2.1, bt930.2.2.2.2.2.2⟩ : S32)])) else (none))) else (none)) else (some (x929000, x929001))
def spec_l4Copy.f (k : Nat) (a0_0 : Int) (l0_1 : List (S32)) : Option (Int × (List (S32))) := spec_l4Copy.l0 k 0 a0_0 l0_1 a0_0 ([] : List (S32))
theorem spec_l4Copy.mono_l : ∀ k, (∀ y0 y1 y2 y3 y4, LeO (spec_l4Copy.l0 k y0 y1 y2 y3 y4) (spec_l4Copy.l0 (k + 1) y0 y1 y2 y3 y4))
  | 0 => fun _ _ _ _ _ r h => by simp [spec_l4Copy.l0] at h
  | k + 1 => by
    have ih0 := spec_l4Copy.mono_l k
    · intro y0 y1 y2 y3 y4
      unfold spec_l4Copy.l0
      repeat' first
      | (with_reducible first | exact ih0 _ _ _ _ _ | exact LeO.refl _ | exact LeO.none _ | refine LeO.ite ?_ ?_ | refine LeO.bind ?_ (fun _ => ?_))
      | exact ih0 _ _ _ _ _
      | exact LeO.none _
      | refine LeO.ite ?_ ?_
      | refine LeO.bind ?_ (fun _ => ?_)
theorem spec_l4Copy.mono : ∀ a0 a1 k, LeO (spec_l4Copy.f k a0 a1) (spec_l4Copy.f (k + 1) a0 a1) := by
  intro a0 a1 k
  have ih0 := spec_l4Copy.mono_l k
  unfold spec_l4Copy.f
  repeat' first
      | (with_reducible first | exact ih0 _ _ _ _ _ | exact LeO.refl _ | exact LeO.none _ | refine LeO.ite ?_ ?_ | refine LeO.bind ?_ (fun _ => ?_))
      | exact ih0 _ _ _ _ _
      | exact LeO.none _
      | refine LeO.ite ?_ ?_
      | refine LeO.bind ?_ (fun _ => ?_)
def spec_l4Tick.l0 : Nat → Int → Int → List (S32) → Int → List (S32) → Option (Int × (List (S32)))
  | 0, _, _, _, _, _ => none
  | k + 1, x6, x947000, x947001, x949000, x949001 => if x6 < (x947001.length : Int) then (if 0 ≤ x6 then (if ((rd_T32 x947001 x6).f1) = 0 then ((spec_l4Entry.f ((rd_T32 x947001 x6).f0) ((rd_T32 x947001 x6).f1) ((rd_T32 x947001 x6).f2) ((rd_T32 x947001 x6).f3) ((rd_T32 x947001 x6).f4) ((rd_T32 x947001 x6).f5) ((rd_T32 x947001 x6).f6)).bind fun bt951 => (if x949001.length < 1172812402961 then (spec_l4Tick.l0 k (wrap64 (x6 + 1)) x947000 x947001 x949000 (x949001 ++ [(⟨bt951.1, bt951.2.1, bt951.2.2.1, bt951.2.2.2.1, bt951.2.2.2.2.1, bt951.2.2.2.2.2.1, bt951.2.2.2.2.2.2⟩ : S32)])) else (none))) else (if ((rd_T32 x947001 x6).f1) > x949000 then ((spec_l4Entry.f ((rd_T32 x947001 x6).f0) ((rd_T32 x947001 x6).f1) ((rd_T32 x947001 x6).f2) ((rd_T32 x947001 x6).f3) ((rd_T32 x947001 x6).f4) ((rd_T32 x947001 x6).f5) ((rd_T32 x947001 x6).f6)).bind fun bt969 => (if x949001.length < 1172812402961 then (spec_l4Tick.l0 k (wrap64 (x6 + 1)) x947000 x947001 x949000 (x949001 ++ [(⟨bt969.1, bt969.2.1, bt969.2.2.1, bt969.2.2.2.1, bt969.2.2.2.2.1, bt969.2.2.2.2.2.1, bt969.2.2.2.2.2.2⟩ : S32)])) else (none))) else (spec_l4Tick.l0 k (wrap64 (x6 + 1)) x947000 x947001 x949000 x949001))) else (none)) else (some (x949000, x949001))
def spec_l4Tick.f (k : Nat) (a0_0 : Int) (l0_1 : List (S32)) (a1 : Int) : Option (Int × (List (S32))) := spec_l4Tick.l0 k 0 a0_0 l0_1 (wrap64 (a0_0 + a1)) ([] : List (S32))
theorem spec_l4Tick.mono_l : ∀ k, (∀ y0 y1 y2 y3 y4, LeO (spec_l4Tick.l0 k y0 y1 y2 y3 y4) (spec_l4Tick.l0 (k + 1) y0 y1 y2 y3 y4))
  | 0 => fun _ _ _ _ _ r h => by simp [spec_l4Tick.l0] at h
  | k + 1 => by
    have ih0 := spec_l4Tick.mono_l k
    · intro y0 y1 y2 y3 y4
      unfold spec_l4Tick.l0
      repeat' first
      | (with_reducible first | exact ih0 _ _ _ _ _ | exact LeO.refl _ | exact LeO.none _ | refine LeO.ite ?_ ?_ | refine LeO.bind ?_ (fun _ => ?_))
      | exact ih0 _ _ _ _ _
      | exact LeO.none _
      | refine LeO.ite ?_ ?_
      | refine LeO.bind ?_ (fun _ => ?_)
theorem spec_l4Tick.mono : ∀ a0 a1 a2 k, LeO (spec_l4Tick.f k a0 a1 a2) (spec_l4Tick.f (k + 1) a0 a1 a2) := by
  intro a0 a1 a2 k
  have ih0 := spec_l4Tick.mono_l k
  unfold spec_l4Tick.f
  repeat' first
      | (with_reducible first | exact ih0 _ _ _ _ _ | exact LeO.refl _ | exact LeO.none _ | refine LeO.ite ?_ ?_ | refine LeO.bind ?_ (fun _ => ?_))
      | exact ih0 _ _ _ _ _
      | exact LeO.none _
      | refine LeO.ite ?_ ?_
      | refine LeO.bind ?_ (fun _ => ?_)
def spec_BaseTick.f (k : Nat) (a0_0 : Int) (l0_1 : List (S32)) (a1 : Int) : Option (Int × (List (S32))) := (spec_BaseOk.f k a0_0 l0_1).bind fun t987 => (if t987 = true then ((spec_l1In.f a1 0 (wrap64 (1000000 - a0_0))).bind fun t988 => (if t988 = true then ((spec_l4Tick.f k a0_0 l0_1 a1).bind fun bt989 => (some (bt989.1, bt989.2))) else ((spec_l4Copy.f k a0_0 l0_1).bind fun bt993 => (some (bt993.1, bt993.2))))) else (some (0, ([] : List (S32)))))
theorem spec_BaseTick.mono : ∀ a0 a1 a2 k, LeO (spec_BaseTick.f k a0 a1 a2) (spec_BaseTick.f (k + 1) a0 a1 a2) := by
  intro a0 a1 a2 k
  unfold spec_BaseTick.f
  repeat' first
      | (with_reducible first | exact spec_BaseOk.mono _ _ _ | exact spec_l4Copy.mono _ _ _ | exact spec_l4Tick.mono _ _ _ _ | exact LeO.refl _ | exact LeO.none _ | refine LeO.ite ?_ ?_ | refine LeO.bind ?_ (fun _ => ?_))
      | exact spec_BaseOk.mono _ _ _
      | exact spec_l4Copy.mono _ _ _
      | exact spec_l4Tick.mono _ _ _ _
      | exact LeO.none _
      | refine LeO.ite ?_ ?_
      | refine LeO.bind ?_ (fun _ => ?_)
def impl_cloneBase.l0 : Nat → List (S32) → Int → Int → Int → List (S32) → Option (Int × (List (S32)))
  | 0, _, _, _, _, _ => none
  | k + 1, x11, x12, x13, x1003000, x1003001 => if x13 < x12 then (if 0 ≤ x13 then (if x13 < (x11.length : Int) then ((impl_cloneEntry.f ((rd_T32 x11 x13).f0) ((rd_T32 x11 x13).f1) ((rd_T32 x11 x13).f2) ((rd_T32 x11 x13).f3) ((rd_T32 x11 x13).f4) ((rd_T32 x11 x13).f5) ((rd_T32 x11 x13).f6)).bind fun bt1005 => (if x1003001.length < 1172812402961 then (impl_cloneBase.l0 k x11 x12 (wrap64 (x13 + 1)) x1003000 (x1003001 ++ [(⟨bt1005.1, bt1005.2.1, bt1005.2.2.1, bt1005.2.2.2.1, bt1005.2.2.2.2.1, bt1005.2.2.2.2.2.1, bt1005.2.2.2.2.2.2⟩ : S32)])) else (none))) else (none)) else (none)) else (some (x1003000, x1003001))
def impl_cloneBase.f (k : Nat) (a0_0 : Int) (l0_1 : List (S32)) : Option (Int × (List (S32))) := impl_cloneBase.l0 k l0_1 (l0_1.length : Int) 0 a0_0 (([] : List (S32)))
theorem impl_cloneBase.mono_l : ∀ k, (∀ y0 y1 y2 y3 y4, LeO (impl_cloneBase.l0 k y0 y1 y2 y3 y4) (impl_cloneBase.l0 (k + 1) y0 y1 y2 y3 y4))
  | 0 => fun _ _ _ _ _ r h => by simp [impl_cloneBase.l0] at h
  | k + 1 => by
    have ih0 := impl_cloneBase.mono_l k
    · intro y0 y1 y2 y3 y4
      unfold impl_cloneBase.l0
      repeat' first
      | (with_reducible first | exact ih0 _ _ _ _ _ | exact LeO.refl _ | exact LeO.none _ | refine LeO.ite ?_ ?_ | refine LeO.bind ?_ (fun _ => ?_))
      | exact ih0 _ _ _ _ _
      | exact LeO.none _
      | refine LeO.ite ?_ ?_
      | refine LeO.bind ?_ (fun _ => ?_)
theorem impl_cloneBase.mono : ∀ a0 a1 k, LeO (impl_cloneBase.f k a0 a1) (impl_cloneBase.f (k + 1) a0 a1) := by
  intro a0 a1 k
  have ih0 := impl_cloneBase.mono_l k
  unfold impl_cloneBase.f
  repeat' first
      | (with_reducible first | exact ih0 _ _ _ _ _ | exact LeO.refl _ | exact LeO.none _ | refine LeO.ite ?_ ?_ | refine LeO.bind ?_ (fun _ => ?_))
      | exact ih0 _ _ _ _ _
      | exact LeO.none _
      | refine LeO.ite ?_ ?_
      | refine LeO.bind ?_ (fun _ => ?_)
mutual
def impl_BaseTick.j0 : Nat → Int → Bool → Int → List (S32) → Option (Int × (List (S32)))
  | 0, _, _, _, _ => none
  | k + 1, x1, x20, x1022000, x1022001 => if x20 = true then ((impl_cloneBase.f k x1022000 x1022001).bind fun bt1024 => (some (bt1024.1, bt1024.2))) else (impl_BaseTick.l0 k x1022001 (x1022001.length : Int) 0 (wrap64 (x1022000 + x1)) (([] : List (S32))))
def impl_BaseTick.l0 : Nat → List (S32) → Int → Int → Int → List (S32) → Option (Int × (List (S32)))
  | 0, _, _, _, _, _ => none
  | k + 1, x30, x31, x32, x1032000, x1032001 => if x32 < x31 then (if 0 ≤ x32 then (if x32 < (x30.length : Int) then (if ((rd_T32 x30 x32).f1) = 0 then ((impl_cloneEntry.f ((rd_T32 x30 x32).f0) ((rd_T32 x30 x32).f1) ((rd_T32 x30 x32).f2) ((rd_T32 x30 x32).f3) ((rd_T32 x30 x32).f4) ((rd_T32 x30 x32).f5) ((rd_T32 x30 x32).f6)).bind fun bt1034 => (if x1032001.length < 1172812402961 then (impl_BaseTick.l0 k x30 x31 (wrap64 (x32 + 1)) x1032000 (x1032001 ++ [(⟨bt1034.1, bt1034.2.1, bt1034.2.2.1, bt1034.2.2.2.1, bt1034.2.2.2.2.1, bt1034.2.2.2.2.2.1, bt1034.2.2.2.2.2.2⟩ : S32)])) else (none))) else (if ((rd_T32 x30 x32).f1) > x1032000 then ((impl_cloneEntry.f ((rd_T32 x30 x32).f0) ((rd_T32 x30 x32).f1) ((rd_T32 x30 x32).f2) ((rd_T32 x30 x32).f3) ((rd_T32 x30 x32).f4) ((rd_T32 x30 x32).f5) ((rd_T32 x30 x32).f6)).bind fun bt1050 => (if x1032001.length < 1172812402961 then (impl_BaseTick.l0 k x30 x31 (wrap64 (x32 + 1)) x1032000 (x1032001 ++ [(⟨bt1050.1, bt1050.2.1, bt1050.2.2.1, bt1050.2.2.2.1, bt1050.2.2.2.2.1, bt1050.2.2.2.2.2.1, bt1050.2.2.2.2.2.2⟩ : S32)])) else (none))) else (impl_BaseTick.l0 k x30 x31 (wrap64 (x32 + 1)) x1032000 x1032001))) else (none)) else (none)) else (some (x1032000, x1032001))
end
def impl_BaseTick.f (k : Nat) (a0_0 : Int) (l0_1 : List (S32)) (a1 : Int) : Option (Int × (List (S32))) := (impl_BaseOk.f k a0_0 l0_1).bind fun t1023 => (if t1023 = true then (if a1 < 0 then (impl_BaseTick.j0 k a1 true a0_0 l0_1) else (impl_BaseTick.j0 k a1 (decide (a1 > (wrap64 (1000000 - a0_0)))) a0_0 l0_1)) else (some (0, ([] : List (S32)))))
theorem impl_BaseTick.mono_l : ∀ k, (∀ y0 y1 y2 y3, LeO (impl_BaseTick.j0 k y0 y1 y2 y3) (impl_BaseTick.j0 (k + 1) y0 y1 y2 y3)) ∧ (∀ y0 y1 y2 y3 y4, LeO (impl_BaseTick.l0 k y0 y1 y2 y3 y4) (impl_BaseTick.l0 (k + 1) y0 y1 y2 y3 y4))
  | 0 => ⟨fun _ _ _ _ r h => by simp [impl_BaseTick.j0] at h, fun _ _ _ _ _ r h => by simp [impl_BaseTick.l0] at h⟩
  | k + 1 => by
    obtain ⟨ih0, ih1⟩ := impl_BaseTick.mono_l k
    refine ⟨?_, ?_⟩
    · intro y0 y1 y2 y3
      unfold impl_BaseTick.j0
      repeat' first
      | (with_reducible first | exact ih0 _ _ _ _ | exact ih1 _ _ _ _ _ | exact impl_BaseOk.mono _ _ _ | exact impl_cloneBase.mono _ _ _ | exact LeO.refl _ | exact LeO.none _ | refine LeO.ite ?_ ?_ | refine LeO.bind ?_ (fun _ => ?_))
      | exact ih0 _ _ _ _
      | exact ih1 _ _ _ _ _
      | exact impl_BaseOk.mono _ _ _
      | exact impl_cloneBase.mono _ _ _
      | exact LeO.none _
      | refine LeO.ite ?_ ?_
      | refine LeO.bind ?_ (fun _ => ?_)
    · intro y0 y1 y2 y3 y4
      unfold impl_BaseTick.l0
      repeat' first
      | (with_reducible first | exact ih0 _ _ _ _ | exact ih1 _ _ _ _ _ | exact impl_BaseOk.mono _ _ _ | exact impl_cloneBase.mono _ _ _ | exact LeO.refl _ | exact LeO.none _ | refine LeO.ite ?_ ?_ | refine LeO.bind ?_ (fun _ => ?_))
      | exact ih0 _ _ _ _
      | exact ih1 _ _ _ _ _
      | exact impl_BaseOk.mono _ _ _
      | exact impl_cloneBase.mono _ _ _
      | exact LeO.none _
      | refine LeO.ite ?_ ?_
      | refine LeO.bind ?_ (fun _ => ?_)
theorem impl_BaseTick.mono : ∀ a0 a1 a2 k, LeO (impl_BaseTick.f k a0 a1 a2) (impl_BaseTick.f (k + 1) a0 a1 a2) := by
  intro a0 a1 a2 k
  obtain ⟨ih0, ih1⟩ := impl_BaseTick.mono_l k
  unfold impl_BaseTick.f
  repeat' first
      | (with_reducible first | exact ih0 _ _ _ _ | exact ih1 _ _ _ _ _ | exact impl_BaseOk.mono _ _ _ | exact impl_cloneBase.mono _ _ _ | exact LeO.refl _ | exact LeO.none _ | refine LeO.ite ?_ ?_ | refine LeO.bind ?_ (fun _ => ?_))
      | exact ih0 _ _ _ _
      | exact ih1 _ _ _ _ _
      | exact impl_BaseOk.mono _ _ _
      | exact impl_cloneBase.mono _ _ _
      | exact LeO.none _
      | refine LeO.ite ?_ ?_
      | refine LeO.bind ?_ (fun _ => ?_)
def laws_heldEntryS.l0 : Nat → List (S32) → Int → Int → Option (Int)
  | 0, _, _, _ => none
  | k + 1, x0, x1, x5 => if x5 < (x0.length : Int) then (if 0 ≤ x5 then ((laws_markText.f k x1).bind fun t1067 => (if ((rd_T32 x0 x5).f0).toList = t1067.toList then (if ((rd_T32 x0 x5).f1) = (wrap64 (x1 + 1)) then (if ((rd_T32 x0 x5).f2) = (wrap64 ((wrap64 (x1 + 1)) + 1)) then ((laws_markText.f k (wrap64 ((wrap64 ((wrap64 (x1 + 1)) + 1)) + 1))).bind fun t1071 => (if ((rd_T32 x0 x5).f3).toList = t1071.toList then ((laws_heldStringS.f k ((rd_T32 x0 x5).f4) (wrap64 ((wrap64 ((wrap64 ((wrap64 (x1 + 1)) + 1)) + 1)) + 1))).bind fun t1073 => (if t1073 < 0 then (some (-1)) else ((laws_heldScoreS.f k ((rd_T32 x0 x5).f5) t1073).bind fun t1075 => (if t1075 < 0 then (some (-1)) else ((laws_heldPairS.f k ((rd_T32 x0 x5).f6) t1075).bind fun t1077 => (if t1077 < 0 then (some (-1)) else (laws_heldEntryS.l0 k x0 t1077 (wrap64 (x5 + 1))))))))) else (some (-1)))) else (some (-1))) else (some (-1))) else (some (-1)))) else (none)) else (some x1)
def laws_heldEntryS.f (k : Nat) (l0 : List (S32)) (a1 : Int) : Option (Int) := laws_heldEntryS.l0 k l0 a1 0
theorem laws_heldEntryS.mono_l : ∀ k, (∀ y0 y1 y2, LeO (laws_heldEntryS.l0 k y0 y1 y2) (laws_heldEntryS.l0 (k + 1) y0 y1 y2))
  | 0 => fun _ _ _ r h => by simp [laws_heldEntryS.l0] at h
  | k + 1 => by
    have ih0 := laws_heldEntryS.mono_l k
    · intro y0 y1 y2
      unfold laws_heldEntryS.l0
      repeat' first
      | (with_reducible first | exact ih0 _ _ _ | exact laws_heldPairS.mono _ _ _ | exact laws_heldScoreS.mono _ _ _ | exact laws_heldStringS.mono _ _ _ | exact laws_markText.mono _ _ | exact LeO.refl _ | exact LeO.none _ | refine LeO.ite ?_ ?_ | refine LeO.bind ?_ (fun _ => ?_))
      | exact ih0 _ _ _
      | exact laws_heldPairS.mono _ _ _
      | exact laws_heldScoreS.mono _ _ _
      | exact laws_heldStringS.mono _ _ _
      | exact laws_markText.mono _ _
      | exact LeO.none _
      | refine LeO.ite ?_ ?_
      | refine LeO.bind ?_ (fun _ => ?_)
theorem laws_heldEntryS.mono : ∀ a0 a1 k, LeO (laws_heldEntryS.f k a0 a1) (laws_heldEntryS.f (k + 1) a0 a1) := by
  intro a0 a1 k
  have ih0 := laws_heldEntryS.mono_l k
  unfold laws_heldEntryS.f
  repeat' first
      | (with_reducible first | exact ih0 _ _ _ | exact laws_heldPairS.mono _ _ _ | exact laws_heldScoreS.mono _ _ _ | exact laws_heldStringS.mono _ _ _ | exact laws_markText.mono _ _ | exact LeO.refl _ | exact LeO.none _ | refine LeO.ite ?_ ?_ | refine LeO.bind ?_ (fun _ => ?_))
      | exact ih0 _ _ _
      | exact laws_heldPairS.mono _ _ _
      | exact laws_heldScoreS.mono _ _ _
      | exact laws_heldStringS.mono _ _ _
      | exact laws_markText.mono _ _
      | exact LeO.none _
      | refine LeO.ite ?_ ?_
      | refine LeO.bind ?_ (fun _ => ?_)
def laws_heldBase.f (k : Nat) (a0_0 : Int) (l0_1 : List (S32)) (a1 : Int) : Option (Int) := (laws_heldEntryS.f k l0_1 a1).bind fun t1079 => (if t1079 < 0 then (some (-1)) else (some t1079))
theorem laws_heldBase.mono : ∀ a0 a1 a2 k, LeO (laws_heldBase.f k a0 a1 a2) (laws_heldBase.f (k + 1) a0 a1 a2) := by
  intro a0 a1 a2 k
  unfold laws_heldBase.f
  repeat' first
      | (with_reducible first | exact laws_heldEntryS.mono _ _ _ | exact LeO.refl _ | exact LeO.none _ | refine LeO.ite ?_ ?_ | refine LeO.bind ?_ (fun _ => ?_))
      | exact laws_heldEntryS.mono _ _ _
      | exact LeO.none _
      | refine LeO.ite ?_ ?_
      | refine LeO.bind ?_ (fun _ => ?_)
def spec_l4Drop.f (k : Nat) (a0_0 : Int) (l0_1 : List (S32)) (a1 : ByteArray) : Option (Int × (List (S32))) := (spec_l4Copy.f k a0_0 l0_1).bind fun bt1109 => ((spec_l4At.f k a0_0 l0_1 a1).bind fun bt1114 => (if bt1114.2 = true then ((some (([] : List (S32)) : List (S32))).bind fun y1116 => (if 0 ≤ bt1114.1 then (if bt1114.1 ≤ (bt1109.2.length : Int) then ((some (bt1109.2.take (bt1114.1 : Int).toNat : List (S32))).bind fun y1119 => (if y1116.length + y1119.length < 1172812402961 then ((some (y1116 ++ y1119 : List (S32))).bind fun y1124 => (if 0 ≤ (wrap64 (bt1114.1 + 1)) then (if (wrap64 (bt1114.1 + 1)) ≤ (bt1109.2.length : Int) then ((some (bt1109.2.drop ((wrap64 (bt1114.1 + 1)) : Int).toNat : List (S32))).bind fun y1127 => (if y1124.length + y1127.length < 1172812402961 then (some (bt1109.1, (y1124 ++ y1127))) else (none))) else (none)) else (none))) else (none))) else (none)) else (none))) else (some (bt1109.1, bt1109.2))))
theorem spec_l4Drop.mono : ∀ a0 a1 a2 k, LeO (spec_l4Drop.f k a0 a1 a2) (spec_l4Drop.f (k + 1) a0 a1 a2) := by
  intro a0 a1 a2 k
  unfold spec_l4Drop.f
  repeat' first
      | (with_reducible first | exact spec_l4At.mono _ _ _ _ | exact spec_l4Copy.mono _ _ _ | exact LeO.refl _ | exact LeO.none _ | refine LeO.ite ?_ ?_ | refine LeO.bind ?_ (fun _ => ?_))
      | exact spec_l4At.mono _ _ _ _
      | exact spec_l4Copy.mono _ _ _
      | exact LeO.none _
      | refine LeO.ite ?_ ?_
      | refine LeO.bind ?_ (fun _ => ?_)
def spec_BaseDrop.f (k : Nat) (a0_0 : Int) (l0_1 : List (S32)) (a1 : ByteArray) : Option (Int × (List (S32)) × Bool) := (spec_BaseOk.f k a0_0 l0_1).bind fun t1137 => (if t1137 = true then ((spec_l4At.f k a0_0 l0_1 a1).bind fun bt1138 => ((spec_l4Drop.f k a0_0 l0_1 a1).bind fun bt1140 => (some (bt1140.1, bt1140.2, bt1138.2)))) else (some (0, ([] : List (S32)), false)))
theorem spec_BaseDrop.mono : ∀ a0 a1 a2 k, LeO (spec_BaseDrop.f k a0 a1 a2) (spec_BaseDrop.f (k + 1) a0 a1 a2) := by
  intro a0 a1 a2 k
  unfold spec_BaseDrop.f
  repeat' first
      | (with_reducible first | exact spec_BaseOk.mono _ _ _ | exact spec_l4At.mono _ _ _ _ | exact spec_l4Drop.mono _ _ _ _ | exact LeO.refl _ | exact LeO.none _ | refine LeO.ite ?_ ?_ | refine LeO.bind ?_ (fun _ => ?_))
      | exact spec_BaseOk.mono _ _ _
      | exact spec_l4At.mono _ _ _ _
      | exact spec_l4Drop.mono _ _ _ _
      | exact LeO.none _
      | refine LeO.ite ?_ ?_
      | refine LeO.bind ?_ (fun _ => ?_)
def slices_Delete_impl_Entry_impl_Entry.f (l0 : List S32) (a1 a2 : Int) : Option (List S32) := if 0 ≤ a1 ∧ a1 < l0.length ∧ a2 = a1 + 1 then some (l0.eraseIdx a1.toNat) else none
set_option maxHeartbeats 8000000 in
set_option maxRecDepth 100000 in
theorem spec_l1In.calls (a0 : Int) (a1 : Int) (a2 : Int) (r : Bool) (w : World) (h : spec_l1In.f a0 a1 a2 = some r) :
    Calls Try.prog 40 #[.int .i64 a0, .int .i64 a1, .int .i64 a2] w fun e w' => e = .returned (.bool r) ∧ Drawn0 w w' := by
  have H : (if a0 ≥ a1 then (some (decide (a0 ≤ a2))) else (some false)) = some r := h
  clear h
  by_cases c4 : a0 ≥ a1
  · rw [if_pos c4] at H
    have c4b0 : decide (a1 ≤ a0) = true := decide_eq_true c4
    clear c4
    obtain rfl := Option.some.inj H
    go_enter Try.func40, Try.ntmps40
    go_wp2
    go_ret
    exact ⟨by first | rfl | (simp; done) | (simp [*]; done), by repeat (first | exact Drawn0.refl _ | apply Drawn0.step)⟩
  · rw [if_neg c4] at H
    have c4b0 : decide (a1 ≤ a0) = false := decide_eq_false c4
    clear c4
    obtain rfl := Option.some.inj H
    go_enter Try.func40, Try.ntmps40
    go_wp2
    go_ret
    exact ⟨by first | rfl | (simp; done) | (simp [*]; done), by repeat (first | exact Drawn0.refl _ | apply Drawn0.step)⟩
set_option maxHeartbeats 8000000 in
set_option maxRecDepth 100000 in
theorem spec_l4Key.calls (a0 : ByteArray) (r : Bool) (w : World) (h : spec_l4Key.f a0 = some r) :
    Calls Try.prog 39 #[.string a0] w fun e w' => e = .returned (.bool r) ∧ Drawn0 w w' := by
  have H : ((spec_l1In.f (a0.size : Int) 1 12).bind fun t112 => (some t112)) = some r := h
  clear h
  replace H := Option.bind_eq_some_iff.mp H
  obtain ⟨t112, A20, H⟩ := H
  try dsimp only at H
  have A2 := zq9 A20
  clear A20
  obtain rfl := Option.some.inj H
  go_enter Try.func39, Try.ntmps39
  go_wp2_with (first | ((with_reducible refine zq24 (f := 40) rfl ?_); refine gl (some 5) Try.func40 #[.int .i64 (a0.size : Int), .int .i64 1, .int .i64 12] ?_; (with_reducible refine (spec_l1In.calls (a0.size : Int) 1 12 t112 _ A2.out).mono ?_); rintro e w' ⟨rfl, ⟨nd, rfl⟩⟩; refine ⟨_, rfl, ?_⟩))
  go_ret
  exact ⟨by first | rfl | (simp; done) | (simp [*]; done), by repeat (first | exact Drawn0.refl _ | apply Drawn0.step)⟩
set_option maxHeartbeats 8000000 in
set_option maxRecDepth 100000 in
theorem spec_l2Texts.calls (k : Nat) (A0 : Option Addr) (c0 : Nat) (l0 : List ByteArray) (r : Bool) (w : World) (hr0 : Kd.C Kd.string w A0 l0.length l0) (hc0 : l0.length ≤ c0) (h : spec_l2Texts.f k l0 = some r) :
    Calls Try.prog 41 #[.slice A0 l0.length c0] w fun e w' => e = .returned (.bool r) ∧ Drawn0 w w' := by
  have HR0 := zq9 hr0
  have HC0 := zq9 hc0
  clear hr0 hc0
  have H : (spec_l2Texts.l0 k l0 0) = some r := h
  clear h
  have H' := zq9 H
  clear H
  go_enter Try.func41, Try.ntmps41
  go_wp2
  go_loopg [3] k (fun kq v3 w' => ∃ (x3_1 : Int), v3 = .int .i64 x3_1 ∧ Aside0 (spec_l2Texts.l0 kq l0 x3_1 = some r) ∧ Aside0 (kq ≤ k) ∧ Drawn0 w w')
  case atStart => exact ⟨(0), (by first | rfl | (simp; done) | (simp [*]; done)), H', ⟨Nat.le_refl _⟩, by repeat (first | exact Drawn0.refl _ | apply Drawn0.step)⟩
  case round =>
    clear H'
    obtain ⟨x3_1, rfl, HA, HK1, ⟨m1, rfl⟩⟩ := hrel
    cases gk with
    | zero => exact absurd HA.out (by simp [spec_l2Texts.l0])
    | succ k1 =>
      have H := HA.out
      clear HA
      simp only [spec_l2Texts.l0] at H
      by_cases c2 : x3_1 < (l0.length : Int)
      · rw [if_pos c2] at H
        have c2b0 : decide (x3_1 < (l0.length : Int)) = true := decide_eq_true c2
        clear c2
        by_cases c3 : 0 ≤ x3_1
        · rw [if_pos c3] at H
          have c3b0 : decide (0 ≤ x3_1) = true := decide_eq_true c3
          clear c3
          by_cases c4 : ((rdOf ByteArray.empty l0 x3_1).size : Int) > 40
          · rw [if_pos c4] at H
            have c4b0 : decide (40 < ((rdOf ByteArray.empty l0 x3_1).size : Int)) = true := decide_eq_true c4
            have c4b1 : decide (40 < (rdOf ByteArray.empty l0 x3_1).size) = true := decide_eq_true (by omega)
            clear c4
            obtain rfl := Option.some.inj H
            have p113 : 0 ≤ (x3_1 : Int) := of_decide_eq_true ‹_›
            have q113 : x3_1 < (l0.length : Int) := of_decide_eq_true ‹_›
            obtain ⟨ad113, e113, hx113_0⟩ := Kd.at_string HR0.out x3_1 p113 q113
            cases e113
            replace p113 := eq_true p113
            replace q113 := eq_true q113
            go_wp2
            go_ret
            exact ⟨by first | rfl | (simp; done) | (simp [*]; done), by repeat (first | exact Drawn0.refl _ | apply Drawn0.step)⟩
          · rw [if_neg c4] at H
            have c4b0 : decide (40 < ((rdOf ByteArray.empty l0 x3_1).size : Int)) = false := decide_eq_false c4
            have c4b1 : decide (40 < (rdOf ByteArray.empty l0 x3_1).size) = false := decide_eq_false (by omega)
            clear c4
            have H' := zq9 H
            clear H
            have p113 : 0 ≤ (x3_1 : Int) := of_decide_eq_true ‹_›
            have q113 : x3_1 < (l0.length : Int) := of_decide_eq_true ‹_›
            obtain ⟨ad113, e113, hx113_0⟩ := Kd.at_string HR0.out x3_1 p113 q113
            cases e113
            replace p113 := eq_true p113
            replace q113 := eq_true q113
            go_wp2
            go_roundg k1
            case measure => have := HK1.out; omega
            case rel => exact ⟨(wrap64 (x3_1 + 1)), (by first | rfl | (simp; done) | (simp [*]; done)), H', ⟨by have := HK1.out; omega⟩, by repeat (first | exact Drawn0.refl _ | apply Drawn0.step)⟩
        · rw [if_neg c3] at H
          exact absurd H (by simp)
      · rw [if_neg c2] at H
        have c2b0 : decide (x3_1 < (l0.length : Int)) = false := decide_eq_false c2
        clear c2
        obtain rfl := Option.some.inj H
        go_wp2
        go_ret
        exact ⟨by first | rfl | (simp; done) | (simp [*]; done), by repeat (first | exact Drawn0.refl _ | apply Drawn0.step)⟩
set_option maxHeartbeats 8000000 in
set_option maxRecDepth 100000 in
theorem spec_SetOk.calls (k : Nat) (A0 : Option Addr) (c0 : Nat) (l0 : List ByteArray) (r : Bool) (w : World) (hr0 : Kd.C Kd.string w A0 l0.length l0) (hc0 : l0.length ≤ c0) (h : spec_SetOk.f k l0 = some r) :
  Calls Try.prog 42 #[.slice A0 l0.length c0] w fun e w' => e = .returned (.bool r) ∧ Drawn0 w w' := by
 have HR0 := zq9 hr0
 have HC0 := zq9 hc0
 clear hr0 hc0
 have H : (spec_SetOk.l0 k l0 1) = some r := h
 clear h
 have H' := zq9 H
 clear H
 go_enter Try.func42, Try.ntmps42
 go_wp2
 repeat (go_quiet (fail); try go_wp2)
 go_loopg [3] k (fun kq v3 w' => ∃ (x3_1 : Int), v3 = .int .i64 x3_1 ∧ Aside0 (spec_SetOk.l0 kq l0 x3_1 = some r) ∧ Aside0 (kq ≤ k) ∧ Drawn0 w w')
 case atStart => exact ⟨(1), (by first | rfl | (simp; done) | (simp [*]; done)), H', ⟨Nat.le_refl _⟩, by repeat (first | exact Drawn0.refl _ | apply Drawn0.step)⟩
 case round =>
  clear H'
  obtain ⟨x3_1, rfl, HA, HK1, ⟨m1, rfl⟩⟩ := hrel
  cases gk with
  | zero => exact absurd HA.out (by simp [spec_SetOk.l0])
  | succ k1 =>
   have H := HA.out
   clear HA
   simp only [spec_SetOk.l0] at H
   by_cases c2 : x3_1 < (l0.length : Int)
   ·rw [if_pos c2] at H
    have c2b0 : decide (x3_1 < (l0.length : Int)) = true := decide_eq_true c2
    clear c2
    obtain ⟨ji3, hji3⟩ : ∃ j_ : Int, (wrap64 (x3_1 - 1)) = j_ := ⟨_, rfl⟩
    replace H : (if 0 ≤ (ji3) then (if (ji3) < (l0.length : Int) then (if 0 ≤ x3_1 then (if ((Op.bytesLess ((rdOf ByteArray.empty l0 (ji3)).toList) ((rdOf ByteArray.empty l0 x3_1).toList)) = true) then (spec_SetOk.l0 k1 l0 (wrap64 (x3_1 + 1))) else (some false)) else (none)) else (none)) else (none)) = some r := by first | (rw [hji3] at H; exact H) | (simp only [hji3] at H ⊢; exact H)
    have hji3w : (IntKind.i64.wrap (x3_1 - 1)) = ji3 := (i64_w _).trans hji3
    by_cases c4 : 0 ≤ (ji3)
    ·rw [if_pos c4] at H
     have c4b0 : decide (0 ≤ (ji3)) = true := decide_eq_true c4
     clear c4
     by_cases c5 : (ji3) < (l0.length : Int)
     ·rw [if_pos c5] at H
      have c5b0 : decide ((ji3) < (l0.length : Int)) = true := decide_eq_true c5
      clear c5
      by_cases c6 : 0 ≤ x3_1
      ·rw [if_pos c6] at H
       have c6b0 : decide (0 ≤ x3_1) = true := decide_eq_true c6
       clear c6
       have p114 : 0 ≤ ((ji3) : Int) := of_decide_eq_true ‹_›
       have q114 : (ji3) < (l0.length : Int) := of_decide_eq_true ‹_›
       obtain ⟨ad114, e114, hx114_0⟩ := Kd.at_string HR0.out (ji3) p114 q114
       cases e114
       replace p114 := eq_true p114
       replace q114 := eq_true q114
       have p115 : 0 ≤ (x3_1 : Int) := of_decide_eq_true ‹_›
       have q115 : x3_1 < (l0.length : Int) := of_decide_eq_true ‹_›
       obtain ⟨ad115, e115, hx115_0⟩ := Kd.at_string HR0.out x3_1 p115 q115
       obtain rfl : ad114 = ad115 := (by injection e115)
       replace p115 := eq_true p115
       replace q115 := eq_true q115
       go_wp2
       by_cases c7 : ((Op.bytesLess ((rdOf ByteArray.empty l0 (ji3)).toList) ((rdOf ByteArray.empty l0 x3_1).toList)) = true)
       ·rw [if_pos c7] at H
        have c7b0 : (Op.bytesLess ((rdOf ByteArray.empty l0 (ji3)).toList) ((rdOf ByteArray.empty l0 x3_1).toList)) = true := c7
        clear c7
        have H' := zq9 H
        clear H
        repeat (go_quiet (fail); try go_wp2)
        go_roundg k1
        case measure => have := HK1.out; omega
        case rel => exact ⟨(wrap64 (x3_1 + 1)), (by first | rfl | (simp; done) | (simp [*]; done)), H', ⟨by have := HK1.out; omega⟩, by repeat (first | exact Drawn0.refl _ | apply Drawn0.step)⟩
       ·rw [if_neg c7] at H
        have c7b0 : (Op.bytesLess ((rdOf ByteArray.empty l0 (ji3)).toList) ((rdOf ByteArray.empty l0 x3_1).toList)) = false := by simpa using c7
        clear c7
        obtain rfl := Option.some.inj H
        repeat (go_quiet (fail); try go_wp2)
        go_ret
        exact ⟨by first | rfl | (simp; done) | (simp only [← hji3] <;> (first | rfl | simp)) | (simp [*]; done), by repeat (first | exact Drawn0.refl _ | apply Drawn0.step)⟩
      ·rw [if_neg c6] at H
       exact absurd H (by simp)
     ·rw [if_neg c5] at H
      exact absurd H (by simp)
    ·rw [if_neg c4] at H
     exact absurd H (by simp)
   ·rw [if_neg c2] at H
    have c2b0 : decide (x3_1 < (l0.length : Int)) = false := decide_eq_false c2
    clear c2
    replace H := Option.bind_eq_some_iff.mp H
    obtain ⟨t116, A80, H⟩ := H
    try dsimp only at H
    have A8 := zq9 A80
    clear A80
    obtain rfl := Option.some.inj H
    go_wp2_with (first | (go_at_call 41; (with_reducible refine (spec_l2Texts.calls k1 _ _ l0 t116 _ ?side1 ?side2 A8.out).mono ?_); (case side1 => repeat (first | exact HR0.out | (with_reducible refine zq18 ?_ _) | (with_reducible refine zq19 ?_ _) | (with_reducible refine zq20 ?_))); (case side2 => exact HC0.out); rintro e w' ⟨rfl, ⟨nd, rfl⟩⟩; (try first | exact ⟨rfl, _, zq32 _ _ _⟩ | exact ⟨rfl, _, Eq.trans (zq32 _ _ _) (congrArg (World.drewN _) (Nat.add_assoc _ _ _))⟩)))
    repeat (go_quiet (first | (go_at_call 41; (with_reducible refine (spec_l2Texts.calls k1 _ _ l0 t116 _ ?side1 ?side2 A8.out).mono ?_); (case side1 => repeat (first | exact HR0.out | (with_reducible refine zq18 ?_ _) | (with_reducible refine zq19 ?_ _) | (with_reducible refine zq20 ?_))); (case side2 => exact HC0.out); rintro e w' ⟨rfl, ⟨nd, rfl⟩⟩; (try first | exact ⟨rfl, _, zq32 _ _ _⟩ | exact ⟨rfl, _, Eq.trans (zq32 _ _ _) (congrArg (World.drewN _) (Nat.add_assoc _ _ _))⟩))); try go_wp2_with (first | (go_at_call 41; (with_reducible refine (spec_l2Texts.calls k1 _ _ l0 t116 _ ?side1 ?side2 A8.out).mono ?_); (case side1 => repeat (first | exact HR0.out | (with_reducible refine zq18 ?_ _) | (with_reducible refine zq19 ?_ _) | (with_reducible refine zq20 ?_))); (case side2 => exact HC0.out); rintro e w' ⟨rfl, ⟨nd, rfl⟩⟩; (try first | exact ⟨rfl, _, zq32 _ _ _⟩ | exact ⟨rfl, _, Eq.trans (zq32 _ _ _) (congrArg (World.drewN _) (Nat.add_assoc _ _ _))⟩))))
    go_ret
    exact ⟨by first | rfl | (simp; done) | (simp [*]; done), by repeat (first | exact Drawn0.refl _ | apply Drawn0.step)⟩
set_option maxHeartbeats 8000000 in
set_option maxRecDepth 100000 in
theorem spec_l3Ahead.calls (a0_0 : ByteArray) (a0_1 : Int) (a1_0 : ByteArray) (a1_1 : Int) (r : Bool) (w : World) (h : spec_l3Ahead.f a0_0 a0_1 a1_0 a1_1 = some r) :
    Calls Try.prog 81 #[.agg #[.string a0_0, .int .i64 a0_1], .agg #[.string a1_0, .int .i64 a1_1]] w fun e w' => e = .returned (.bool r) ∧ Below w.heap.size w w' := by
  have hu99 := Try.underlying99
  have HB := zq9 (Below.refl w.heap.size w)
  have H : (if a0_1 < a1_1 then (some true) else (if a0_1 = a1_1 then (some (Op.bytesLess a0_0.toList a1_0.toList)) else (some false))) = some r := h
  clear h
  go_enter Try.func81, Try.ntmps81
  by_cases c3 : a0_1 < a1_1
  · rw [if_pos c3] at H
    have c3b0 : decide (a0_1 < a1_1) = true := decide_eq_true c3
    clear c3
    obtain rfl := Option.some.inj H
    go_wp2_with (first | ((with_reducible refine zq25 (N := 2) rfl ?_); refine bx 2 #[.string a0_0, .int .i64 a0_1] 99 ?_; intro gb117 hg w4 hbox hb; have n0_ := zq9 (zq27 (by exact bl HB) hb); have n1_ := zq9 (hbox); have n2_ := zq9 ((by rw [hg]; exact (zq29 (by exact bl HB)) : w.heap.size ≤ gb117)); have n3_ := n2_; clear HB; have HB := n0_; have BK117 := n1_; have GW117 := n2_; have GE117 := n3_; clear n0_ n1_ n2_ n3_; clear hb hbox hg) | ((with_reducible refine zq25 (N := 3) rfl ?_); refine bx 3 #[.string a1_0, .int .i64 a1_1] 99 ?_; intro gb118 hg w5 hbox hb; have n0_ := zq9 (zq30 (g := gb117) (o := .cells #[.string a0_0, .int .i64 a0_1] 99 (0, 0)) (by exact bk BK117) hb); have n1_ := zq9 (zq27 (by exact b1 HB GE117) hb); have n2_ := zq9 (hbox); have n3_ := zq9 ((by rw [hg]; exact (zq29 (by exact b1 HB GE117)) : w.heap.size ≤ gb118)); have n4_ := n3_; have n5_ := zq9 ((by rw [hg]; exact Nat.ne_of_lt (blk_lt (g := gb117) (o := .cells #[.string a0_0, .int .i64 a0_1] 99 (0, 0)) (by exact bk BK117)) : gb117 ≠ gb118)); have n6_ := zq9 ((by rw [hg]; exact Nat.ne_of_gt (blk_lt (g := gb117) (o := .cells #[.string a0_0, .int .i64 a0_1] 99 (0, 0)) (by exact bk BK117)) : gb118 ≠ gb117)); clear BK117; clear HB; have BK117 := n0_; have HB := n1_; have BK118 := n2_; have GW118 := n3_; have GE118 := n4_; have NB117_118 := n5_; have NB118_117 := n6_; clear n0_ n1_ n2_ n3_ n4_ n5_ n6_; clear hb hbox hg; have hnb6 := NB117_118.out; have hnc6 := NB118_117.out; have hcz7_0 : w5.cell? ⟨gb117, 0, none⟩ = some (.string a0_0) := bc BK117 0; have hcz7_1 : w5.cell? ⟨gb117, 1, none⟩ = some (.int .i64 a0_1) := bc BK117 1; have hfz7_0 := zq6 BK117.out 0; have hfz7_1 := zq6 BK117.out 1; have hcz8_0 : w5.cell? ⟨gb118, 0, none⟩ = some (.string a1_0) := bc BK118 0; have hcz8_1 : w5.cell? ⟨gb118, 1, none⟩ = some (.int .i64 a1_1) := bc BK118 1; have hfz8_0 := zq6 BK118.out 0; have hfz8_1 := zq6 BK118.out 1))
    go_ret
    exact fz (by exact b2 HB GE117 GE118)
  · rw [if_neg c3] at H
    have c3b0 : decide (a0_1 < a1_1) = false := decide_eq_false c3
    clear c3
    by_cases c9 : a0_1 = a1_1
    · rw [if_pos c9] at H
      have c9b0 : (a0_1 == a1_1) = true := beq_iff_eq.mpr c9
      have c9b1 : (a0_1 != a1_1) = false := bne_eq_false_iff_eq.mpr c9
      clear c9
      obtain rfl := Option.some.inj H
      go_wp2_with (first | ((with_reducible refine zq25 (N := 2) rfl ?_); refine bx 2 #[.string a0_0, .int .i64 a0_1] 99 ?_; intro gb117 hg w10 hbox hb; have n0_ := zq9 (zq27 (by exact bl HB) hb); have n1_ := zq9 (hbox); have n2_ := zq9 ((by rw [hg]; exact (zq29 (by exact bl HB)) : w.heap.size ≤ gb117)); have n3_ := n2_; clear HB; have HB := n0_; have BK117 := n1_; have GW117 := n2_; have GE117 := n3_; clear n0_ n1_ n2_ n3_; clear hb hbox hg) | ((with_reducible refine zq25 (N := 3) rfl ?_); refine bx 3 #[.string a1_0, .int .i64 a1_1] 99 ?_; intro gb118 hg w11 hbox hb; have n0_ := zq9 (zq30 (g := gb117) (o := .cells #[.string a0_0, .int .i64 a0_1] 99 (0, 0)) (by exact bk BK117) hb); have n1_ := zq9 (zq27 (by exact b1 HB GE117) hb); have n2_ := zq9 (hbox); have n3_ := zq9 ((by rw [hg]; exact (zq29 (by exact b1 HB GE117)) : w.heap.size ≤ gb118)); have n4_ := n3_; have n5_ := zq9 ((by rw [hg]; exact Nat.ne_of_lt (blk_lt (g := gb117) (o := .cells #[.string a0_0, .int .i64 a0_1] 99 (0, 0)) (by exact bk BK117)) : gb117 ≠ gb118)); have n6_ := zq9 ((by rw [hg]; exact Nat.ne_of_gt (blk_lt (g := gb117) (o := .cells #[.string a0_0, .int .i64 a0_1] 99 (0, 0)) (by exact bk BK117)) : gb118 ≠ gb117)); clear BK117; clear HB; have BK117 := n0_; have HB := n1_; have BK118 := n2_; have GW118 := n3_; have GE118 := n4_; have NB117_118 := n5_; have NB118_117 := n6_; clear n0_ n1_ n2_ n3_ n4_ n5_ n6_; clear hb hbox hg; have hnb12 := NB117_118.out; have hnc12 := NB118_117.out; have hcz13_0 : w11.cell? ⟨gb117, 0, none⟩ = some (.string a0_0) := bc BK117 0; have hcz13_1 : w11.cell? ⟨gb117, 1, none⟩ = some (.int .i64 a0_1) := bc BK117 1; have hfz13_0 := zq6 BK117.out 0; have hfz13_1 := zq6 BK117.out 1; have hcz14_0 : w11.cell? ⟨gb118, 0, none⟩ = some (.string a1_0) := bc BK118 0; have hcz14_1 : w11.cell? ⟨gb118, 1, none⟩ = some (.int .i64 a1_1) := bc BK118 1; have hfz14_0 := zq6 BK118.out 0; have hfz14_1 := zq6 BK118.out 1))
      go_ret
      exact fz (by exact b2 HB GE117 GE118)
    · rw [if_neg c9] at H
      have c9b0 : (a0_1 == a1_1) = false := beq_eq_false_iff_ne.mpr c9
      have c9b1 : (a0_1 != a1_1) = true := bne_iff_ne.mpr c9
      obtain rfl := Option.some.inj H
      go_wp2_with (first | ((with_reducible refine zq25 (N := 2) rfl ?_); refine bx 2 #[.string a0_0, .int .i64 a0_1] 99 ?_; intro gb117 hg w10 hbox hb; have n0_ := zq9 (zq27 (by exact bl HB) hb); have n1_ := zq9 (hbox); have n2_ := zq9 ((by rw [hg]; exact (zq29 (by exact bl HB)) : w.heap.size ≤ gb117)); have n3_ := n2_; clear HB; have HB := n0_; have BK117 := n1_; have GW117 := n2_; have GE117 := n3_; clear n0_ n1_ n2_ n3_; clear hb hbox hg) | ((with_reducible refine zq25 (N := 3) rfl ?_); refine bx 3 #[.string a1_0, .int .i64 a1_1] 99 ?_; intro gb118 hg w11 hbox hb; have n0_ := zq9 (zq30 (g := gb117) (o := .cells #[.string a0_0, .int .i64 a0_1] 99 (0, 0)) (by exact bk BK117) hb); have n1_ := zq9 (zq27 (by exact b1 HB GE117) hb); have n2_ := zq9 (hbox); have n3_ := zq9 ((by rw [hg]; exact (zq29 (by exact b1 HB GE117)) : w.heap.size ≤ gb118)); have n4_ := n3_; have n5_ := zq9 ((by rw [hg]; exact Nat.ne_of_lt (blk_lt (g := gb117) (o := .cells #[.string a0_0, .int .i64 a0_1] 99 (0, 0)) (by exact bk BK117)) : gb117 ≠ gb118)); have n6_ := zq9 ((by rw [hg]; exact Nat.ne_of_gt (blk_lt (g := gb117) (o := .cells #[.string a0_0, .int .i64 a0_1] 99 (0, 0)) (by exact bk BK117)) : gb118 ≠ gb117)); clear BK117; clear HB; have BK117 := n0_; have HB := n1_; have BK118 := n2_; have GW118 := n3_; have GE118 := n4_; have NB117_118 := n5_; have NB118_117 := n6_; clear n0_ n1_ n2_ n3_ n4_ n5_ n6_; clear hb hbox hg; have hnb12 := NB117_118.out; have hnc12 := NB118_117.out; have hcz13_0 : w11.cell? ⟨gb117, 0, none⟩ = some (.string a0_0) := bc BK117 0; have hcz13_1 : w11.cell? ⟨gb117, 1, none⟩ = some (.int .i64 a0_1) := bc BK117 1; have hfz13_0 := zq6 BK117.out 0; have hfz13_1 := zq6 BK117.out 1; have hcz14_0 : w11.cell? ⟨gb118, 0, none⟩ = some (.string a1_0) := bc BK118 0; have hcz14_1 : w11.cell? ⟨gb118, 1, none⟩ = some (.int .i64 a1_1) := bc BK118 1; have hfz14_0 := zq6 BK118.out 0; have hfz14_1 := zq6 BK118.out 1))
      go_ret
      exact fz (by exact b2 HB GE117 GE118)
def spec_ScoresOk.T4 : Bool × List (List Nat × List Nat) := (true, [([], []), ([], []), ([0, 1], [0, 1]), ([2], [2]), ([3], [3]), ([4], [4]), ([5], [5]), ([6], [6]), ([7], [7]), ([7], [7]), ([8, 9, 7], [7, 8, 9]), ([10, 7], [7, 10]), ([11, 7], [7, 11]), ([12, 7, 7], [7, 12]), ([13, 7], [7, 13]), ([7, 14], [7, 14]), ([15, 13], [15]), ([16], [16]), ([17, 16], [16, 17]), ([18, 16, 16], [16, 18]), ([19], [19]), ([19], [19]), ([21, 19], [19, 21]), ([20, 22, 19], [19, 20, 22]), ([23, 19], [19, 23]), ([19], [19]), ([19], [19]), ([25, 26, 19], [19, 25, 26]), ([27, 19], [19, 27]), ([24, 28, 19, 19], [19, 24, 28]), ([29, 19], [19, 29]), ([19, 30, 16], [16, 19, 30]), ([16, 31], [16, 31])])
def spec_ScoresOk.B4 : List Nat := [0, 0, 3, 7, 15, 31, 63, 127, 255, 255, 1023, 2047, 4095, 8191, 16383, 32767, 65535, 131071, 262143, 524287, 1048575, 1048575, 3145727, 8388607, 16777215, 1048575, 1048575, 101711871, 235929599, 536870911, 1073741823, 2147483647, 4294967295]
theorem spec_ScoresOk.tab4 : rtab .any (opsOf Try.f43 4) = spec_ScoresOk.T4 := by kernel_rfl
theorem spec_ScoresOk.bits4 : waitsOk spec_ScoresOk.T4.2 spec_ScoresOk.B4 = true := by kernel_rfl
def spec_ScoresOk.T9 : Bool × List (List Nat × List Nat) := (true, [([], []), ([], []), ([0, 1], [0, 1]), ([2], [2]), ([3], [3]), ([], []), ([], []), ([5, 6], [5, 6]), ([7], [7]), ([8], [8]), ([4, 9], [4, 9])])
def spec_ScoresOk.B9 : List Nat := [0, 0, 3, 7, 15, 0, 0, 96, 224, 480, 1023]
theorem spec_ScoresOk.tab9 : rtab .any (opsOf Try.f43 9) = spec_ScoresOk.T9 := by kernel_rfl
theorem spec_ScoresOk.bits9 : waitsOk spec_ScoresOk.T9.2 spec_ScoresOk.B9 = true := by kernel_rfl
set_option maxHeartbeats 8000000 in
set_option maxRecDepth 100000 in
theorem spec_ScoresOk.calls (k : Nat) (A0 : Option Addr) (c0 : Nat) (l0 : List (S99)) (r : Bool) (w : World) (hr0 : Kd.C k99 w A0 l0.length l0) (hc0 : l0.length ≤ c0) (h : spec_ScoresOk.f k l0 = some r) :
  Calls Try.prog 43 #[.slice A0 l0.length c0] w fun e w' => e = .returned (.bool r) ∧ Below w.heap.size w w' := by
 have hu99 := Try.underlying99
 have HR0 := zq9 hr0
 have HC0 := zq9 hc0
 clear hr0 hc0
 have HB := zq9 (Below.refl w.heap.size w)
 have H : (spec_ScoresOk.l0 k l0 0) = some r := h
 clear h
 have H' := zq9 H
 clear H
 go_enter Try.func43, Try.ntmps43
 go_wp2
 go_loopg [3] k (fun kq v3 w' => ∃ (x3_1 : Int), v3 = .int .i64 x3_1 ∧ Aside0 (spec_ScoresOk.l0 kq l0 x3_1 = some r) ∧ Aside0 (kq ≤ k) ∧ Aside0 (Below w.heap.size w w'))
 case atStart => exact ⟨(0), (by first | rfl | (simp; done) | (simp [*]; done)), H', ⟨Nat.le_refl _⟩, ⟨by exact bl HB⟩⟩
 case round =>
  clear H'
  obtain ⟨x3_1, rfl, HA, HK1, HB⟩ := hrel
  cases gk with
  | zero => exact absurd HA.out (by simp [spec_ScoresOk.l0])
  | succ k1 =>
   have H := HA.out
   clear HA
   simp only [spec_ScoresOk.l0] at H
   by_cases c2 : x3_1 < (l0.length : Int)
   ·rw [if_pos c2] at H
    have c2b0 : decide (x3_1 < (l0.length : Int)) = true := decide_eq_true c2
    clear c2
    have HC3 := zq9 H
    clear H
    go_upto_region 4 with (fail)
    go_cut [43] (fun v43 wc => ∃ (kq : Nat) (x43_2 : Bool), v43 = .bool x43_2 ∧ Aside0 (spec_ScoresOk.j1 kq l0 x3_1 x43_2 = some r) ∧ Aside0 (kq ≤ k1) ∧ Aside0 (Below w.heap.size w wc))
    case first =>
     have H := HC3.out
     clear HC3
     by_cases c4 : 0 ≤ x3_1
     ·rw [if_pos c4] at H
      have c4b0 : decide (0 ≤ x3_1) = true := decide_eq_true c4
      clear c4
      (first | rw [c4b0] | (simp only [i64_w, i32_w]; rw [c4b0]) | skip)
      try go_wp2
      have n0_ := zq9 (zq4 HB.out)
      clear HB
      have HB := n0_
      clear n0_
      have p119 : 0 ≤ (x3_1 : Int) := of_decide_eq_true ‹_›
      have q119 : x3_1 < (l0.length : Int) := of_decide_eq_true ‹_›
      obtain ⟨ad119, e119, hx119_0, hx119_1⟩ := at_T99 HR0.out x3_1 p119 q119
      have hw119_1 := hx119_1
      have hw119_0 := hx119_0
      cases e119
      replace hx119_0 := (HB.out.cell (zq8 w _ hx119_0)).trans hx119_0
      replace hx119_1 := (HB.out.cell (zq8 w _ hx119_1)).trans hx119_1
      replace p119 := eq_true p119
      replace q119 := eq_true q119
      by_cases c5 : (((rd_T99 l0 x3_1).f0).size : Int) > 40
      ·rw [if_pos c5] at H
       have c5b0 : decide (40 < (((rd_T99 l0 x3_1).f0).size : Int)) = true := decide_eq_true c5
       have c5b1 : decide (40 < ((rd_T99 l0 x3_1).f0).size) = true := decide_eq_true (by omega)
       clear c5
       have H' := zq9 H
       clear H
       refine start_ (n := 33) (S := fun w' => w'.cell? (ad119.add ((x3_1).toNat * 2)) = some (.string ((rd_T99 l0 x3_1).f0)) ∧ w'.cell? ⟨(ad119.add ((x3_1).toNat * 2)).block, (ad119.add ((x3_1).toNat * 2)).off + 1, none⟩ = some (.int .i64 ((rd_T99 l0 x3_1).f1))) (ds := []) #[false, false, false, false, false, false, false, false, false, false, false, false, false, false, false, false, false, false, false, false, false, false, false, false, false, false, false, false, false, false, false, false, false] (by kernel_rfl) rfl rfl ⟨((HB.out.cell (zq8 w _ hw119_0)).trans hw119_0), ((HB.out.cell (zq8 w _ hw119_1)).trans hw119_1)⟩ (fun hHeld => ?_); refine with_tabW spec_ScoresOk.tab4 spec_ScoresOk.bits4 (fun HT_ HW_ => ?_)
       generalize wr.drew = w6 at HB hx119_0 hx119_1 hHeld ⊢
       refine pa HT_ 0 11 (zb 33 1) ?_
       refine pa HT_ 1 12 (zb 33 3) ?_
       refine pa HT_ 2 13 (zb 33 7) ?_
       refine pa HT_ 3 14 (zb 33 15) ?_
       refine take_ (i := 4) (N := some 15) (v := ?_) (a' := ?_) (zb 33 31) rfl rfl (take_ofW HT_.out HW_.out (by kernel_rfl)) (fun _ _ _ h => h) (Or.inl ⟨by rfl, ?_⟩) hHeld ?_ ?_
       rotate_left; ·rintro w' ⟨s0, s1⟩; go_simp; with_reducible rfl
       rotate_left; ·simp only [Act.put, zq0, zq1, zq2, i64_w, i32_w]; rfl
       refine pa HT_ 5 16 (zb 33 63) ?_
       refine pa HT_ 6 17 (zb 33 127) ?_
       refine pa HT_ 7 18 (zb 33 255) ?_
       refine pb HT_ 8 19 (zb 33 511) ?_
       refine pb HT_ 9 20 (zb 33 1023) ?_
       refine pb HT_ 10 21 (zb 33 2047) ?_
       refine pb HT_ 11 22 (zb 33 4095) ?_
       refine pb HT_ 12 23 (zb 33 8191) ?_
       refine pb HT_ 13 24 (zb 33 16383) ?_
       refine pb HT_ 14 25 (zb 33 32767) ?_
       refine pa HT_ 15 26 (zb 33 65535) ?_
       refine pa HT_ 16 27 (zb 33 131071) ?_
       refine pb HT_ 17 28 (zb 33 262143) ?_
       refine pb HT_ 18 29 (zb 33 524287) ?_
       refine pb HT_ 19 30 (zb 33 1048575) ?_
       refine pb HT_ 20 31 (zb 33 2097151) ?_
       refine pb HT_ 21 32 (zb 33 4194303) ?_
       refine pb HT_ 22 33 (zb 33 8388607) ?_
       refine pb HT_ 23 34 (zb 33 16777215) ?_
       refine pb HT_ 24 35 (zb 33 33554431) ?_
       refine pb HT_ 25 36 (zb 33 67108863) ?_
       refine pb HT_ 26 37 (zb 33 134217727) ?_
       refine pb HT_ 27 38 (zb 33 268435455) ?_
       refine pb HT_ 28 39 (zb 33 536870911) ?_
       refine pb HT_ 29 40 (zb 33 1073741823) ?_
       refine pb HT_ 30 41 (zb 33 2147483647) ?_
       refine pb HT_ 31 42 (zb 33 4294967295) ?_
       refine pa HT_ 32 43 (zb 33 8589934591) ?_
       refine done_ (done_of HT_.out (by kernel_rfl)) ?_
       try go_wp2
       go_meet
       case rel => exact ⟨_, (true), (by first | rfl | (simp; done) | (simp [*]; done)), H', ⟨by have := HK1.out; first | omega | exact Nat.le_refl _⟩, ⟨by exact bl HB⟩⟩
      ·rw [if_neg c5] at H
       have c5b0 : decide (40 < (((rd_T99 l0 x3_1).f0).size : Int)) = false := decide_eq_false c5
       have c5b1 : decide (40 < ((rd_T99 l0 x3_1).f0).size) = false := decide_eq_false (by omega)
       clear c5
       replace H := Option.bind_eq_some_iff.mp H
       obtain ⟨t121, A70, H⟩ := H
       try dsimp only at H
       have A7 := zq9 A70
       clear A70
       have p120 : 0 ≤ (x3_1 : Int) := of_decide_eq_true ‹_›
       have q120 : x3_1 < (l0.length : Int) := of_decide_eq_true ‹_›
       obtain ⟨ad120, e120, hx120_0, hx120_1⟩ := at_T99 HR0.out x3_1 p120 q120
       have hw120_1 := hx120_1
       have hw120_0 := hx120_0
       obtain rfl : ad119 = ad120 := (by injection e120)
       replace hx120_0 := (HB.out.cell (zq8 w _ hx120_0)).trans hx120_0
       replace hx120_1 := (HB.out.cell (zq8 w _ hx120_1)).trans hx120_1
       replace p120 := eq_true p120
       replace q120 := eq_true q120
       by_cases c8 : t121 = true
       ·subst c8
        have H1 : (if x3_1 > 0 then (if 0 ≤ (wrap64 (x3_1 - 1)) then (if (wrap64 (x3_1 - 1)) < (l0.length : Int) then ((spec_l3Ahead.f ((rd_T99 l0 (wrap64 (x3_1 - 1))).f0) ((rd_T99 l0 (wrap64 (x3_1 - 1))).f1) ((rd_T99 l0 x3_1).f0) ((rd_T99 l0 x3_1).f1)).bind fun t124 => (spec_ScoresOk.j1 k1 l0 x3_1 (!t124))) else (none)) else (none)) else (spec_ScoresOk.j1 k1 l0 x3_1 false)) = some r := by rw [if_pos rfl] at H; exact H
        clear H
        have H := H1
        clear H1
        by_cases c9 : x3_1 > 0
        ·rw [if_pos c9] at H
         have c9b0 : decide (0 < x3_1) = true := decide_eq_true c9
         clear c9
         obtain ⟨ji10, hji10⟩ : ∃ j_ : Int, (wrap64 (x3_1 - 1)) = j_ := ⟨_, rfl⟩
         replace H : (if 0 ≤ (ji10) then (if (ji10) < (l0.length : Int) then ((spec_l3Ahead.f ((rd_T99 l0 (ji10)).f0) ((rd_T99 l0 (ji10)).f1) ((rd_T99 l0 x3_1).f0) ((rd_T99 l0 x3_1).f1)).bind fun t124 => (spec_ScoresOk.j1 k1 l0 x3_1 (!t124))) else (none)) else (none)) = some r := by first | (rw [hji10] at H; exact H) | (simp only [hji10] at H ⊢; exact H)
         (try rw [hji10] at A7)
         have hji10w : (IntKind.i64.wrap (x3_1 - 1)) = ji10 := (i64_w _).trans hji10
         by_cases c11 : 0 ≤ (ji10)
         ·rw [if_pos c11] at H
          have c11b0 : decide (0 ≤ (ji10)) = true := decide_eq_true c11
          clear c11
          by_cases c12 : (ji10) < (l0.length : Int)
          ·rw [if_pos c12] at H
           have c12b0 : decide ((ji10) < (l0.length : Int)) = true := decide_eq_true c12
           clear c12
           replace H := Option.bind_eq_some_iff.mp H
           obtain ⟨t124, A130, H⟩ := H
           try dsimp only at H
           have A13 := zq9 A130
           clear A130
           have H' := zq9 H
           clear H
           have p122 : 0 ≤ ((ji10) : Int) := of_decide_eq_true ‹_›
           have q122 : (ji10) < (l0.length : Int) := of_decide_eq_true ‹_›
           obtain ⟨ad122, e122, hx122_0, hx122_1⟩ := at_T99 HR0.out (ji10) p122 q122
           have hw122_1 := hx122_1
           have hw122_0 := hx122_0
           obtain rfl : ad119 = ad122 := (by injection e122)
           replace hx122_0 := (HB.out.cell (zq8 w _ hx122_0)).trans hx122_0
           replace hx122_1 := (HB.out.cell (zq8 w _ hx122_1)).trans hx122_1
           replace p122 := eq_true p122
           replace q122 := eq_true q122
           have p123 : 0 ≤ (x3_1 : Int) := of_decide_eq_true ‹_›
           have q123 : x3_1 < (l0.length : Int) := of_decide_eq_true ‹_›
           obtain ⟨ad123, e123, hx123_0, hx123_1⟩ := at_T99 HR0.out x3_1 p123 q123
           have hw123_1 := hx123_1
           have hw123_0 := hx123_0
           obtain rfl : ad119 = ad123 := (by injection e123)
           replace hx123_0 := (HB.out.cell (zq8 w _ hx123_0)).trans hx123_0
           replace hx123_1 := (HB.out.cell (zq8 w _ hx123_1)).trans hx123_1
           replace p123 := eq_true p123
           replace q123 := eq_true q123
           refine start_ (n := 33) (S := fun w' => w'.cell? (ad119.add ((x3_1).toNat * 2)) = some (.string ((rd_T99 l0 x3_1).f0)) ∧ w'.cell? ⟨(ad119.add ((x3_1).toNat * 2)).block, (ad119.add ((x3_1).toNat * 2)).off + 1, none⟩ = some (.int .i64 ((rd_T99 l0 x3_1).f1)) ∧ w'.cell? (ad119.add ((x3_1).toNat * 2)) = some (.string ((rd_T99 l0 x3_1).f0)) ∧ w'.cell? ⟨(ad119.add ((x3_1).toNat * 2)).block, (ad119.add ((x3_1).toNat * 2)).off + 1, none⟩ = some (.int .i64 ((rd_T99 l0 x3_1).f1)) ∧ w'.cell? (ad119.add (((ji10)).toNat * 2)) = some (.string ((rd_T99 l0 (ji10)).f0)) ∧ w'.cell? ⟨(ad119.add (((ji10)).toNat * 2)).block, (ad119.add (((ji10)).toNat * 2)).off + 1, none⟩ = some (.int .i64 ((rd_T99 l0 (ji10)).f1)) ∧ w'.cell? (ad119.add ((x3_1).toNat * 2)) = some (.string ((rd_T99 l0 x3_1).f0)) ∧ w'.cell? ⟨(ad119.add ((x3_1).toNat * 2)).block, (ad119.add ((x3_1).toNat * 2)).off + 1, none⟩ = some (.int .i64 ((rd_T99 l0 x3_1).f1))) (ds := []) #[false, false, false, false, false, false, false, false, false, false, false, false, false, false, false, false, false, false, false, false, false, false, false, false, false, false, false, false, false, false, false, false, false] (by kernel_rfl) rfl rfl ⟨((HB.out.cell (zq8 w _ hw119_0)).trans hw119_0), ((HB.out.cell (zq8 w _ hw119_1)).trans hw119_1), ((HB.out.cell (zq8 w _ hw120_0)).trans hw120_0), ((HB.out.cell (zq8 w _ hw120_1)).trans hw120_1), ((HB.out.cell (zq8 w _ hw122_0)).trans hw122_0), ((HB.out.cell (zq8 w _ hw122_1)).trans hw122_1), ((HB.out.cell (zq8 w _ hw123_0)).trans hw123_0), ((HB.out.cell (zq8 w _ hw123_1)).trans hw123_1)⟩ (fun hHeld => ?_); refine with_tabW spec_ScoresOk.tab4 spec_ScoresOk.bits4 (fun HT_ HW_ => ?_)
           generalize wr.drew = w14 at HB hx119_0 hx119_1 hx120_0 hx120_1 hx122_0 hx122_1 hx123_0 hx123_1 hHeld ⊢
           refine pa HT_ 0 11 (zb 33 1) ?_
           refine pa HT_ 1 12 (zb 33 3) ?_
           refine pa HT_ 2 13 (zb 33 7) ?_
           refine pa HT_ 3 14 (zb 33 15) ?_
           refine take_ (i := 4) (N := some 15) (v := ?_) (a' := ?_) (zb 33 31) rfl rfl (take_ofW HT_.out HW_.out (by kernel_rfl)) (fun _ _ _ h => h) (Or.inl ⟨by rfl, ?_⟩) hHeld ?_ ?_
           rotate_left; ·rintro w' ⟨s0, s1, s2, s3, s4, s5, s6, s7⟩; go_simp; with_reducible rfl
           rotate_left; ·simp only [Act.put, zq0, zq1, zq2, i64_w, i32_w]; rfl
           refine pa HT_ 5 16 (zb 33 63) ?_
           refine pa HT_ 6 17 (zb 33 127) ?_
           refine pa HT_ 7 18 (zb 33 255) ?_
           refine pa HT_ 8 19 (zb 33 511) ?_
           refine pa HT_ 9 20 (zb 33 1023) ?_
           refine pa HT_ 10 21 (zb 33 2047) ?_
           refine pa HT_ 11 22 (zb 33 4095) ?_
           refine take_ (i := 12) (N := some 23) (v := ?_) (a' := ?_) (zb 33 8191) rfl rfl (take_ofW HT_.out HW_.out (by kernel_rfl)) (fun _ _ _ h => h) (Or.inl ⟨by rfl, ?_⟩) hHeld ?_ ?_
           rotate_left; ·rintro w' ⟨s0, s1, s2, s3, s4, s5, s6, s7⟩; go_simp; with_reducible rfl
           rotate_left; ·simp only [Act.put, zq0, zq1, zq2, i64_w, i32_w]; rfl
           refine one_ (i := 13) (N := some 24) (zb 33 16383) rfl rfl (one_of HT_.out (by kernel_rfl)) (by decide) (fun K hK => ?_)
           refine gs Try.func40 #[.int .i64 ((rd_T99 l0 x3_1).f1), .int .i64 (-1000000000), .int .i64 1000000000] ?_
           with_reducible refine (spec_l1In.calls ((rd_T99 l0 x3_1).f1) (-1000000000) 1000000000 true _ A7.out).mono ?_
           rintro e w' ⟨rfl, ⟨nd, rfl⟩⟩
           refine ⟨_, rfl, ?_⟩
           refine hK.out _ _ ⟨((HB.out.cell (zq8 w _ hw119_0)).trans hw119_0), ((HB.out.cell (zq8 w _ hw119_1)).trans hw119_1), ((HB.out.cell (zq8 w _ hw120_0)).trans hw120_0), ((HB.out.cell (zq8 w _ hw120_1)).trans hw120_1), ((HB.out.cell (zq8 w _ hw122_0)).trans hw122_0), ((HB.out.cell (zq8 w _ hw122_1)).trans hw122_1), ((HB.out.cell (zq8 w _ hw123_0)).trans hw123_0), ((HB.out.cell (zq8 w _ hw123_1)).trans hw123_1)⟩ (fun hHeld => ?_)
           clear hK K
           refine norm_ (a' := ?_) ?_ ?_
           rotate_left; ·show Act.put _ (some 24) _ = _; simp only [Act.put, zq0, zq1, zq2, i64_w, i32_w]; rfl
           refine pa HT_ 14 25 (zb 33 32767) ?_
           refine pa HT_ 15 26 (zb 33 65535) ?_
           refine pa HT_ 16 27 (zb 33 131071) ?_
           refine pa HT_ 17 28 (zb 33 262143) ?_
           refine pa HT_ 18 29 (zb 33 524287) ?_
           refine pa HT_ 19 30 (zb 33 1048575) ?_
           refine pa HT_ 20 31 (zb 33 2097151) ?_
           refine pa HT_ 21 32 (zb 33 4194303) ?_
           refine pa HT_ 22 33 (zb 33 8388607) ?_
           refine pa HT_ 23 34 (zb 33 16777215) ?_
           refine pa HT_ 25 36 (zb 33 50331647) ?_
           refine pa HT_ 26 37 (zb 33 117440511) ?_
           refine pa HT_ 27 38 (zb 33 251658239) ?_
           refine take_ (i := 24) (N := some 35) (v := ?_) (a' := ?_) (zb 33 268435455) rfl rfl (take_ofW HT_.out HW_.out (by kernel_rfl)) (fun _ _ _ h => h) (Or.inl ⟨by rfl, ?_⟩) hHeld ?_ ?_
           rotate_left; ·rintro w' ⟨s0, s1, s2, s3, s4, s5, s6, s7⟩; go_simp; with_reducible rfl
           rotate_left; ·simp only [Act.put, zq0, zq1, zq2, i64_w, i32_w]; rfl
           refine take_ (i := 28) (N := some 39) (v := ?_) (a' := ?_) (zb 33 536870911) rfl rfl (take_ofW HT_.out HW_.out (by kernel_rfl)) (fun _ _ _ h => h) (Or.inl ⟨by rfl, ?_⟩) hHeld ?_ ?_
           rotate_left; ·rintro w' ⟨s0, s1, s2, s3, s4, s5, s6, s7⟩; go_simp; with_reducible rfl
           rotate_left; ·simp only [Act.put, zq0, zq1, zq2, i64_w, i32_w]; rfl
           refine one_ (i := 29) (N := some 40) (zb 33 1073741823) rfl rfl (one_of HT_.out (by kernel_rfl)) (by decide) (fun K hK => ?_)
           refine goes_ Try.func81 (by kernel_rfl) rfl #[.agg #[.string ((rd_T99 l0 (ji10)).f0), .int .i64 ((rd_T99 l0 (ji10)).f1)], .agg #[.string ((rd_T99 l0 x3_1).f0), .int .i64 ((rd_T99 l0 x3_1).f1)]] (by rfl) rfl rfl (by (try simp only [List.map_toArray, List.map_cons, List.map_nil]); first | done | (simp only [hji10]; rfl) | rfl | (simp only [zq33, zq34]; rfl)) ?_
           with_reducible refine (spec_l3Ahead.calls ((rd_T99 l0 (ji10)).f0) ((rd_T99 l0 (ji10)).f1) ((rd_T99 l0 x3_1).f0) ((rd_T99 l0 x3_1).f1) t124 _ A13.out).mono ?_
           rintro e w15 ⟨rfl, hb⟩
           refine ⟨_, rfl, ?_⟩
           have n0_ := zq9 (zq27 (by exact bl HB) hb)
           clear HB
           have HB := n0_
           clear n0_
           (try clear hb)
           (try clear hb2)
           (try clear hk)
           (try clear hi)
           refine hK.out _ _ ⟨((HB.out.cell (zq8 w _ hw119_0)).trans hw119_0), ((HB.out.cell (zq8 w _ hw119_1)).trans hw119_1), ((HB.out.cell (zq8 w _ hw120_0)).trans hw120_0), ((HB.out.cell (zq8 w _ hw120_1)).trans hw120_1), ((HB.out.cell (zq8 w _ hw122_0)).trans hw122_0), ((HB.out.cell (zq8 w _ hw122_1)).trans hw122_1), ((HB.out.cell (zq8 w _ hw123_0)).trans hw123_0), ((HB.out.cell (zq8 w _ hw123_1)).trans hw123_1)⟩ (fun hHeld => ?_)
           clear hK K
           refine norm_ (a' := ?_) ?_ ?_
           rotate_left; ·show Act.put _ (some 40) _ = _; simp only [Act.put, zq0, zq1, zq2, i64_w, i32_w]; rfl
           refine pa HT_ 30 41 (zb 33 2147483647) ?_
           refine pa HT_ 31 42 (zb 33 4294967295) ?_
           refine pa HT_ 32 43 (zb 33 8589934591) ?_
           refine done_ (done_of HT_.out (by kernel_rfl)) ?_
           try go_wp2
           go_meet
           case rel => exact ⟨_, (!t124), (by first | rfl | (simp; done) | (simp [*]; done)), H', ⟨by have := HK1.out; first | omega | exact Nat.le_refl _⟩, ⟨by exact bl HB⟩⟩
          ·rw [if_neg c12] at H
           exact absurd H (by simp)
         ·rw [if_neg c11] at H
          exact absurd H (by simp)
        ·rw [if_neg c9] at H
         have c9b0 : decide (0 < x3_1) = false := decide_eq_false c9
         clear c9
         have H' := zq9 H
         clear H
         refine start_ (n := 33) (S := fun w' => w'.cell? (ad119.add ((x3_1).toNat * 2)) = some (.string ((rd_T99 l0 x3_1).f0)) ∧ w'.cell? ⟨(ad119.add ((x3_1).toNat * 2)).block, (ad119.add ((x3_1).toNat * 2)).off + 1, none⟩ = some (.int .i64 ((rd_T99 l0 x3_1).f1)) ∧ w'.cell? (ad119.add ((x3_1).toNat * 2)) = some (.string ((rd_T99 l0 x3_1).f0)) ∧ w'.cell? ⟨(ad119.add ((x3_1).toNat * 2)).block, (ad119.add ((x3_1).toNat * 2)).off + 1, none⟩ = some (.int .i64 ((rd_T99 l0 x3_1).f1))) (ds := []) #[false, false, false, false, false, false, false, false, false, false, false, false, false, false, false, false, false, false, false, false, false, false, false, false, false, false, false, false, false, false, false, false, false] (by kernel_rfl) rfl rfl ⟨((HB.out.cell (zq8 w _ hw119_0)).trans hw119_0), ((HB.out.cell (zq8 w _ hw119_1)).trans hw119_1), ((HB.out.cell (zq8 w _ hw120_0)).trans hw120_0), ((HB.out.cell (zq8 w _ hw120_1)).trans hw120_1)⟩ (fun hHeld => ?_); refine with_tabW spec_ScoresOk.tab4 spec_ScoresOk.bits4 (fun HT_ HW_ => ?_)
         generalize wr.drew = w16 at HB hx119_0 hx119_1 hx120_0 hx120_1 hHeld ⊢
         refine pa HT_ 0 11 (zb 33 1) ?_
         refine pa HT_ 1 12 (zb 33 3) ?_
         refine pa HT_ 2 13 (zb 33 7) ?_
         refine pa HT_ 3 14 (zb 33 15) ?_
         refine take_ (i := 4) (N := some 15) (v := ?_) (a' := ?_) (zb 33 31) rfl rfl (take_ofW HT_.out HW_.out (by kernel_rfl)) (fun _ _ _ h => h) (Or.inl ⟨by rfl, ?_⟩) hHeld ?_ ?_
         rotate_left; ·rintro w' ⟨s0, s1, s2, s3⟩; go_simp; with_reducible rfl
         rotate_left; ·simp only [Act.put, zq0, zq1, zq2, i64_w, i32_w]; rfl
         refine pa HT_ 5 16 (zb 33 63) ?_
         refine pa HT_ 6 17 (zb 33 127) ?_
         refine pa HT_ 7 18 (zb 33 255) ?_
         refine pa HT_ 8 19 (zb 33 511) ?_
         refine pa HT_ 9 20 (zb 33 1023) ?_
         refine pa HT_ 10 21 (zb 33 2047) ?_
         refine pa HT_ 11 22 (zb 33 4095) ?_
         refine take_ (i := 12) (N := some 23) (v := ?_) (a' := ?_) (zb 33 8191) rfl rfl (take_ofW HT_.out HW_.out (by kernel_rfl)) (fun _ _ _ h => h) (Or.inl ⟨by rfl, ?_⟩) hHeld ?_ ?_
         rotate_left; ·rintro w' ⟨s0, s1, s2, s3⟩; go_simp; with_reducible rfl
         rotate_left; ·simp only [Act.put, zq0, zq1, zq2, i64_w, i32_w]; rfl
         refine one_ (i := 13) (N := some 24) (zb 33 16383) rfl rfl (one_of HT_.out (by kernel_rfl)) (by decide) (fun K hK => ?_)
         refine gs Try.func40 #[.int .i64 ((rd_T99 l0 x3_1).f1), .int .i64 (-1000000000), .int .i64 1000000000] ?_
         with_reducible refine (spec_l1In.calls ((rd_T99 l0 x3_1).f1) (-1000000000) 1000000000 true _ A7.out).mono ?_
         rintro e w' ⟨rfl, ⟨nd, rfl⟩⟩
         refine ⟨_, rfl, ?_⟩
         refine hK.out _ _ ⟨((HB.out.cell (zq8 w _ hw119_0)).trans hw119_0), ((HB.out.cell (zq8 w _ hw119_1)).trans hw119_1), ((HB.out.cell (zq8 w _ hw120_0)).trans hw120_0), ((HB.out.cell (zq8 w _ hw120_1)).trans hw120_1)⟩ (fun hHeld => ?_)
         clear hK K
         refine norm_ (a' := ?_) ?_ ?_
         rotate_left; ·show Act.put _ (some 24) _ = _; simp only [Act.put, zq0, zq1, zq2, i64_w, i32_w]; rfl
         refine pa HT_ 14 25 (zb 33 32767) ?_
         refine pa HT_ 15 26 (zb 33 65535) ?_
         refine pa HT_ 16 27 (zb 33 131071) ?_
         refine pa HT_ 17 28 (zb 33 262143) ?_
         refine pa HT_ 18 29 (zb 33 524287) ?_
         refine pa HT_ 19 30 (zb 33 1048575) ?_
         refine pb HT_ 20 31 (zb 33 2097151) ?_
         refine pb HT_ 21 32 (zb 33 4194303) ?_
         refine pb HT_ 22 33 (zb 33 8388607) ?_
         refine pb HT_ 23 34 (zb 33 16777215) ?_
         refine pb HT_ 24 35 (zb 33 33554431) ?_
         refine pb HT_ 25 36 (zb 33 67108863) ?_
         refine pb HT_ 26 37 (zb 33 134217727) ?_
         refine pb HT_ 27 38 (zb 33 268435455) ?_
         refine pb HT_ 28 39 (zb 33 536870911) ?_
         refine pb HT_ 29 40 (zb 33 1073741823) ?_
         refine pb HT_ 30 41 (zb 33 2147483647) ?_
         refine pa HT_ 31 42 (zb 33 4294967295) ?_
         refine pa HT_ 32 43 (zb 33 8589934591) ?_
         refine done_ (done_of HT_.out (by kernel_rfl)) ?_
         try go_wp2
         go_meet
         case rel => exact ⟨_, (false), (by first | rfl | (simp; done) | (simp [*]; done)), H', ⟨by have := HK1.out; first | omega | exact Nat.le_refl _⟩, ⟨by exact bl HB⟩⟩
       ·replace c8 := Bool.eq_false_iff.mpr c8
        subst c8
        have H1 : (spec_ScoresOk.j1 k1 l0 x3_1 true) = some r := by rw [if_neg (show ¬ (false = true) by decide)] at H; exact H
        clear H
        have H := H1
        clear H1
        have H' := zq9 H
        clear H
        refine start_ (n := 33) (S := fun w' => w'.cell? (ad119.add ((x3_1).toNat * 2)) = some (.string ((rd_T99 l0 x3_1).f0)) ∧ w'.cell? ⟨(ad119.add ((x3_1).toNat * 2)).block, (ad119.add ((x3_1).toNat * 2)).off + 1, none⟩ = some (.int .i64 ((rd_T99 l0 x3_1).f1)) ∧ w'.cell? (ad119.add ((x3_1).toNat * 2)) = some (.string ((rd_T99 l0 x3_1).f0)) ∧ w'.cell? ⟨(ad119.add ((x3_1).toNat * 2)).block, (ad119.add ((x3_1).toNat * 2)).off + 1, none⟩ = some (.int .i64 ((rd_T99 l0 x3_1).f1))) (ds := []) #[false, false, false, false, false, false, false, false, false, false, false, false, false, false, false, false, false, false, false, false, false, false, false, false, false, false, false, false, false, false, false, false, false] (by kernel_rfl) rfl rfl ⟨((HB.out.cell (zq8 w _ hw119_0)).trans hw119_0), ((HB.out.cell (zq8 w _ hw119_1)).trans hw119_1), ((HB.out.cell (zq8 w _ hw120_0)).trans hw120_0), ((HB.out.cell (zq8 w _ hw120_1)).trans hw120_1)⟩ (fun hHeld => ?_); refine with_tabW spec_ScoresOk.tab4 spec_ScoresOk.bits4 (fun HT_ HW_ => ?_)
        generalize wr.drew = w17 at HB hx119_0 hx119_1 hx120_0 hx120_1 hHeld ⊢
        refine pa HT_ 0 11 (zb 33 1) ?_
        refine pa HT_ 1 12 (zb 33 3) ?_
        refine pa HT_ 2 13 (zb 33 7) ?_
        refine pa HT_ 3 14 (zb 33 15) ?_
        refine take_ (i := 4) (N := some 15) (v := ?_) (a' := ?_) (zb 33 31) rfl rfl (take_ofW HT_.out HW_.out (by kernel_rfl)) (fun _ _ _ h => h) (Or.inl ⟨by rfl, ?_⟩) hHeld ?_ ?_
        rotate_left; ·rintro w' ⟨s0, s1, s2, s3⟩; go_simp; with_reducible rfl
        rotate_left; ·simp only [Act.put, zq0, zq1, zq2, i64_w, i32_w]; rfl
        refine pa HT_ 5 16 (zb 33 63) ?_
        refine pa HT_ 6 17 (zb 33 127) ?_
        refine pa HT_ 7 18 (zb 33 255) ?_
        refine pa HT_ 8 19 (zb 33 511) ?_
        refine pa HT_ 9 20 (zb 33 1023) ?_
        refine pa HT_ 10 21 (zb 33 2047) ?_
        refine pa HT_ 11 22 (zb 33 4095) ?_
        refine take_ (i := 12) (N := some 23) (v := ?_) (a' := ?_) (zb 33 8191) rfl rfl (take_ofW HT_.out HW_.out (by kernel_rfl)) (fun _ _ _ h => h) (Or.inl ⟨by rfl, ?_⟩) hHeld ?_ ?_
        rotate_left; ·rintro w' ⟨s0, s1, s2, s3⟩; go_simp; with_reducible rfl
        rotate_left; ·simp only [Act.put, zq0, zq1, zq2, i64_w, i32_w]; rfl
        refine one_ (i := 13) (N := some 24) (zb 33 16383) rfl rfl (one_of HT_.out (by kernel_rfl)) (by decide) (fun K hK => ?_)
        refine gs Try.func40 #[.int .i64 ((rd_T99 l0 x3_1).f1), .int .i64 (-1000000000), .int .i64 1000000000] ?_
        with_reducible refine (spec_l1In.calls ((rd_T99 l0 x3_1).f1) (-1000000000) 1000000000 false _ A7.out).mono ?_
        rintro e w' ⟨rfl, ⟨nd, rfl⟩⟩
        refine ⟨_, rfl, ?_⟩
        refine hK.out _ _ ⟨((HB.out.cell (zq8 w _ hw119_0)).trans hw119_0), ((HB.out.cell (zq8 w _ hw119_1)).trans hw119_1), ((HB.out.cell (zq8 w _ hw120_0)).trans hw120_0), ((HB.out.cell (zq8 w _ hw120_1)).trans hw120_1)⟩ (fun hHeld => ?_)
        clear hK K
        refine norm_ (a' := ?_) ?_ ?_
        rotate_left; ·show Act.put _ (some 24) _ = _; simp only [Act.put, zq0, zq1, zq2, i64_w, i32_w]; rfl
        refine pa HT_ 14 25 (zb 33 32767) ?_
        refine pa HT_ 15 26 (zb 33 65535) ?_
        refine pa HT_ 16 27 (zb 33 131071) ?_
        refine pb HT_ 17 28 (zb 33 262143) ?_
        refine pb HT_ 18 29 (zb 33 524287) ?_
        refine pb HT_ 19 30 (zb 33 1048575) ?_
        refine pb HT_ 20 31 (zb 33 2097151) ?_
        refine pb HT_ 21 32 (zb 33 4194303) ?_
        refine pb HT_ 22 33 (zb 33 8388607) ?_
        refine pb HT_ 23 34 (zb 33 16777215) ?_
        refine pb HT_ 24 35 (zb 33 33554431) ?_
        refine pb HT_ 25 36 (zb 33 67108863) ?_
        refine pb HT_ 26 37 (zb 33 134217727) ?_
        refine pb HT_ 27 38 (zb 33 268435455) ?_
        refine pb HT_ 28 39 (zb 33 536870911) ?_
        refine pb HT_ 29 40 (zb 33 1073741823) ?_
        refine pb HT_ 30 41 (zb 33 2147483647) ?_
        refine pb HT_ 31 42 (zb 33 4294967295) ?_
        refine pa HT_ 32 43 (zb 33 8589934591) ?_
        refine done_ (done_of HT_.out (by kernel_rfl)) ?_
        try go_wp2
        go_meet
        case rel => exact ⟨_, (true), (by first | rfl | (simp; done) | (simp [*]; done)), H', ⟨by have := HK1.out; first | omega | exact Nat.le_refl _⟩, ⟨by exact bl HB⟩⟩
     ·rw [if_neg c4] at H
      exact absurd H (by simp)
    case rest =>
     clear HC3
     try clear c1
     try clear p1
     try clear q1
     try clear hx1
     try clear p2
     try clear c4
     try clear c8
     try clear c9
     try clear c9b0
     try clear c11
     try clear p11
     try clear q11
     try clear hx11
     try clear c12
     try clear p12
     try clear q12
     try clear hx12
     try clear hx119_0
     try clear hx119_1
     try clear hx120_0
     try clear hx120_1
     try clear p119
     try clear p120
     try clear q119
     try clear q120
     obtain ⟨kq, x43_2, rfl, HA, HJ2, HB⟩ := hcut
     cases kq with
     | zero => exact absurd HA.out (by simp [spec_ScoresOk.j1])
     | succ kj2 =>
      have H := HA.out
      clear HA
      simp only [spec_ScoresOk.j1] at H
      by_cases c18 : x43_2 = true
      ·subst c18
       have H1 : (some false) = some r := by rw [if_pos rfl] at H; exact H
       clear H
       have H := H1
       clear H1
       obtain rfl := Option.some.inj H
       go_wp2
       go_ret
       exact fz (by exact bl HB)
      ·replace c18 := Bool.eq_false_iff.mpr c18
       subst c18
       have H1 : (spec_ScoresOk.l1 kj2 l0 x3_1 0) = some r := by rw [if_neg (show ¬ (false = true) by decide)] at H; exact H
       clear H
       have H := H1
       clear H1
       have H' := zq9 H
       clear H
       go_wp2
       go_loopg [4] kj2 (fun kq v4 w' => ∃ (x4_3 : Int), v4 = .int .i64 x4_3 ∧ Aside0 (spec_ScoresOk.l1 kq l0 x3_1 x4_3 = some r) ∧ Aside0 (kq ≤ kj2) ∧ Aside0 (Below w.heap.size w w'))
       case atStart => exact ⟨(0), (by first | rfl | (simp; done) | (simp [*]; done)), H', ⟨Nat.le_refl _⟩, ⟨by exact bl HB⟩⟩
       case round =>
        clear H'
        try clear c1
        try clear p1
        try clear q1
        try clear hx1
        try clear p2
        try clear c4
        try clear c8
        try clear c9
        try clear c9b0
        try clear c11
        try clear p11
        try clear q11
        try clear hx11
        try clear c12
        try clear p12
        try clear q12
        try clear hx12
        try clear c18
        try clear hx119_0
        try clear hx119_1
        try clear hx120_0
        try clear hx120_1
        try clear p1
        try clear p11
        try clear p119
        try clear p12
        try clear p120
        try clear p2
        try clear q1
        try clear q11
        try clear q119
        try clear q12
        try clear q120
        obtain ⟨x4_3, rfl, HA, HK3, HB⟩ := hrel
        cases gk with
        | zero => exact absurd HA.out (by simp [spec_ScoresOk.l1])
        | succ k3 =>
         have H := HA.out
         clear HA
         simp only [spec_ScoresOk.l1] at H
         by_cases c19 : x4_3 < x3_1
         ·rw [if_pos c19] at H
          have c19b0 : decide (x4_3 < x3_1) = true := decide_eq_true c19
          clear c19
          by_cases c20 : 0 ≤ x4_3
          ·rw [if_pos c20] at H
           have c20b0 : decide (0 ≤ x4_3) = true := decide_eq_true c20
           clear c20
           by_cases c21 : x4_3 < (l0.length : Int)
           ·rw [if_pos c21] at H
            have c21b0 : decide (x4_3 < (l0.length : Int)) = true := decide_eq_true c21
            clear c21
            by_cases c22 : 0 ≤ x3_1
            ·rw [if_pos c22] at H
             have c22b0 : decide (0 ≤ x3_1) = true := decide_eq_true c22
             clear c22
             by_cases c23 : x3_1 < (l0.length : Int)
             ·rw [if_pos c23] at H
              have c23b0 : decide (x3_1 < (l0.length : Int)) = true := decide_eq_true c23
              clear c23
              try go_wp2
              have n0_ := zq9 (zq4 HB.out)
              clear HB
              have HB := n0_
              clear n0_
              have p125 : 0 ≤ (x4_3 : Int) := of_decide_eq_true ‹_›
              have q125 : x4_3 < (l0.length : Int) := of_decide_eq_true ‹_›
              obtain ⟨ad125, e125, hx125_0, hx125_1⟩ := at_T99 HR0.out x4_3 p125 q125
              have hw125_1 := hx125_1
              have hw125_0 := hx125_0
              cases e125
              replace hx125_0 := (HB.out.cell (zq8 w _ hx125_0)).trans hx125_0
              replace hx125_1 := (HB.out.cell (zq8 w _ hx125_1)).trans hx125_1
              replace p125 := eq_true p125
              replace q125 := eq_true q125
              have p126 : 0 ≤ (x3_1 : Int) := of_decide_eq_true ‹_›
              have q126 : x3_1 < (l0.length : Int) := of_decide_eq_true ‹_›
              obtain ⟨ad126, e126, hx126_0, hx126_1⟩ := at_T99 HR0.out x3_1 p126 q126
              have hw126_1 := hx126_1
              have hw126_0 := hx126_0
              obtain rfl : ad125 = ad126 := (by injection e126)
              replace hx126_0 := (HB.out.cell (zq8 w _ hx126_0)).trans hx126_0
              replace hx126_1 := (HB.out.cell (zq8 w _ hx126_1)).trans hx126_1
              replace p126 := eq_true p126
              replace q126 := eq_true q126
              refine start_ (n := 11) (S := fun w' => w'.cell? (ad125.add ((x4_3).toNat * 2)) = some (.string ((rd_T99 l0 x4_3).f0)) ∧ w'.cell? ⟨(ad125.add ((x4_3).toNat * 2)).block, (ad125.add ((x4_3).toNat * 2)).off + 1, none⟩ = some (.int .i64 ((rd_T99 l0 x4_3).f1)) ∧ w'.cell? (ad125.add ((x3_1).toNat * 2)) = some (.string ((rd_T99 l0 x3_1).f0)) ∧ w'.cell? ⟨(ad125.add ((x3_1).toNat * 2)).block, (ad125.add ((x3_1).toNat * 2)).off + 1, none⟩ = some (.int .i64 ((rd_T99 l0 x3_1).f1))) (ds := []) #[false, false, false, false, false, false, false, false, false, false, false] (by kernel_rfl) rfl rfl ⟨((HB.out.cell (zq8 w _ hw125_0)).trans hw125_0), ((HB.out.cell (zq8 w _ hw125_1)).trans hw125_1), ((HB.out.cell (zq8 w _ hw126_0)).trans hw126_0), ((HB.out.cell (zq8 w _ hw126_1)).trans hw126_1)⟩ (fun hHeld => ?_); refine with_tabW spec_ScoresOk.tab9 spec_ScoresOk.bits9 (fun HT_ HW_ => ?_)
              generalize wr.drew = w25 at HB hx125_0 hx125_1 hx126_0 hx126_1 hHeld ⊢
              refine pa HT_ 0 49 (zb 11 1) ?_
              refine pa HT_ 1 50 (zb 11 3) ?_
              refine pa HT_ 2 51 (zb 11 7) ?_
              refine pa HT_ 3 52 (zb 11 15) ?_
              refine pa HT_ 5 54 (zb 11 47) ?_
              refine pa HT_ 6 55 (zb 11 111) ?_
              refine pa HT_ 7 56 (zb 11 239) ?_
              refine pa HT_ 8 57 (zb 11 495) ?_
              refine take_ (i := 4) (N := some 53) (v := ?_) (a' := ?_) (zb 11 511) rfl rfl (take_ofW HT_.out HW_.out (by kernel_rfl)) (fun _ _ _ h => h) (Or.inl ⟨by rfl, ?_⟩) hHeld ?_ ?_
              rotate_left; ·rintro w' ⟨s0, s1, s2, s3⟩; go_simp; with_reducible rfl
              rotate_left; ·simp only [Act.put, zq0, zq1, zq2, i64_w, i32_w]; rfl
              refine take_ (i := 9) (N := some 58) (v := ?_) (a' := ?_) (zb 11 1023) rfl rfl (take_ofW HT_.out HW_.out (by kernel_rfl)) (fun _ _ _ h => h) (Or.inl ⟨by rfl, ?_⟩) hHeld ?_ ?_
              rotate_left; ·rintro w' ⟨s0, s1, s2, s3⟩; go_simp; with_reducible rfl
              rotate_left; ·simp only [Act.put, zq0, zq1, zq2, i64_w, i32_w]; rfl
              refine pa HT_ 10 59 (zb 11 2047) ?_
              refine done_ (done_of HT_.out (by kernel_rfl)) ?_
              by_cases c24 : ((rd_T99 l0 x4_3).f0).toList = ((rd_T99 l0 x3_1).f0).toList
              ·rw [if_pos c24] at H
               have c24b0 : (((rd_T99 l0 x4_3).f0).toList == ((rd_T99 l0 x3_1).f0).toList) = true := beq_iff_eq.mpr c24
               have c24b1 : (((rd_T99 l0 x4_3).f0).toList != ((rd_T99 l0 x3_1).f0).toList) = false := bne_eq_false_iff_eq.mpr c24
               clear c24
               obtain rfl := Option.some.inj H
               try rw [c24b0]; try rw [c24b1]
               try go_wp2
               go_ret
               exact fz (by exact bl HB)
              ·rw [if_neg c24] at H
               have c24b0 : (((rd_T99 l0 x4_3).f0).toList == ((rd_T99 l0 x3_1).f0).toList) = false := beq_eq_false_iff_ne.mpr c24
               have c24b1 : (((rd_T99 l0 x4_3).f0).toList != ((rd_T99 l0 x3_1).f0).toList) = true := bne_iff_ne.mpr c24
               have H' := zq9 H
               clear H
               try rw [c24b0]; try rw [c24b1]
               try go_wp2
               go_roundg k3
               case measure => have := HK1.out; have := HJ2.out; have := HK3.out; omega
               case rel => exact ⟨(wrap64 (x4_3 + 1)), (by first | rfl | (simp; done) | (simp [*]; done)), H', ⟨by have := HK1.out; have := HJ2.out; have := HK3.out; omega⟩, ⟨by exact bl HB⟩⟩
             ·rw [if_neg c23] at H
              exact absurd H (by simp)
            ·rw [if_neg c22] at H
             exact absurd H (by simp)
           ·rw [if_neg c21] at H
            exact absurd H (by simp)
          ·rw [if_neg c20] at H
           exact absurd H (by simp)
         ·rw [if_neg c19] at H
          have c19b0 : decide (x4_3 < x3_1) = false := decide_eq_false c19
          clear c19
          have H' := zq9 H
          clear H
          go_wp2
          go_roundg k3
          case measure => have := HK1.out; have := HJ2.out; have := HK3.out; omega
          case rel => exact ⟨(wrap64 (x3_1 + 1)), (by first | rfl | (simp; done) | (simp [*]; done)), H', ⟨by have := HK1.out; have := HJ2.out; have := HK3.out; omega⟩, ⟨by exact bl HB⟩⟩
   ·rw [if_neg c2] at H
    have c2b0 : decide (x3_1 < (l0.length : Int)) = false := decide_eq_false c2
    clear c2
    obtain rfl := Option.some.inj H
    go_wp2
    go_ret
    exact fz (by exact bl HB)
set_option maxHeartbeats 8000000 in
set_option maxRecDepth 100000 in
theorem spec_FieldsOk.calls (k : Nat) (A0 : Option Addr) (c0 : Nat) (l0 : List (S101)) (r : Bool) (w : World) (hr0 : Kd.C k101 w A0 l0.length l0) (hc0 : l0.length ≤ c0) (h : spec_FieldsOk.f k l0 = some r) :
  Calls Try.prog 44 #[.slice A0 l0.length c0] w fun e w' => e = .returned (.bool r) ∧ Drawn0 w w' := by
 have HR0 := zq9 hr0
 have HC0 := zq9 hc0
 clear hr0 hc0
 have H : (spec_FieldsOk.l0 k l0 0) = some r := h
 clear h
 have H' := zq9 H
 clear H
 go_enter Try.func44, Try.ntmps44
 go_wp2
 repeat (go_quiet (fail); try go_wp2)
 go_loopg [3] k (fun kq v3 w' => ∃ (x3_1 : Int), v3 = .int .i64 x3_1 ∧ Aside0 (spec_FieldsOk.l0 kq l0 x3_1 = some r) ∧ Aside0 (kq ≤ k) ∧ Drawn0 w w')
 case atStart => exact ⟨(0), (by first | rfl | (simp; done) | (simp [*]; done)), H', ⟨Nat.le_refl _⟩, by repeat (first | exact Drawn0.refl _ | apply Drawn0.step)⟩
 case round =>
  clear H'
  obtain ⟨x3_1, rfl, HA, HK1, ⟨m1, rfl⟩⟩ := hrel
  cases gk with
  | zero => exact absurd HA.out (by simp [spec_FieldsOk.l0])
  | succ k1 =>
   have H := HA.out
   clear HA
   simp only [spec_FieldsOk.l0] at H
   by_cases c2 : x3_1 < (l0.length : Int)
   ·rw [if_pos c2] at H
    have c2b0 : decide (x3_1 < (l0.length : Int)) = true := decide_eq_true c2
    clear c2
    by_cases c3 : 0 ≤ x3_1
    ·rw [if_pos c3] at H
     have c3b0 : decide (0 ≤ x3_1) = true := decide_eq_true c3
     clear c3
     have p127 : 0 ≤ (x3_1 : Int) := of_decide_eq_true ‹_›
     have q127 : x3_1 < (l0.length : Int) := of_decide_eq_true ‹_›
     obtain ⟨ad127, e127, hx127_0, hx127_1⟩ := at_T101 HR0.out x3_1 p127 q127
     cases e127
     replace p127 := eq_true p127
     replace q127 := eq_true q127
     by_cases c4 : (((rd_T101 l0 x3_1).f0).size : Int) > 40
     ·rw [if_pos c4] at H
      have c4b0 : decide (40 < (((rd_T101 l0 x3_1).f0).size : Int)) = true := decide_eq_true c4
      have c4b1 : decide (40 < ((rd_T101 l0 x3_1).f0).size) = true := decide_eq_true (by omega)
      clear c4
      obtain rfl := Option.some.inj H
      go_wp2
      repeat (go_quiet (fail); try go_wp2)
      go_ret
      exact ⟨by first | rfl | (simp; done) | (simp [*]; done), by repeat (first | exact Drawn0.refl _ | apply Drawn0.step)⟩
     ·rw [if_neg c4] at H
      have c4b0 : decide (40 < (((rd_T101 l0 x3_1).f0).size : Int)) = false := decide_eq_false c4
      have c4b1 : decide (40 < ((rd_T101 l0 x3_1).f0).size) = false := decide_eq_false (by omega)
      clear c4
      have p128 : 0 ≤ (x3_1 : Int) := of_decide_eq_true ‹_›
      have q128 : x3_1 < (l0.length : Int) := of_decide_eq_true ‹_›
      obtain ⟨ad128, e128, hx128_0, hx128_1⟩ := at_T101 HR0.out x3_1 p128 q128
      obtain rfl : ad127 = ad128 := (by injection e128)
      replace p128 := eq_true p128
      replace q128 := eq_true q128
      by_cases c5 : (((rd_T101 l0 x3_1).f1).size : Int) > 40
      ·rw [if_pos c5] at H
       have c5b0 : decide (40 < (((rd_T101 l0 x3_1).f1).size : Int)) = true := decide_eq_true c5
       have c5b1 : decide (40 < ((rd_T101 l0 x3_1).f1).size) = true := decide_eq_true (by omega)
       clear c5
       obtain rfl := Option.some.inj H
       go_wp2
       repeat (go_quiet (fail); try go_wp2)
       go_ret
       exact ⟨by first | rfl | (simp; done) | (simp [*]; done), by repeat (first | exact Drawn0.refl _ | apply Drawn0.step)⟩
      ·rw [if_neg c5] at H
       have c5b0 : decide (40 < (((rd_T101 l0 x3_1).f1).size : Int)) = false := decide_eq_false c5
       have c5b1 : decide (40 < ((rd_T101 l0 x3_1).f1).size) = false := decide_eq_false (by omega)
       clear c5
       by_cases c6 : x3_1 > 0
       ·rw [if_pos c6] at H
        have c6b0 : decide (0 < x3_1) = true := decide_eq_true c6
        clear c6
        obtain ⟨ji7, hji7⟩ : ∃ j_ : Int, (wrap64 (x3_1 - 1)) = j_ := ⟨_, rfl⟩
        replace H : (if 0 ≤ (ji7) then (if (ji7) < (l0.length : Int) then (if ((Op.bytesLess (((rd_T101 l0 (ji7)).f0).toList) (((rd_T101 l0 x3_1).f0).toList)) = true) then (spec_FieldsOk.l0 k1 l0 (wrap64 (x3_1 + 1))) else (some false)) else (none)) else (none)) = some r := by first | (rw [hji7] at H; exact H) | (simp only [hji7] at H ⊢; exact H)
        have hji7w : (IntKind.i64.wrap (x3_1 - 1)) = ji7 := (i64_w _).trans hji7
        by_cases c8 : 0 ≤ (ji7)
        ·rw [if_pos c8] at H
         have c8b0 : decide (0 ≤ (ji7)) = true := decide_eq_true c8
         clear c8
         by_cases c9 : (ji7) < (l0.length : Int)
         ·rw [if_pos c9] at H
          have c9b0 : decide ((ji7) < (l0.length : Int)) = true := decide_eq_true c9
          clear c9
          have p129 : 0 ≤ ((ji7) : Int) := of_decide_eq_true ‹_›
          have q129 : (ji7) < (l0.length : Int) := of_decide_eq_true ‹_›
          obtain ⟨ad129, e129, hx129_0, hx129_1⟩ := at_T101 HR0.out (ji7) p129 q129
          obtain rfl : ad127 = ad129 := (by injection e129)
          replace p129 := eq_true p129
          replace q129 := eq_true q129
          have p130 : 0 ≤ (x3_1 : Int) := of_decide_eq_true ‹_›
          have q130 : x3_1 < (l0.length : Int) := of_decide_eq_true ‹_›
          obtain ⟨ad130, e130, hx130_0, hx130_1⟩ := at_T101 HR0.out x3_1 p130 q130
          obtain rfl : ad127 = ad130 := (by injection e130)
          replace p130 := eq_true p130
          replace q130 := eq_true q130
          go_wp2
          by_cases c10 : ((Op.bytesLess (((rd_T101 l0 (ji7)).f0).toList) (((rd_T101 l0 x3_1).f0).toList)) = true)
          ·rw [if_pos c10] at H
           have c10b0 : (Op.bytesLess (((rd_T101 l0 (ji7)).f0).toList) (((rd_T101 l0 x3_1).f0).toList)) = true := c10
           clear c10
           have H' := zq9 H
           clear H
           repeat (go_quiet (fail); try go_wp2)
           go_roundg k1
           case measure => have := HK1.out; omega
           case rel => exact ⟨(wrap64 (x3_1 + 1)), (by first | rfl | (simp; done) | (simp [*]; done)), H', ⟨by have := HK1.out; omega⟩, by repeat (first | exact Drawn0.refl _ | apply Drawn0.step)⟩
          ·rw [if_neg c10] at H
           have c10b0 : (Op.bytesLess (((rd_T101 l0 (ji7)).f0).toList) (((rd_T101 l0 x3_1).f0).toList)) = false := by simpa using c10
           clear c10
           obtain rfl := Option.some.inj H
           repeat (go_quiet (fail); try go_wp2)
           go_ret
           exact ⟨by first | rfl | (simp; done) | (simp only [← hji7] <;> (first | rfl | simp)) | (simp [*]; done), by repeat (first | exact Drawn0.refl _ | apply Drawn0.step)⟩
         ·rw [if_neg c9] at H
          exact absurd H (by simp)
        ·rw [if_neg c8] at H
         exact absurd H (by simp)
       ·rw [if_neg c6] at H
        have c6b0 : decide (0 < x3_1) = false := decide_eq_false c6
        clear c6
        have H' := zq9 H
        clear H
        go_wp2
        repeat (go_quiet (fail); try go_wp2)
        go_roundg k1
        case measure => have := HK1.out; omega
        case rel => exact ⟨(wrap64 (x3_1 + 1)), (by first | rfl | (simp; done) | (simp [*]; done)), H', ⟨by have := HK1.out; omega⟩, by repeat (first | exact Drawn0.refl _ | apply Drawn0.step)⟩
    ·rw [if_neg c3] at H
     exact absurd H (by simp)
   ·rw [if_neg c2] at H
    have c2b0 : decide (x3_1 < (l0.length : Int)) = false := decide_eq_false c2
    clear c2
    obtain rfl := Option.some.inj H
    go_wp2
    repeat (go_quiet (fail); try go_wp2)
    go_ret
    exact ⟨by first | rfl | (simp; done) | (simp [*]; done), by repeat (first | exact Drawn0.refl _ | apply Drawn0.step)⟩
end Go.Proofs.Ytnkgmcgbbldkgaa.P
