import Derived.Test.YtegelpeegbngiaaPrFnSetBoth1
import Derived.Lib.SliceRun
import Derived.Deep.RegionLaw
import Derived.Laws.IdiomCopy
import Derived.Sort.Row
import Derived.Sort.Grow
import Derived.Lib.OwnBridge
import Derived.Shelf.SlSortCmp.WholeK
import Derived.Shelf.Sort.Plain
import Derived.Shelf.Slices.CompactS
import Derived.Shelf.Slices.Cells
import Derived.Shelf.Slices.In.SortNone
import Derived.Test.YtegelpeegbngiaaProg
import Derived.Below
import Derived.Deep.Draws
import Derived.Deep.AppendLies
import Derived.Maps.AppendAt
import Derived.OwnWalk
import Derived.Laws.BytesArg
import Derived.Laws.MakeOwn
import Derived.Laws.OwnMore
import Derived.Deep.OwnRows
import Derived.Tactics
import Derived.Lib.ConvBytes
import Derived.Laws.Slices
import Derived.WalkKit
import Derived.KernelRfl
import Derived.RowKit3
import Derived.Deep.LoopGhost
import Derived.Deep.QuietTactic
import Derived.BigQuiet
import Derived.WideLaws
import Derived.Deep.DeepCutAuto
import Derived.Deep.CutBlock
import Derived.Deep.RegionHeld3
import Derived.Laws.Rows
import Derived.Lib.AppendStr
import Derived.ArgAppend
import Derived.OrdersHeld
import Derived.Laws.BitsLemmas
import Derived.RowKit
import Derived.WalkLawsBesides
/- Texts of this claim, one behind the other: words on worlds and rows, printed functions and their walks, plain lemmas. -/
namespace Go.Proofs.Ytegelpeegbngiaa.X
open Go.RowKit Go.Proofs.YtegelpeegbngiaaW.PrintWords Go.Proofs.YtegelpeegbngiaaW.PrintLast
end Go.Proofs.Ytegelpeegbngiaa.X
namespace Go.Proofs.Ytegelpeegbngiaa.X
open Go.RowKit Go.Proofs.YtegelpeegbngiaaW.PrintWords Go.Proofs.YtegelpeegbngiaaW.PrintLast
theorem grow_below (W : World) (os : Array Obj) : Below W.heap.size W (Go.Sort.grow W os) :=
  ⟨rfl, rfl, rfl, by simp [Go.Sort.grow], fun k hk => by simp [Go.Sort.grow, Array.getElem?_append_left hk]⟩
theorem kept_put0 {α : Type} [Inhabited α] {enc : α → Value} {w : World} {n g : Nat} {d : Array α} (P : Nat → Prop) (hP : P g) : Kept w (Go.Sort.putRow enc (Go.Sort.ahead w n) g 0 d) (fun k => P k) :=
  ⟨by simp [Go.Sort.putRow, Go.Sort.mapBlock, Go.Sort.ahead], fun i _ hn => by
    have : g ≠ i := fun e => hn (e ▸ hP)
    simp [Go.Sort.putRow, Go.Sort.mapBlock, Go.Sort.ahead, Array.getElem?_modify, this]⟩
theorem kept_put {α : Type} [Inhabited α] {enc : α → Value} {w : World} {n g : Nat} {d : Array α} {os : Array Obj} (P : Nat → Prop) (hP : P g) : Kept w (Go.Sort.grow (Go.Sort.putRow enc (Go.Sort.ahead w n) g 0 d) os) (fun k => P k) :=
  (kept_put0 (enc := enc) (d := d) P hP).below (grow_below _ os)
end Go.Proofs.Ytegelpeegbngiaa.X
namespace Go.Proofs.Ytegelpeegbngiaa.X
open Go.RowKit Go.Sort Go.Proofs.YtegelpeegbngiaaW.PrintWords Go.Proofs.YtegelpeegbngiaaW.PrintLast
end Go.Proofs.Ytegelpeegbngiaa.X
namespace Go.Proofs.Ytegelpeegbngiaa.X
open Go.RowKit Go.Sort Go.Proofs.YtegelpeegbngiaaW.PrintWords Go.Proofs.YtegelpeegbngiaaW.PrintLast
section
variable {α : Type} [Inhabited α] {enc : α → List Value} {k : Nat} {R : α → List Value → Prop}
end
theorem bl_trans (a : List UInt8) : ∀ (b c : List UInt8), Op.bytesLess a b = true → Op.bytesLess b c = true → Op.bytesLess a c = true := by
  induction a with
  | nil =>
    intro b c h1 h2
    cases c with
    | nil => cases b <;> simp [Op.bytesLess] at h2
    | cons z c => rfl
  | cons x a ih =>
    intro b c h1 h2
    cases b with
    | nil => simp [Op.bytesLess] at h1
    | cons y b =>
      cases c with
      | nil => simp [Op.bytesLess] at h2
      | cons z c =>
        simp only [Op.bytesLess, Bool.or_eq_true, Bool.and_eq_true, decide_eq_true_eq, beq_iff_eq] at h1 h2 ⊢
        rcases h1 with h1 | ⟨rfl, h1⟩
        · rcases h2 with h2 | ⟨rfl, h2⟩
          · exact .inl (UInt8.lt_trans h1 h2)
          · exact .inl h1
        · rcases h2 with h2 | ⟨rfl, h2⟩
          · exact .inl h2
          · exact .inr ⟨rfl, ih b c h1 h2⟩
end Go.Proofs.Ytegelpeegbngiaa.X
namespace Go.Proofs
open Go.Shelf
def Try.lays190_ren : Go.Shelf.Ren := ⟨fun | 190 => 71 | 125 => 77 | 258 => 85 | 128 => 94 | 129 => 95 | 302 => 97 | 303 => 98 | 304 => 99 | 305 => 100 | 306 => 101 | 307 => 102 | 308 => 103 | 309 => 104 | 310 => 105 | 333 => 111 | 329 => 107 | 330 => 108 | 334 => 112 | 335 => 113 | 336 => 78 | 344 => 115 | n => n, fun | 31 => 22 | 9 => 9 | 3 => 3 | 46 => 83 | 0 => 0 | 51 => 98 | 53 => 100 | 4 => 4 | 183 => 92 | 182 => 91 | 131 => 60 | 5 => 5 | 218 => 108 | 222 => 112 | 228 => 116 | 229 => 117 | n => n, fun | n => n⟩
theorem Try.lays190 : Go.Proofs.Lays.n190 Try.prog Try.lays190_ren := {
  mixed := by kernel_rfl
  f125 := Try.func77.trans (congrArg some (by kernel_rfl))
  f128 := Try.func94.trans (congrArg some (by kernel_rfl))
  f129 := Try.func95.trans (congrArg some (by kernel_rfl))
  f190 := Try.func71.trans (congrArg some (by kernel_rfl))
  f258 := Try.func85.trans (congrArg some (by kernel_rfl))
  f302 := Try.func97.trans (congrArg some (by kernel_rfl))
  f303 := Try.func98.trans (congrArg some (by kernel_rfl))
  f304 := Try.func99.trans (congrArg some (by kernel_rfl))
  f305 := Try.func100.trans (congrArg some (by kernel_rfl))
  f306 := Try.func101.trans (congrArg some (by kernel_rfl))
  f307 := Try.func102.trans (congrArg some (by kernel_rfl))
  f308 := Try.func103.trans (congrArg some (by kernel_rfl))
  f309 := Try.func104.trans (congrArg some (by kernel_rfl))
  f310 := Try.func105.trans (congrArg some (by kernel_rfl))
  f329 := Try.func107.trans (congrArg some (by kernel_rfl))
  f330 := Try.func108.trans (congrArg some (by kernel_rfl))
  f333 := Try.func111.trans (congrArg some (by kernel_rfl))
  f334 := Try.func112.trans (congrArg some (by kernel_rfl))
  f335 := Try.func113.trans (congrArg some (by kernel_rfl))
  f336 := Try.func78.trans (congrArg some (by kernel_rfl))
  f344 := Try.func115.trans (congrArg some (by kernel_rfl))
  t0 := Try.underlying0
  a0 := Try.isAgg0
  z0 := Try.sizeOf0
  v0 := Try.zeroValue0
  t3 := Try.underlying3
  a3 := Try.isAgg3
  z3 := Try.sizeOf3
  v3 := Try.zeroValue3
  t4 := Try.underlying4
  a4 := Try.isAgg4
  z4 := Try.sizeOf4
  v4 := Try.zeroValue4
  t5 := Try.underlying5
  a5 := Try.isAgg5
  z5 := Try.sizeOf5
  v5 := Try.zeroValue5
  t9 := Try.underlying9
  a9 := Try.isAgg9
  z9 := Try.sizeOf9
  v9 := Try.zeroValue9
  t31 := Try.underlying22
  a31 := Try.isAgg22
  z31 := Try.sizeOf22
  v31 := Try.zeroValue22
  t46 := Try.underlying83
  a46 := Try.isAgg83
  z46 := Try.sizeOf83
  v46 := Try.zeroValue83
  t51 := Try.underlying98
  a51 := Try.isAgg98
  z51 := Try.sizeOf98
  v51 := Try.zeroValue98
  t53 := Try.underlying100
  a53 := Try.isAgg100
  z53 := Try.sizeOf100
  v53 := Try.zeroValue100
  t131 := Try.underlying60
  a131 := Try.isAgg60
  z131 := Try.sizeOf60
  v131 := Try.zeroValue60
  t182 := Try.underlying91
  a182 := Try.isAgg91
  z182 := Try.sizeOf91
  v182 := Try.zeroValue91
  t183 := Try.underlying92
  a183 := Try.isAgg92
  z183 := Try.sizeOf92
  v183 := Try.zeroValue92
  t218 := Try.underlying108
  a218 := Try.isAgg108
  z218 := Try.sizeOf108
  v218 := Try.zeroValue108
  t222 := Try.underlying112
  a222 := Try.isAgg112
  z222 := Try.sizeOf112
  v222 := Try.zeroValue112
  t228 := Try.underlying116
  a228 := Try.isAgg116
  z228 := Try.sizeOf116
  v228 := Try.zeroValue116
  t229 := Try.underlying117
  a229 := Try.isAgg117
  z229 := Try.sizeOf117
  v229 := Try.zeroValue117 }
open Go.Sort Go.RowKit in
theorem Try.slices_Sort_string (blk off cap : Nat) (ss : List (List UInt8)) (w : World) (hH : Holds encStr w blk off ss.toArray) (hblk : blk < w.heap.size) (hsz : ss.length < 4611686018427387904) :
    Calls Try.prog 71 #[.slice (some ⟨blk, off, none⟩) ss.length cap] w fun e w' =>
      e = .returned (.tuple #[]) ∧ ∃ n os, w' = grow (putRow encStr (Sort.ahead w n) blk off (ss.mergeSort fun x y => decide (x ≤ y)).toArray) os := Any.slices_Sort_string Try.lays190 blk off cap ss w hH hblk hsz
def Try.lays194_ren : Go.Shelf.Ren := ⟨fun | 194 => 72 | n => n, fun | 31 => 22 | 9 => 9 | 3 => 3 | 4 => 4 | 0 => 0 | n => n, fun | n => n⟩
theorem Try.lays194 : Go.Proofs.Lays.n194 Try.prog Try.lays194_ren := {
  mixed := by kernel_rfl
  f194 := Try.func72.trans (congrArg some (by kernel_rfl))
  t0 := Try.underlying0
  a0 := Try.isAgg0
  z0 := Try.sizeOf0
  v0 := Try.zeroValue0
  t3 := Try.underlying3
  a3 := Try.isAgg3
  z3 := Try.sizeOf3
  v3 := Try.zeroValue3
  t4 := Try.underlying4
  a4 := Try.isAgg4
  z4 := Try.sizeOf4
  v4 := Try.zeroValue4
  t9 := Try.underlying9
  a9 := Try.isAgg9
  z9 := Try.sizeOf9
  v9 := Try.zeroValue9
  t31 := Try.underlying22
  a31 := Try.isAgg22
  z31 := Try.sizeOf22
  v31 := Try.zeroValue22 }
open Go.RowKit Go.Lib Go.Sort in
theorem Try.slices_Compact_string (blk off cap : Nat) (zs : List (List UInt8)) (w : World) (hH : Holds encStr w blk off zs.toArray) (hsz : zs.length ≤ 9223372036854775807) (hcap : zs.length ≤ cap) :
    Calls Try.prog 72 #[.slice (some ⟨blk, off, none⟩) zs.length cap] w fun e w' => e = .returned (.slice (some ⟨blk, off, none⟩) (Lib.compact zs).length cap) ∧ ∃ q, w' = putRow encStr (Sort.ahead w q) blk off (Lib.compact zs ++ List.replicate (zs.length - (Lib.compact zs).length) []).toArray := Any.slices_Compact_string Try.lays194 blk off cap zs w hH hsz hcap
open Go.RowKit Go.Lib Go.Sort in
theorem Try.slices_Compact_string_empty (a : Option Addr) (cap : Nat) (w : World) :
    Calls Try.prog 72 #[.slice a 0 cap] w fun e w' => e = .returned (.slice a 0 cap) ∧ w' = w := Any.slices_Compact_string_empty Try.lays194 a cap w
open Go.RowKit Go.Sort in
theorem Try.slices_Sort_string_none (p : Option Addr) (cap : Nat) (w : World) :
    Calls Try.prog 71 #[.slice p 0 cap] w fun e w' => e = .returned (.tuple #[]) ∧ w' = w := Any.slices_Sort_string_none Try.lays190 p cap w
end Go.Proofs
namespace Go.Proofs
open Go.Shelf
end Go.Proofs
namespace Go.Proofs.Ytegelpeegbngiaa.P
open Go.RowKit Go.Proofs.YtegelpeegbngiaaW.PrintWords Go.Proofs.YtegelpeegbngiaaW.PrintLast Go.Proofs.YtegelpeegbngiaaW.PrintMore
attribute [local go_sem] max2_int min2_int max_two min_two max_three min_three max_four min_four   -- for this text's walks alone
set_option linter.unusedVariables false
set_option linter.unusedSimpArgs false
def errW : Option Int → Value
  | none => .nilIface
  | some c => .iface 0 (.int .i64 c)
theorem errW_none : errW none = .nilIface := rfl
theorem errW_some (c : Int) : errW (some c) = .iface 0 (.int .i64 c) := rfl
theorem info5 : (Try.prog.info? 5).map (fun i => (i.zero, i.size, i.bytes)) = some (some (.int .u8 0), 1, 1) := by kernel_rfl
theorem info9 : (Try.prog.info? 9).map (fun i => (i.zero, i.size, i.bytes)) = some (some (.string ⟨#[]⟩), 1, 16) := by kernel_rfl
structure S31 where
  f0 : ByteArray
  f1 : ByteArray
def z31 : S31 := ⟨(⟨#[]⟩ : ByteArray), (⟨#[]⟩ : ByteArray)⟩
def rd_T31 (xs : List S31) (i : Int) : S31 := xs.getD i.toNat z31
structure S38 where
  f0 : ByteArray
  f1 : ByteArray
def z38 : S38 := ⟨(⟨#[]⟩ : ByteArray), (⟨#[]⟩ : ByteArray)⟩
def rd_T38 (xs : List S38) (i : Int) : S38 := xs.getD i.toNat z38
end Go.Proofs.Ytegelpeegbngiaa.P
namespace Go.Proofs.Ytegelpeegbngiaa.P
open Go.RowKit Go.Proofs.YtegelpeegbngiaaW.PrintWords Go.Proofs.YtegelpeegbngiaaW.PrintLast Go.Proofs.YtegelpeegbngiaaW.PrintMore
attribute [local go_sem] max2_int min2_int max_two min_two max_three min_three max_four min_four   -- for this text's walks alone
set_option linter.unusedVariables false
set_option linter.unusedSimpArgs false
theorem eqA38 (d : Nat) (w : World) (x0 y0 : ByteArray) (x1 y1 : ByteArray) :
    (Op.equalIn (d + 2) 38 (.agg #[.string x0, .string x1]) (.agg #[.string y0, .string y1])).run Try.prog w = .ok (x0.toList == y0.toList && (x1.toList == y1.toList)) w := by
  refine eqA_of Try.underlying38 (by kernel_rfl) ?_
  refine eqf_cons (by rfl) (by go_simp; rfl) (by go_simp; rfl) (by go_simp) ?_
  exact eqf_last (by rfl) (by go_simp; rfl) (by go_simp; rfl) (by go_simp)
end Go.Proofs.Ytegelpeegbngiaa.P
namespace Go.Proofs.Ytegelpeegbngiaa.P
open Go.RowKit Go.Proofs.YtegelpeegbngiaaW.PrintWords Go.Proofs.YtegelpeegbngiaaW.PrintLast Go.Proofs.YtegelpeegbngiaaW.PrintMore
attribute [local go_sem] max2_int min2_int max_two min_two max_three min_three max_four min_four   -- for this text's walks alone
set_option linter.unusedVariables false
set_option linter.unusedSimpArgs false
attribute [local go_sem high] eqA38
def laws_szStringS.l0 : Nat → List ByteArray → Int → Int → Option (Int)
  | 0, _, _, _ => none
  | k + 1, x0, x1, x5 => if x5 < (x0.length : Int) then (if 0 ≤ x5 then (if (wrap64 (x1 - ((rdOf ByteArray.empty x0 x5).size : Int))) < 0 then (some (-1)) else (laws_szStringS.l0 k x0 (wrap64 (x1 - ((rdOf ByteArray.empty x0 x5).size : Int))) (wrap64 (x5 + 1)))) else (none)) else (some x1)
def laws_szStringS.f (k : Nat) (l0 : List ByteArray) (a1 : Int) : Option (Int) := if (wrap64 (a1 - (l0.length : Int))) < 0 then (some (-1)) else (laws_szStringS.l0 k l0 (wrap64 (a1 - (l0.length : Int))) 0)
theorem laws_szStringS.mono_l : ∀ k, (∀ y0 y1 y2, LeO (laws_szStringS.l0 k y0 y1 y2) (laws_szStringS.l0 (k + 1) y0 y1 y2))
  | 0 => fun _ _ _ r h => by simp [laws_szStringS.l0] at h
  | k + 1 => by
    have ih0 := laws_szStringS.mono_l k
    · intro y0 y1 y2
      unfold laws_szStringS.l0
      repeat' first
      | (with_reducible exact ih0 _ _ _)
      | (with_reducible exact LeO.refl _)
      | (with_reducible exact LeO.none _)
      | (with_reducible refine LeO.ite ?_ ?_)
      | (with_reducible refine LeO.bind ?_ (fun _ => ?_))
      | exact ih0 _ _ _
      | exact LeO.none _
      | refine LeO.ite ?_ ?_
      | refine LeO.bind ?_ (fun _ => ?_)
theorem laws_szStringS.mono : ∀ a0 a1 k, LeO (laws_szStringS.f k a0 a1) (laws_szStringS.f (k + 1) a0 a1) := by
  intro a0 a1 k
  have ih0 := laws_szStringS.mono_l k
  unfold laws_szStringS.f
  repeat' first
      | (with_reducible exact ih0 _ _ _)
      | (with_reducible exact LeO.refl _)
      | (with_reducible exact LeO.none _)
      | (with_reducible refine LeO.ite ?_ ?_)
      | (with_reducible refine LeO.bind ?_ (fun _ => ?_))
      | exact ih0 _ _ _
      | exact LeO.none _
      | refine LeO.ite ?_ ?_
      | refine LeO.bind ?_ (fun _ => ?_)
def spec_l2Texts.l0 : Nat → List ByteArray → Int → Option (Bool)
  | 0, _, _ => none
  | k + 1, x0, x3 => if x3 < (x0.length : Int) then (if 0 ≤ x3 then (if ((rdOf ByteArray.empty x0 x3).size : Int) > 40 then (some false) else (spec_l2Texts.l0 k x0 (wrap64 (x3 + 1)))) else (none)) else (some (decide ((x0.length : Int) ≤ 16)))
def spec_l2Texts.f (k : Nat) (l0 : List ByteArray) : Option (Bool) := spec_l2Texts.l0 k l0 0
theorem spec_l2Texts.mono_l : ∀ k, (∀ y0 y1, LeO (spec_l2Texts.l0 k y0 y1) (spec_l2Texts.l0 (k + 1) y0 y1))
  | 0 => fun _ _ r h => by simp [spec_l2Texts.l0] at h
  | k + 1 => by
    have ih0 := spec_l2Texts.mono_l k
    · intro y0 y1
      unfold spec_l2Texts.l0
      repeat' first
      | (with_reducible exact ih0 _ _)
      | (with_reducible exact LeO.refl _)
      | (with_reducible exact LeO.none _)
      | (with_reducible refine LeO.ite ?_ ?_)
      | (with_reducible refine LeO.bind ?_ (fun _ => ?_))
      | exact ih0 _ _
      | exact LeO.none _
      | refine LeO.ite ?_ ?_
      | refine LeO.bind ?_ (fun _ => ?_)
theorem spec_l2Texts.mono : ∀ a0 k, LeO (spec_l2Texts.f k a0) (spec_l2Texts.f (k + 1) a0) := by
  intro a0 k
  have ih0 := spec_l2Texts.mono_l k
  unfold spec_l2Texts.f
  repeat' first
      | (with_reducible exact ih0 _ _)
      | (with_reducible exact LeO.refl _)
      | (with_reducible exact LeO.none _)
      | (with_reducible refine LeO.ite ?_ ?_)
      | (with_reducible refine LeO.bind ?_ (fun _ => ?_))
      | exact ih0 _ _
      | exact LeO.none _
      | refine LeO.ite ?_ ?_
      | refine LeO.bind ?_ (fun _ => ?_)
def spec_SetOk.l0 : Nat → List ByteArray → Int → Option (Bool)
  | 0, _, _ => none
  | k + 1, x0, x3 => if x3 < (x0.length : Int) then (if 0 ≤ (wrap64 (x3 - 1)) then (if (wrap64 (x3 - 1)) < (x0.length : Int) then (if 0 ≤ x3 then (if ((Op.bytesLess ((rdOf ByteArray.empty x0 (wrap64 (x3 - 1))).toList) ((rdOf ByteArray.empty x0 x3).toList)) = true) then (spec_SetOk.l0 k x0 (wrap64 (x3 + 1))) else (some false)) else (none)) else (none)) else (none)) else ((spec_l2Texts.f k x0).bind fun t105 => (some t105))
def spec_SetOk.f (k : Nat) (l0 : List ByteArray) : Option (Bool) := spec_SetOk.l0 k l0 1
theorem spec_SetOk.mono_l : ∀ k, (∀ y0 y1, LeO (spec_SetOk.l0 k y0 y1) (spec_SetOk.l0 (k + 1) y0 y1))
  | 0 => fun _ _ r h => by simp [spec_SetOk.l0] at h
  | k + 1 => by
    have ih0 := spec_SetOk.mono_l k
    · intro y0 y1
      unfold spec_SetOk.l0
      repeat' first
      | (with_reducible exact ih0 _ _)
      | (with_reducible exact spec_l2Texts.mono _ _)
      | (with_reducible exact LeO.refl _)
      | (with_reducible exact LeO.none _)
      | (with_reducible refine LeO.ite ?_ ?_)
      | (with_reducible refine LeO.bind ?_ (fun _ => ?_))
      | exact ih0 _ _
      | exact spec_l2Texts.mono _ _
      | exact LeO.none _
      | refine LeO.ite ?_ ?_
      | refine LeO.bind ?_ (fun _ => ?_)
theorem spec_SetOk.mono : ∀ a0 k, LeO (spec_SetOk.f k a0) (spec_SetOk.f (k + 1) a0) := by
  intro a0 k
  have ih0 := spec_SetOk.mono_l k
  unfold spec_SetOk.f
  repeat' first
      | (with_reducible exact ih0 _ _)
      | (with_reducible exact spec_l2Texts.mono _ _)
      | (with_reducible exact LeO.refl _)
      | (with_reducible exact LeO.none _)
      | (with_reducible refine LeO.ite ?_ ?_)
      | (with_reducible refine LeO.bind ?_ (fun _ => ?_))
      | exact ih0 _ _
      | exact spec_l2Texts.mono _ _
      | exact LeO.none _
      | refine LeO.ite ?_ ?_
      | refine LeO.bind ?_ (fun _ => ?_)
def spec_l2Copy.f (l0 : List ByteArray) : Option (List ByteArray) := (some (([] : List ByteArray) : List ByteArray)).bind fun y106 => (if y106.length + l0.length < 8796093022208 then (some (y106 ++ l0)) else (none))
def spec_l2Put.l0 : Nat → List ByteArray → ByteArray → Int → Option (List ByteArray)
  | 0, _, _, _ => none
  | k + 1, x0, x1, x5 => if x5 < (x0.length : Int) then (if 0 ≤ x5 then (if (Op.bytesLess ((rdOf ByteArray.empty x0 x5).toList) x1.toList) = true then (spec_l2Put.l0 k x0 x1 (wrap64 (x5 + 1))) else (if (rdOf ByteArray.empty x0 x5).toList = x1.toList then (some x0) else ((some (([] : List ByteArray) : List ByteArray)).bind fun y114 => (if x5 ≤ (x0.length : Int) then ((some (x0.take (x5 : Int).toNat : List ByteArray)).bind fun y117 => (if y114.length + y117.length < 8796093022208 then ((some (y114 ++ y117 : List ByteArray)).bind fun y122 => ((some (([x1] : List ByteArray) : List ByteArray)).bind fun y125 => (if y122.length + y125.length < 8796093022208 then ((some (y122 ++ y125 : List ByteArray)).bind fun y128 => ((some (x0.drop (x5 : Int).toNat : List ByteArray)).bind fun y131 => (if y128.length + y131.length < 8796093022208 then (some (y128 ++ y131)) else (none)))) else (none)))) else (none))) else (none))))) else (none)) else ((some (([] : List ByteArray) : List ByteArray)).bind fun y139 => (if 0 ≤ x5 then (if x5 ≤ (x0.length : Int) then ((some (x0.take (x5 : Int).toNat : List ByteArray)).bind fun y142 => (if y139.length + y142.length < 8796093022208 then ((some (y139 ++ y142 : List ByteArray)).bind fun y147 => ((some (([x1] : List ByteArray) : List ByteArray)).bind fun y150 => (if y147.length + y150.length < 8796093022208 then ((some (y147 ++ y150 : List ByteArray)).bind fun y153 => ((some (x0.drop (x5 : Int).toNat : List ByteArray)).bind fun y156 => (if y153.length + y156.length < 8796093022208 then (some (y153 ++ y156)) else (none)))) else (none)))) else (none))) else (none)) else (none)))
def spec_l2Put.f (k : Nat) (l0 : List ByteArray) (a1 : ByteArray) : Option (List ByteArray) := spec_l2Put.l0 k l0 a1 0
theorem spec_l2Put.mono_l : ∀ k, (∀ y0 y1 y2, LeO (spec_l2Put.l0 k y0 y1 y2) (spec_l2Put.l0 (k + 1) y0 y1 y2))
  | 0 => fun _ _ _ r h => by simp [spec_l2Put.l0] at h
  | k + 1 => by
    have ih0 := spec_l2Put.mono_l k
    · intro y0 y1 y2
      unfold spec_l2Put.l0
      repeat' first
      | (with_reducible exact ih0 _ _ _)
      | (with_reducible exact LeO.refl _)
      | (with_reducible exact LeO.none _)
      | (with_reducible refine LeO.ite ?_ ?_)
      | (with_reducible refine LeO.bind ?_ (fun _ => ?_))
      | exact ih0 _ _ _
      | exact LeO.none _
      | refine LeO.ite ?_ ?_
      | refine LeO.bind ?_ (fun _ => ?_)
theorem spec_l2Put.mono : ∀ a0 a1 k, LeO (spec_l2Put.f k a0 a1) (spec_l2Put.f (k + 1) a0 a1) := by
  intro a0 a1 k
  have ih0 := spec_l2Put.mono_l k
  unfold spec_l2Put.f
  repeat' first
      | (with_reducible exact ih0 _ _ _)
      | (with_reducible exact LeO.refl _)
      | (with_reducible exact LeO.none _)
      | (with_reducible refine LeO.ite ?_ ?_)
      | (with_reducible refine LeO.bind ?_ (fun _ => ?_))
      | exact ih0 _ _ _
      | exact LeO.none _
      | refine LeO.ite ?_ ?_
      | refine LeO.bind ?_ (fun _ => ?_)
mutual
def spec_SetAny.j0 : Nat → List ByteArray → List ByteArray → Bool → Option (List ByteArray)
  | 0, _, _, _ => none
  | k + 1, x0, x1, x14 => if x14 = true then (some (([] : List ByteArray))) else ((spec_l2Copy.f x0).bind fun t169 => (spec_SetAny.l0 k x1 t169 0))
def spec_SetAny.l0 : Nat → List ByteArray → List ByteArray → Int → Option (List ByteArray)
  | 0, _, _, _ => none
  | k + 1, x1, x5, x6 => if x6 < (x1.length : Int) then (if 0 ≤ x6 then ((spec_l2Put.f k x5 (rdOf ByteArray.empty x1 x6)).bind fun t173 => (spec_SetAny.l0 k x1 t173 (wrap64 (x6 + 1)))) else (none)) else (some x5)
end
def spec_SetAny.f (k : Nat) (l0 : List ByteArray) (l1 : List ByteArray) : Option (List ByteArray) := (spec_SetOk.f k l0).bind fun t164 => (if t164 = true then ((spec_SetOk.f k l1).bind fun t165 => (spec_SetAny.j0 k l0 l1 (!t165))) else (spec_SetAny.j0 k l0 l1 true))
theorem spec_SetAny.mono_l : ∀ k, (∀ y0 y1 y2, LeO (spec_SetAny.j0 k y0 y1 y2) (spec_SetAny.j0 (k + 1) y0 y1 y2)) ∧ (∀ y0 y1 y2, LeO (spec_SetAny.l0 k y0 y1 y2) (spec_SetAny.l0 (k + 1) y0 y1 y2))
  | 0 => ⟨fun _ _ _ r h => by simp [spec_SetAny.j0] at h, fun _ _ _ r h => by simp [spec_SetAny.l0] at h⟩
  | k + 1 => by
    obtain ⟨ih0, ih1⟩ := spec_SetAny.mono_l k
    refine ⟨?_, ?_⟩
    · intro y0 y1 y2
      unfold spec_SetAny.j0
      repeat' first
      | (with_reducible exact ih0 _ _ _)
      | (with_reducible exact ih1 _ _ _)
      | (with_reducible exact spec_SetOk.mono _ _)
      | (with_reducible exact spec_l2Put.mono _ _ _)
      | (with_reducible exact LeO.refl _)
      | (with_reducible exact LeO.none _)
      | (with_reducible refine LeO.ite ?_ ?_)
      | (with_reducible refine LeO.bind ?_ (fun _ => ?_))
      | exact ih0 _ _ _
      | exact ih1 _ _ _
      | exact spec_SetOk.mono _ _
      | exact spec_l2Put.mono _ _ _
      | exact LeO.none _
      | refine LeO.ite ?_ ?_
      | refine LeO.bind ?_ (fun _ => ?_)
    · intro y0 y1 y2
      unfold spec_SetAny.l0
      repeat' first
      | (with_reducible exact ih0 _ _ _)
      | (with_reducible exact ih1 _ _ _)
      | (with_reducible exact spec_SetOk.mono _ _)
      | (with_reducible exact spec_l2Put.mono _ _ _)
      | (with_reducible exact LeO.refl _)
      | (with_reducible exact LeO.none _)
      | (with_reducible refine LeO.ite ?_ ?_)
      | (with_reducible refine LeO.bind ?_ (fun _ => ?_))
      | exact ih0 _ _ _
      | exact ih1 _ _ _
      | exact spec_SetOk.mono _ _
      | exact spec_l2Put.mono _ _ _
      | exact LeO.none _
      | refine LeO.ite ?_ ?_
      | refine LeO.bind ?_ (fun _ => ?_)
theorem spec_SetAny.mono : ∀ a0 a1 k, LeO (spec_SetAny.f k a0 a1) (spec_SetAny.f (k + 1) a0 a1) := by
  intro a0 a1 k
  obtain ⟨ih0, ih1⟩ := spec_SetAny.mono_l k
  unfold spec_SetAny.f
  repeat' first
      | (with_reducible exact ih0 _ _ _)
      | (with_reducible exact ih1 _ _ _)
      | (with_reducible exact spec_SetOk.mono _ _)
      | (with_reducible exact spec_l2Put.mono _ _ _)
      | (with_reducible exact LeO.refl _)
      | (with_reducible exact LeO.none _)
      | (with_reducible refine LeO.ite ?_ ?_)
      | (with_reducible refine LeO.bind ?_ (fun _ => ?_))
      | exact ih0 _ _ _
      | exact ih1 _ _ _
      | exact spec_SetOk.mono _ _
      | exact spec_l2Put.mono _ _ _
      | exact LeO.none _
      | refine LeO.ite ?_ ?_
      | refine LeO.bind ?_ (fun _ => ?_)
def laws_toStringS.l0 : Nat → List ByteArray → List ByteArray → Int → Option (List ByteArray)
  | 0, _, _, _ => none
  | k + 1, x0, x3, x4 => if x4 < (x0.length : Int) then (if 0 ≤ x4 then (if x4 < (x3.length : Int) then (laws_toStringS.l0 k x0 (x3.set (x4 : Int).toNat (rdOf ByteArray.empty x0 x4)) (wrap64 (x4 + 1))) else (none)) else (none)) else (some x3)
def laws_toStringS.f (k : Nat) (l0 : List ByteArray) : Option (List ByteArray) := if 0 ≤ (l0.length : Int) then (if ((l0.length : Int) : Int).toNat ≤ 17592186044416 then (laws_toStringS.l0 k l0 (List.replicate ((l0.length : Int) : Int).toNat (⟨#[]⟩ : ByteArray)) 0) else (none)) else (none)
theorem laws_toStringS.mono_l : ∀ k, (∀ y0 y1 y2, LeO (laws_toStringS.l0 k y0 y1 y2) (laws_toStringS.l0 (k + 1) y0 y1 y2))
  | 0 => fun _ _ _ r h => by simp [laws_toStringS.l0] at h
  | k + 1 => by
    have ih0 := laws_toStringS.mono_l k
    · intro y0 y1 y2
      unfold laws_toStringS.l0
      repeat' first
      | (with_reducible exact ih0 _ _ _)
      | (with_reducible exact LeO.refl _)
      | (with_reducible exact LeO.none _)
      | (with_reducible refine LeO.ite ?_ ?_)
      | (with_reducible refine LeO.bind ?_ (fun _ => ?_))
      | exact ih0 _ _ _
      | exact LeO.none _
      | refine LeO.ite ?_ ?_
      | refine LeO.bind ?_ (fun _ => ?_)
theorem laws_toStringS.mono : ∀ a0 k, LeO (laws_toStringS.f k a0) (laws_toStringS.f (k + 1) a0) := by
  intro a0 k
  have ih0 := laws_toStringS.mono_l k
  unfold laws_toStringS.f
  repeat' first
      | (with_reducible exact ih0 _ _ _)
      | (with_reducible exact LeO.refl _)
      | (with_reducible exact LeO.none _)
      | (with_reducible refine LeO.ite ?_ ?_)
      | (with_reducible refine LeO.bind ?_ (fun _ => ?_))
      | exact ih0 _ _ _
      | exact LeO.none _
      | refine LeO.ite ?_ ?_
      | refine LeO.bind ?_ (fun _ => ?_)
def impl_textsOk.l0 : Nat → List ByteArray → Int → List ByteArray → Int → Int → Option (Bool)
  | 0, _, _, _, _, _ => none
  | k + 1, x0, x1, x7, x8, x9 => if x9 < x8 then (if 0 ≤ x9 then (if x9 < (x7.length : Int) then (if ((rdOf ByteArray.empty x7 x9).size : Int) > 40 then (some false) else (impl_textsOk.l0 k x0 x1 x7 x8 (wrap64 (x9 + 1)))) else (none)) else (none)) else (some (decide ((x0.length : Int) ≤ x1)))
def impl_textsOk.f (k : Nat) (l0 : List ByteArray) (a1 : Int) : Option (Bool) := impl_textsOk.l0 k l0 a1 l0 (l0.length : Int) 0
theorem impl_textsOk.mono_l : ∀ k, (∀ y0 y1 y2 y3 y4, LeO (impl_textsOk.l0 k y0 y1 y2 y3 y4) (impl_textsOk.l0 (k + 1) y0 y1 y2 y3 y4))
  | 0 => fun _ _ _ _ _ r h => by simp [impl_textsOk.l0] at h
  | k + 1 => by
    have ih0 := impl_textsOk.mono_l k
    · intro y0 y1 y2 y3 y4
      unfold impl_textsOk.l0
      repeat' first
      | (with_reducible exact ih0 _ _ _ _ _)
      | (with_reducible exact LeO.refl _)
      | (with_reducible exact LeO.none _)
      | (with_reducible refine LeO.ite ?_ ?_)
      | (with_reducible refine LeO.bind ?_ (fun _ => ?_))
      | exact ih0 _ _ _ _ _
      | exact LeO.none _
      | refine LeO.ite ?_ ?_
      | refine LeO.bind ?_ (fun _ => ?_)
theorem impl_textsOk.mono : ∀ a0 a1 k, LeO (impl_textsOk.f k a0 a1) (impl_textsOk.f (k + 1) a0 a1) := by
  intro a0 a1 k
  have ih0 := impl_textsOk.mono_l k
  unfold impl_textsOk.f
  repeat' first
      | (with_reducible exact ih0 _ _ _ _ _)
      | (with_reducible exact LeO.refl _)
      | (with_reducible exact LeO.none _)
      | (with_reducible refine LeO.ite ?_ ?_)
      | (with_reducible refine LeO.bind ?_ (fun _ => ?_))
      | exact ih0 _ _ _ _ _
      | exact LeO.none _
      | refine LeO.ite ?_ ?_
      | refine LeO.bind ?_ (fun _ => ?_)
def impl_listOk.f (k : Nat) (l0 : List ByteArray) : Option (Bool) := (impl_textsOk.f k l0 16).bind fun t182 => (some t182)
theorem impl_listOk.mono : ∀ a0 k, LeO (impl_listOk.f k a0) (impl_listOk.f (k + 1) a0) := by
  intro a0 k
  unfold impl_listOk.f
  repeat' first
      | (with_reducible exact impl_textsOk.mono _ _ _)
      | (with_reducible exact LeO.refl _)
      | (with_reducible exact LeO.none _)
      | (with_reducible refine LeO.ite ?_ ?_)
      | (with_reducible refine LeO.bind ?_ (fun _ => ?_))
      | exact impl_textsOk.mono _ _ _
      | exact LeO.none _
      | refine LeO.ite ?_ ?_
      | refine LeO.bind ?_ (fun _ => ?_)
def impl_SetOk.l0 : Nat → List ByteArray → Int → Option (Bool)
  | 0, _, _ => none
  | k + 1, x0, x3 => if x3 < (x0.length : Int) then (if 0 ≤ (wrap64 (x3 - 1)) then (if (wrap64 (x3 - 1)) < (x0.length : Int) then (if 0 ≤ x3 then (if ((Op.bytesLess ((rdOf ByteArray.empty x0 (wrap64 (x3 - 1))).toList) ((rdOf ByteArray.empty x0 x3).toList)) = true) then (impl_SetOk.l0 k x0 (wrap64 (x3 + 1))) else (some false)) else (none)) else (none)) else (none)) else ((impl_listOk.f k x0).bind fun t185 => (some t185))
def impl_SetOk.f (k : Nat) (l0 : List ByteArray) : Option (Bool) := impl_SetOk.l0 k l0 1
theorem impl_SetOk.mono_l : ∀ k, (∀ y0 y1, LeO (impl_SetOk.l0 k y0 y1) (impl_SetOk.l0 (k + 1) y0 y1))
  | 0 => fun _ _ r h => by simp [impl_SetOk.l0] at h
  | k + 1 => by
    have ih0 := impl_SetOk.mono_l k
    · intro y0 y1
      unfold impl_SetOk.l0
      repeat' first
      | (with_reducible exact ih0 _ _)
      | (with_reducible exact impl_listOk.mono _ _)
      | (with_reducible exact LeO.refl _)
      | (with_reducible exact LeO.none _)
      | (with_reducible refine LeO.ite ?_ ?_)
      | (with_reducible refine LeO.bind ?_ (fun _ => ?_))
      | exact ih0 _ _
      | exact impl_listOk.mono _ _
      | exact LeO.none _
      | refine LeO.ite ?_ ?_
      | refine LeO.bind ?_ (fun _ => ?_)
theorem impl_SetOk.mono : ∀ a0 k, LeO (impl_SetOk.f k a0) (impl_SetOk.f (k + 1) a0) := by
  intro a0 k
  have ih0 := impl_SetOk.mono_l k
  unfold impl_SetOk.f
  repeat' first
      | (with_reducible exact ih0 _ _)
      | (with_reducible exact impl_listOk.mono _ _)
      | (with_reducible exact LeO.refl _)
      | (with_reducible exact LeO.none _)
      | (with_reducible refine LeO.ite ?_ ?_)
      | (with_reducible refine LeO.bind ?_ (fun _ => ?_))
      | exact ih0 _ _
      | exact impl_listOk.mono _ _
      | exact LeO.none _
      | refine LeO.ite ?_ ?_
      | refine LeO.bind ?_ (fun _ => ?_)
def impl_copied.f (l0 : List ByteArray) : Option (List ByteArray) := (some (([] : List ByteArray) : List ByteArray)).bind fun y186 => (if y186.length + l0.length < 8796093022208 then (some (y186 ++ l0)) else (none))
def cmp_isNaN_string.f (a0 : ByteArray) : Option (Bool) := some (a0.toList != a0.toList)
def cmp_Less_string.f (a0 : ByteArray) (a1 : ByteArray) : Option (Bool) := (cmp_isNaN_string.f a0).bind fun t192 => (if t192 = true then ((cmp_isNaN_string.f a1).bind fun t193 => (if t193 = true then (some (Op.bytesLess a0.toList a1.toList)) else (some true))) else (some (Op.bytesLess a0.toList a1.toList)))
mutual
def slices_insertionSortOrdered_string.l0 : Nat → List ByteArray → Int → Int → Int → Option (List ByteArray)
  | 0, _, _, _, _ => none
  | k + 1, x0, x1, x2, x6 => if x6 < x2 then (slices_insertionSortOrdered_string.l1 k x0 x1 x2 x6 x6) else (some x0)
def slices_insertionSortOrdered_string.l1 : Nat → List ByteArray → Int → Int → Int → Int → Option (List ByteArray)
  | 0, _, _, _, _, _ => none
  | k + 1, x0, x1, x2, x6, x7 => if x7 > x1 then (if 0 ≤ x7 then (if x7 < (x0.length : Int) then (if 0 ≤ (wrap64 (x7 - 1)) then (if (wrap64 (x7 - 1)) < (x0.length : Int) then ((cmp_Less_string.f (rdOf ByteArray.empty x0 x7) (rdOf ByteArray.empty x0 (wrap64 (x7 - 1)))).bind fun t196 => (if t196 = true then (slices_insertionSortOrdered_string.l1 k ((x0.set (x7 : Int).toNat (rdOf ByteArray.empty x0 (wrap64 (x7 - 1)))).set ((wrap64 (x7 - 1)) : Int).toNat (rdOf ByteArray.empty x0 x7)) x1 x2 x6 (wrap64 (x7 - 1))) else (slices_insertionSortOrdered_string.l0 k x0 x1 x2 (wrap64 (x6 + 1))))) else (none)) else (none)) else (none)) else (none)) else (slices_insertionSortOrdered_string.l0 k x0 x1 x2 (wrap64 (x6 + 1)))
end
def slices_insertionSortOrdered_string.f (k : Nat) (l0 : List ByteArray) (a1 : Int) (a2 : Int) : Option (List ByteArray) := slices_insertionSortOrdered_string.l0 k l0 a1 a2 (wrap64 (a1 + 1))
theorem slices_insertionSortOrdered_string.mono_l : ∀ k, (∀ y0 y1 y2 y3, LeO (slices_insertionSortOrdered_string.l0 k y0 y1 y2 y3) (slices_insertionSortOrdered_string.l0 (k + 1) y0 y1 y2 y3)) ∧ (∀ y0 y1 y2 y3 y4, LeO (slices_insertionSortOrdered_string.l1 k y0 y1 y2 y3 y4) (slices_insertionSortOrdered_string.l1 (k + 1) y0 y1 y2 y3 y4))
  | 0 => ⟨fun _ _ _ _ r h => by simp [slices_insertionSortOrdered_string.l0] at h, fun _ _ _ _ _ r h => by simp [slices_insertionSortOrdered_string.l1] at h⟩
  | k + 1 => by
    obtain ⟨ih0, ih1⟩ := slices_insertionSortOrdered_string.mono_l k
    refine ⟨?_, ?_⟩
    · intro y0 y1 y2 y3
      unfold slices_insertionSortOrdered_string.l0
      repeat' first
      | (with_reducible exact ih0 _ _ _ _)
      | (with_reducible exact ih1 _ _ _ _ _)
      | (with_reducible exact LeO.refl _)
      | (with_reducible exact LeO.none _)
      | (with_reducible refine LeO.ite ?_ ?_)
      | (with_reducible refine LeO.bind ?_ (fun _ => ?_))
      | exact ih0 _ _ _ _
      | exact ih1 _ _ _ _ _
      | exact LeO.none _
      | refine LeO.ite ?_ ?_
      | refine LeO.bind ?_ (fun _ => ?_)
    · intro y0 y1 y2 y3 y4
      unfold slices_insertionSortOrdered_string.l1
      repeat' first
      | (with_reducible exact ih0 _ _ _ _)
      | (with_reducible exact ih1 _ _ _ _ _)
      | (with_reducible exact LeO.refl _)
      | (with_reducible exact LeO.none _)
      | (with_reducible refine LeO.ite ?_ ?_)
      | (with_reducible refine LeO.bind ?_ (fun _ => ?_))
      | exact ih0 _ _ _ _
      | exact ih1 _ _ _ _ _
      | exact LeO.none _
      | refine LeO.ite ?_ ?_
      | refine LeO.bind ?_ (fun _ => ?_)
theorem slices_insertionSortOrdered_string.mono : ∀ a0 a1 a2 k, LeO (slices_insertionSortOrdered_string.f k a0 a1 a2) (slices_insertionSortOrdered_string.f (k + 1) a0 a1 a2) := by
  intro a0 a1 a2 k
  obtain ⟨ih0, ih1⟩ := slices_insertionSortOrdered_string.mono_l k
  unfold slices_insertionSortOrdered_string.f
  repeat' first
      | (with_reducible exact ih0 _ _ _ _)
      | (with_reducible exact ih1 _ _ _ _ _)
      | (with_reducible exact LeO.refl _)
      | (with_reducible exact LeO.none _)
      | (with_reducible refine LeO.ite ?_ ?_)
      | (with_reducible refine LeO.bind ?_ (fun _ => ?_))
      | exact ih0 _ _ _ _
      | exact ih1 _ _ _ _ _
      | exact LeO.none _
      | refine LeO.ite ?_ ?_
      | refine LeO.bind ?_ (fun _ => ?_)
mutual
def slices_siftDownOrdered_string.l0 : Nat → List ByteArray → Int → Int → Int → Option (List ByteArray)
  | 0, _, _, _, _ => none
  | k + 1, x0, x2, x3, x8 => if (wrap64 ((wrap64 (2 * x8)) + 1)) ≥ x2 then (some x0) else (if (wrap64 ((wrap64 ((wrap64 (2 * x8)) + 1)) + 1)) < x2 then (if 0 ≤ (wrap64 (x3 + (wrap64 ((wrap64 (2 * x8)) + 1)))) then (if (wrap64 (x3 + (wrap64 ((wrap64 (2 * x8)) + 1)))) < (x0.length : Int) then (if 0 ≤ (wrap64 ((wrap64 (x3 + (wrap64 ((wrap64 (2 * x8)) + 1)))) + 1)) then (if (wrap64 ((wrap64 (x3 + (wrap64 ((wrap64 (2 * x8)) + 1)))) + 1)) < (x0.length : Int) then ((cmp_Less_string.f (rdOf ByteArray.empty x0 (wrap64 (x3 + (wrap64 ((wrap64 (2 * x8)) + 1))))) (rdOf ByteArray.empty x0 (wrap64 ((wrap64 (x3 + (wrap64 ((wrap64 (2 * x8)) + 1)))) + 1)))).bind fun t203 => (slices_siftDownOrdered_string.j1 k x0 x2 x3 x8 (wrap64 ((wrap64 (2 * x8)) + 1)) t203)) else (none)) else (none)) else (none)) else (none)) else (slices_siftDownOrdered_string.j1 k x0 x2 x3 x8 (wrap64 ((wrap64 (2 * x8)) + 1)) false))
def slices_siftDownOrdered_string.j1 : Nat → List ByteArray → Int → Int → Int → Int → Bool → Option (List ByteArray)
  | 0, _, _, _, _, _, _ => none
  | k + 1, x0, x2, x3, x8, x9, x36 => if x36 = true then (if 0 ≤ (wrap64 (x3 + x8)) then (if (wrap64 (x3 + x8)) < (x0.length : Int) then (if 0 ≤ (wrap64 (x3 + (wrap64 (x9 + 1)))) then (if (wrap64 (x3 + (wrap64 (x9 + 1)))) < (x0.length : Int) then ((cmp_Less_string.f (rdOf ByteArray.empty x0 (wrap64 (x3 + x8))) (rdOf ByteArray.empty x0 (wrap64 (x3 + (wrap64 (x9 + 1)))))).bind fun t206 => (if t206 = true then (slices_siftDownOrdered_string.l0 k ((x0.set ((wrap64 (x3 + x8)) : Int).toNat (rdOf ByteArray.empty x0 (wrap64 (x3 + (wrap64 (x9 + 1)))))).set ((wrap64 (x3 + (wrap64 (x9 + 1)))) : Int).toNat (rdOf ByteArray.empty x0 (wrap64 (x3 + x8)))) x2 x3 (wrap64 (x9 + 1))) else (some x0))) else (none)) else (none)) else (none)) else (none)) else (if 0 ≤ (wrap64 (x3 + x8)) then (if (wrap64 (x3 + x8)) < (x0.length : Int) then (if 0 ≤ (wrap64 (x3 + x9)) then (if (wrap64 (x3 + x9)) < (x0.length : Int) then ((cmp_Less_string.f (rdOf ByteArray.empty x0 (wrap64 (x3 + x8))) (rdOf ByteArray.empty x0 (wrap64 (x3 + x9)))).bind fun t213 => (if t213 = true then (slices_siftDownOrdered_string.l0 k ((x0.set ((wrap64 (x3 + x8)) : Int).toNat (rdOf ByteArray.empty x0 (wrap64 (x3 + x9)))).set ((wrap64 (x3 + x9)) : Int).toNat (rdOf ByteArray.empty x0 (wrap64 (x3 + x8)))) x2 x3 x9) else (some x0))) else (none)) else (none)) else (none)) else (none))
end
def slices_siftDownOrdered_string.f (k : Nat) (l0 : List ByteArray) (a1 : Int) (a2 : Int) (a3 : Int) : Option (List ByteArray) := slices_siftDownOrdered_string.l0 k l0 a2 a3 a1
theorem slices_siftDownOrdered_string.mono_l : ∀ k, (∀ y0 y1 y2 y3, LeO (slices_siftDownOrdered_string.l0 k y0 y1 y2 y3) (slices_siftDownOrdered_string.l0 (k + 1) y0 y1 y2 y3)) ∧ (∀ y0 y1 y2 y3 y4 y5, LeO (slices_siftDownOrdered_string.j1 k y0 y1 y2 y3 y4 y5) (slices_siftDownOrdered_string.j1 (k + 1) y0 y1 y2 y3 y4 y5))
  | 0 => ⟨fun _ _ _ _ r h => by simp [slices_siftDownOrdered_string.l0] at h, fun _ _ _ _ _ _ r h => by simp [slices_siftDownOrdered_string.j1] at h⟩
  | k + 1 => by
    obtain ⟨ih0, ih1⟩ := slices_siftDownOrdered_string.mono_l k
    refine ⟨?_, ?_⟩
    · intro y0 y1 y2 y3
      unfold slices_siftDownOrdered_string.l0
      repeat' first
      | (with_reducible exact ih0 _ _ _ _)
      | (with_reducible exact ih1 _ _ _ _ _ _)
      | (with_reducible exact LeO.refl _)
      | (with_reducible exact LeO.none _)
      | (with_reducible refine LeO.ite ?_ ?_)
      | (with_reducible refine LeO.bind ?_ (fun _ => ?_))
      | exact ih0 _ _ _ _
      | exact ih1 _ _ _ _ _ _
      | exact LeO.none _
      | refine LeO.ite ?_ ?_
      | refine LeO.bind ?_ (fun _ => ?_)
    · intro y0 y1 y2 y3 y4 y5
      unfold slices_siftDownOrdered_string.j1
      repeat' first
      | (with_reducible exact ih0 _ _ _ _)
      | (with_reducible exact ih1 _ _ _ _ _ _)
      | (with_reducible exact LeO.refl _)
      | (with_reducible exact LeO.none _)
      | (with_reducible refine LeO.ite ?_ ?_)
      | (with_reducible refine LeO.bind ?_ (fun _ => ?_))
      | exact ih0 _ _ _ _
      | exact ih1 _ _ _ _ _ _
      | exact LeO.none _
      | refine LeO.ite ?_ ?_
      | refine LeO.bind ?_ (fun _ => ?_)
theorem slices_siftDownOrdered_string.mono : ∀ a0 a1 a2 a3 k, LeO (slices_siftDownOrdered_string.f k a0 a1 a2 a3) (slices_siftDownOrdered_string.f (k + 1) a0 a1 a2 a3) := by
  intro a0 a1 a2 a3 k
  obtain ⟨ih0, ih1⟩ := slices_siftDownOrdered_string.mono_l k
  unfold slices_siftDownOrdered_string.f
  repeat' first
      | (with_reducible exact ih0 _ _ _ _)
      | (with_reducible exact ih1 _ _ _ _ _ _)
      | (with_reducible exact LeO.refl _)
      | (with_reducible exact LeO.none _)
      | (with_reducible refine LeO.ite ?_ ?_)
      | (with_reducible refine LeO.bind ?_ (fun _ => ?_))
      | exact ih0 _ _ _ _
      | exact ih1 _ _ _ _ _ _
      | exact LeO.none _
      | refine LeO.ite ?_ ?_
      | refine LeO.bind ?_ (fun _ => ?_)
mutual
def slices_heapSortOrdered_string.l0 : Nat → List ByteArray → Int → Int → Int → Int → Option (List ByteArray)
  | 0, _, _, _, _, _ => none
  | k + 1, x0, x6, x7, x8, x9 => if x9 ≥ 0 then ((slices_siftDownOrdered_string.f k x0 x9 x8 x6).bind fun t218 => (slices_heapSortOrdered_string.l0 k t218 x6 x7 x8 (wrap64 (x9 - 1)))) else (slices_heapSortOrdered_string.l1 k x0 x6 x7 (wrap64 (x8 - 1)))
def slices_heapSortOrdered_string.l1 : Nat → List ByteArray → Int → Int → Int → Option (List ByteArray)
  | 0, _, _, _, _ => none
  | k + 1, x0, x6, x7, x10 => if x10 ≥ 0 then (if 0 ≤ (wrap64 (x6 + x10)) then (if (wrap64 (x6 + x10)) < (x0.length : Int) then (if 0 ≤ x6 then (if x6 < (x0.length : Int) then ((slices_siftDownOrdered_string.f k ((x0.set (x6 : Int).toNat (rdOf ByteArray.empty x0 (wrap64 (x6 + x10)))).set ((wrap64 (x6 + x10)) : Int).toNat (rdOf ByteArray.empty x0 x6)) x7 x10 x6).bind fun t223 => (slices_heapSortOrdered_string.l1 k t223 x6 x7 (wrap64 (x10 - 1)))) else (none)) else (none)) else (none)) else (none)) else (some x0)
end
def slices_heapSortOrdered_string.f (k : Nat) (l0 : List ByteArray) (a1 : Int) (a2 : Int) : Option (List ByteArray) := slices_heapSortOrdered_string.l0 k l0 a1 0 (wrap64 (a2 - a1)) (wrap64 (Int.tdiv (wrap64 ((wrap64 (a2 - a1)) - 1)) 2))
theorem slices_heapSortOrdered_string.mono_l : ∀ k, (∀ y0 y1 y2 y3 y4, LeO (slices_heapSortOrdered_string.l0 k y0 y1 y2 y3 y4) (slices_heapSortOrdered_string.l0 (k + 1) y0 y1 y2 y3 y4)) ∧ (∀ y0 y1 y2 y3, LeO (slices_heapSortOrdered_string.l1 k y0 y1 y2 y3) (slices_heapSortOrdered_string.l1 (k + 1) y0 y1 y2 y3))
  | 0 => ⟨fun _ _ _ _ _ r h => by simp [slices_heapSortOrdered_string.l0] at h, fun _ _ _ _ r h => by simp [slices_heapSortOrdered_string.l1] at h⟩
  | k + 1 => by
    obtain ⟨ih0, ih1⟩ := slices_heapSortOrdered_string.mono_l k
    refine ⟨?_, ?_⟩
    · intro y0 y1 y2 y3 y4
      unfold slices_heapSortOrdered_string.l0
      repeat' first
      | (with_reducible exact ih0 _ _ _ _ _)
      | (with_reducible exact ih1 _ _ _ _)
      | (with_reducible exact slices_siftDownOrdered_string.mono _ _ _ _ _)
      | (with_reducible exact LeO.refl _)
      | (with_reducible exact LeO.none _)
      | (with_reducible refine LeO.ite ?_ ?_)
      | (with_reducible refine LeO.bind ?_ (fun _ => ?_))
      | exact ih0 _ _ _ _ _
      | exact ih1 _ _ _ _
      | exact slices_siftDownOrdered_string.mono _ _ _ _ _
      | exact LeO.none _
      | refine LeO.ite ?_ ?_
      | refine LeO.bind ?_ (fun _ => ?_)
    · intro y0 y1 y2 y3
      unfold slices_heapSortOrdered_string.l1
      repeat' first
      | (with_reducible exact ih0 _ _ _ _ _)
      | (with_reducible exact ih1 _ _ _ _)
      | (with_reducible exact slices_siftDownOrdered_string.mono _ _ _ _ _)
      | (with_reducible exact LeO.refl _)
      | (with_reducible exact LeO.none _)
      | (with_reducible refine LeO.ite ?_ ?_)
      | (with_reducible refine LeO.bind ?_ (fun _ => ?_))
      | exact ih0 _ _ _ _ _
      | exact ih1 _ _ _ _
      | exact slices_siftDownOrdered_string.mono _ _ _ _ _
      | exact LeO.none _
      | refine LeO.ite ?_ ?_
      | refine LeO.bind ?_ (fun _ => ?_)
theorem slices_heapSortOrdered_string.mono : ∀ a0 a1 a2 k, LeO (slices_heapSortOrdered_string.f k a0 a1 a2) (slices_heapSortOrdered_string.f (k + 1) a0 a1 a2) := by
  intro a0 a1 a2 k
  obtain ⟨ih0, ih1⟩ := slices_heapSortOrdered_string.mono_l k
  unfold slices_heapSortOrdered_string.f
  repeat' first
      | (with_reducible exact ih0 _ _ _ _ _)
      | (with_reducible exact ih1 _ _ _ _)
      | (with_reducible exact slices_siftDownOrdered_string.mono _ _ _ _ _)
      | (with_reducible exact LeO.refl _)
      | (with_reducible exact LeO.none _)
      | (with_reducible refine LeO.ite ?_ ?_)
      | (with_reducible refine LeO.bind ?_ (fun _ => ?_))
      | exact ih0 _ _ _ _ _
      | exact ih1 _ _ _ _
      | exact slices_siftDownOrdered_string.mono _ _ _ _ _
      | exact LeO.none _
      | refine LeO.ite ?_ ?_
      | refine LeO.bind ?_ (fun _ => ?_)
def slices_reverseRangeOrdered_string.l0 : Nat → List ByteArray → Int → Int → Option (List ByteArray)
  | 0, _, _, _ => none
  | k + 1, x0, x6, x7 => if x6 < x7 then (if 0 ≤ x7 then (if x7 < (x0.length : Int) then (if 0 ≤ x6 then (if x6 < (x0.length : Int) then (slices_reverseRangeOrdered_string.l0 k ((x0.set (x6 : Int).toNat (rdOf ByteArray.empty x0 x7)).set (x7 : Int).toNat (rdOf ByteArray.empty x0 x6)) (wrap64 (x6 + 1)) (wrap64 (x7 - 1))) else (none)) else (none)) else (none)) else (none)) else (some x0)
def slices_reverseRangeOrdered_string.f (k : Nat) (l0 : List ByteArray) (a1 : Int) (a2 : Int) : Option (List ByteArray) := slices_reverseRangeOrdered_string.l0 k l0 a1 (wrap64 (a2 - 1))
theorem slices_reverseRangeOrdered_string.mono_l : ∀ k, (∀ y0 y1 y2, LeO (slices_reverseRangeOrdered_string.l0 k y0 y1 y2) (slices_reverseRangeOrdered_string.l0 (k + 1) y0 y1 y2))
  | 0 => fun _ _ _ r h => by simp [slices_reverseRangeOrdered_string.l0] at h
  | k + 1 => by
    have ih0 := slices_reverseRangeOrdered_string.mono_l k
    · intro y0 y1 y2
      unfold slices_reverseRangeOrdered_string.l0
      repeat' first
      | (with_reducible exact ih0 _ _ _)
      | (with_reducible exact LeO.refl _)
      | (with_reducible exact LeO.none _)
      | (with_reducible refine LeO.ite ?_ ?_)
      | (with_reducible refine LeO.bind ?_ (fun _ => ?_))
      | exact ih0 _ _ _
      | exact LeO.none _
      | refine LeO.ite ?_ ?_
      | refine LeO.bind ?_ (fun _ => ?_)
theorem slices_reverseRangeOrdered_string.mono : ∀ a0 a1 a2 k, LeO (slices_reverseRangeOrdered_string.f k a0 a1 a2) (slices_reverseRangeOrdered_string.f (k + 1) a0 a1 a2) := by
  intro a0 a1 a2 k
  have ih0 := slices_reverseRangeOrdered_string.mono_l k
  unfold slices_reverseRangeOrdered_string.f
  repeat' first
      | (with_reducible exact ih0 _ _ _)
      | (with_reducible exact LeO.refl _)
      | (with_reducible exact LeO.none _)
      | (with_reducible refine LeO.ite ?_ ?_)
      | (with_reducible refine LeO.bind ?_ (fun _ => ?_))
      | exact ih0 _ _ _
      | exact LeO.none _
      | refine LeO.ite ?_ ?_
      | refine LeO.bind ?_ (fun _ => ?_)
mutual
def slices_partialInsertionSortOrdered_string.l0 : Nat → List ByteArray → Int → Int → Int → Int → Option (Bool × List ByteArray)
  | 0, _, _, _, _, _ => none
  | k + 1, x0, x1, x2, x7, x8 => if x8 < 5 then (slices_partialInsertionSortOrdered_string.l1 k x0 x1 x2 x7 x8) else (some (false, x0))
def slices_partialInsertionSortOrdered_string.j2 : Nat → List ByteArray → Int → Int → Int → Int → Option (Bool × List ByteArray)
  | 0, _, _, _, _, _ => none
  | k + 1, x0, x1, x2, x7, x8 => if x7 = x2 then (some (true, x0)) else (if (wrap64 (x2 - x1)) < 50 then (some (false, x0)) else (if 0 ≤ (wrap64 (x7 - 1)) then (if (wrap64 (x7 - 1)) < (x0.length : Int) then (if 0 ≤ x7 then (if x7 < (x0.length : Int) then ((some ((x0.set (x7 : Int).toNat (rdOf ByteArray.empty x0 (wrap64 (x7 - 1)))).set ((wrap64 (x7 - 1)) : Int).toNat (rdOf ByteArray.empty x0 x7) : List ByteArray)).bind fun y234 => (if (wrap64 (x7 - x1)) ≥ 2 then (slices_partialInsertionSortOrdered_string.l2 k y234 x1 x2 x7 x8 (wrap64 (x7 - 1))) else (slices_partialInsertionSortOrdered_string.j4 k y234 x1 x2 x7 x8))) else (none)) else (none)) else (none)) else (none)))
def slices_partialInsertionSortOrdered_string.j4 : Nat → List ByteArray → Int → Int → Int → Int → Option (Bool × List ByteArray)
  | 0, _, _, _, _, _ => none
  | k + 1, x0, x1, x2, x7, x8 => if (wrap64 (x2 - x7)) ≥ 2 then (slices_partialInsertionSortOrdered_string.l3 k x0 x1 x2 x7 x8 (wrap64 (x7 + 1))) else (slices_partialInsertionSortOrdered_string.l0 k x0 x1 x2 x7 (wrap64 (x8 + 1)))
def slices_partialInsertionSortOrdered_string.l3 : Nat → List ByteArray → Int → Int → Int → Int → Int → Option (Bool × List ByteArray)
  | 0, _, _, _, _, _, _ => none
  | k + 1, x0, x1, x2, x7, x8, x10 => if x10 < x2 then (if 0 ≤ x10 then (if x10 < (x0.length : Int) then (if 0 ≤ (wrap64 (x10 - 1)) then (if (wrap64 (x10 - 1)) < (x0.length : Int) then ((cmp_Less_string.f (rdOf ByteArray.empty x0 x10) (rdOf ByteArray.empty x0 (wrap64 (x10 - 1)))).bind fun t244 => (if t244 = true then (slices_partialInsertionSortOrdered_string.l3 k ((x0.set (x10 : Int).toNat (rdOf ByteArray.empty x0 (wrap64 (x10 - 1)))).set ((wrap64 (x10 - 1)) : Int).toNat (rdOf ByteArray.empty x0 x10)) x1 x2 x7 x8 (wrap64 (x10 + 1))) else (slices_partialInsertionSortOrdered_string.l0 k x0 x1 x2 x7 (wrap64 (x8 + 1))))) else (none)) else (none)) else (none)) else (none)) else (slices_partialInsertionSortOrdered_string.l0 k x0 x1 x2 x7 (wrap64 (x8 + 1)))
def slices_partialInsertionSortOrdered_string.l2 : Nat → List ByteArray → Int → Int → Int → Int → Int → Option (Bool × List ByteArray)
  | 0, _, _, _, _, _, _ => none
  | k + 1, x0, x1, x2, x7, x8, x9 => if x9 ≥ 1 then (if 0 ≤ x9 then (if x9 < (x0.length : Int) then (if 0 ≤ (wrap64 (x9 - 1)) then (if (wrap64 (x9 - 1)) < (x0.length : Int) then ((cmp_Less_string.f (rdOf ByteArray.empty x0 x9) (rdOf ByteArray.empty x0 (wrap64 (x9 - 1)))).bind fun t237 => (if t237 = true then (slices_partialInsertionSortOrdered_string.l2 k ((x0.set (x9 : Int).toNat (rdOf ByteArray.empty x0 (wrap64 (x9 - 1)))).set ((wrap64 (x9 - 1)) : Int).toNat (rdOf ByteArray.empty x0 x9)) x1 x2 x7 x8 (wrap64 (x9 - 1))) else (slices_partialInsertionSortOrdered_string.j4 k x0 x1 x2 x7 x8))) else (none)) else (none)) else (none)) else (none)) else (slices_partialInsertionSortOrdered_string.j4 k x0 x1 x2 x7 x8)
def slices_partialInsertionSortOrdered_string.l1 : Nat → List ByteArray → Int → Int → Int → Int → Option (Bool × List ByteArray)
  | 0, _, _, _, _, _ => none
  | k + 1, x0, x1, x2, x7, x8 => if x7 < x2 then (if 0 ≤ x7 then (if x7 < (x0.length : Int) then (if 0 ≤ (wrap64 (x7 - 1)) then (if (wrap64 (x7 - 1)) < (x0.length : Int) then ((cmp_Less_string.f (rdOf ByteArray.empty x0 x7) (rdOf ByteArray.empty x0 (wrap64 (x7 - 1)))).bind fun t230 => (if t230 = true then (slices_partialInsertionSortOrdered_string.j2 k x0 x1 x2 x7 x8) else (slices_partialInsertionSortOrdered_string.l1 k x0 x1 x2 (wrap64 (x7 + 1)) x8))) else (none)) else (none)) else (none)) else (none)) else (slices_partialInsertionSortOrdered_string.j2 k x0 x1 x2 x7 x8)
end
def slices_partialInsertionSortOrdered_string.f (k : Nat) (l0 : List ByteArray) (a1 : Int) (a2 : Int) : Option (Bool × List ByteArray) := slices_partialInsertionSortOrdered_string.l0 k l0 a1 a2 (wrap64 (a1 + 1)) 0
theorem slices_partialInsertionSortOrdered_string.mono_l : ∀ k, (∀ y0 y1 y2 y3 y4, LeO (slices_partialInsertionSortOrdered_string.l0 k y0 y1 y2 y3 y4) (slices_partialInsertionSortOrdered_string.l0 (k + 1) y0 y1 y2 y3 y4)) ∧ (∀ y0 y1 y2 y3 y4, LeO (slices_partialInsertionSortOrdered_string.j2 k y0 y1 y2 y3 y4) (slices_partialInsertionSortOrdered_string.j2 (k + 1) y0 y1 y2 y3 y4)) ∧ (∀ y0 y1 y2 y3 y4, LeO (slices_partialInsertionSortOrdered_string.j4 k y0 y1 y2 y3 y4) (slices_partialInsertionSortOrdered_string.j4 (k + 1) y0 y1 y2 y3 y4)) ∧ (∀ y0 y1 y2 y3 y4 y5, LeO (slices_partialInsertionSortOrdered_string.l3 k y0 y1 y2 y3 y4 y5) (slices_partialInsertionSortOrdered_string.l3 (k + 1) y0 y1 y2 y3 y4 y5)) ∧ (∀ y0 y1 y2 y3 y4 y5, LeO (slices_partialInsertionSortOrdered_string.l2 k y0 y1 y2 y3 y4 y5) (slices_partialInsertionSortOrdered_string.l2 (k + 1) y0 y1 y2 y3 y4 y5)) ∧ (∀ y0 y1 y2 y3 y4, LeO (slices_partialInsertionSortOrdered_string.l1 k y0 y1 y2 y3 y4) (slices_partialInsertionSortOrdered_string.l1 (k + 1) y0 y1 y2 y3 y4))
  | 0 => ⟨fun _ _ _ _ _ r h => by simp [slices_partialInsertionSortOrdered_string.l0] at h, fun _ _ _ _ _ r h => by simp [slices_partialInsertionSortOrdered_string.j2] at h, fun _ _ _ _ _ r h => by simp [slices_partialInsertionSortOrdered_string.j4] at h, fun _ _ _ _ _ _ r h => by simp [slices_partialInsertionSortOrdered_string.l3] at h, fun _ _ _ _ _ _ r h => by simp [slices_partialInsertionSortOrdered_string.l2] at h, fun _ _ _ _ _ r h => by simp [slices_partialInsertionSortOrdered_string.l1] at h⟩
  | k + 1 => by
    obtain ⟨ih0, ih1, ih2, ih3, ih4, ih5⟩ := slices_partialInsertionSortOrdered_string.mono_l k
    refine ⟨?_, ?_, ?_, ?_, ?_, ?_⟩
    · intro y0 y1 y2 y3 y4
      unfold slices_partialInsertionSortOrdered_string.l0
      repeat' first
      | (with_reducible exact ih0 _ _ _ _ _)
      | (with_reducible exact ih1 _ _ _ _ _)
      | (with_reducible exact ih2 _ _ _ _ _)
      | (with_reducible exact ih3 _ _ _ _ _ _)
      | (with_reducible exact ih4 _ _ _ _ _ _)
      | (with_reducible exact ih5 _ _ _ _ _)
      | (with_reducible exact LeO.refl _)
      | (with_reducible exact LeO.none _)
      | (with_reducible refine LeO.ite ?_ ?_)
      | (with_reducible refine LeO.bind ?_ (fun _ => ?_))
      | exact ih0 _ _ _ _ _
      | exact ih1 _ _ _ _ _
      | exact ih2 _ _ _ _ _
      | exact ih3 _ _ _ _ _ _
      | exact ih4 _ _ _ _ _ _
      | exact ih5 _ _ _ _ _
      | exact LeO.none _
      | refine LeO.ite ?_ ?_
      | refine LeO.bind ?_ (fun _ => ?_)
    · intro y0 y1 y2 y3 y4
      unfold slices_partialInsertionSortOrdered_string.j2
      repeat' first
      | (with_reducible exact ih0 _ _ _ _ _)
      | (with_reducible exact ih1 _ _ _ _ _)
      | (with_reducible exact ih2 _ _ _ _ _)
      | (with_reducible exact ih3 _ _ _ _ _ _)
      | (with_reducible exact ih4 _ _ _ _ _ _)
      | (with_reducible exact ih5 _ _ _ _ _)
      | (with_reducible exact LeO.refl _)
      | (with_reducible exact LeO.none _)
      | (with_reducible refine LeO.ite ?_ ?_)
      | (with_reducible refine LeO.bind ?_ (fun _ => ?_))
      | exact ih0 _ _ _ _ _
      | exact ih1 _ _ _ _ _
      | exact ih2 _ _ _ _ _
      | exact ih3 _ _ _ _ _ _
      | exact ih4 _ _ _ _ _ _
      | exact ih5 _ _ _ _ _
      | exact LeO.none _
      | refine LeO.ite ?_ ?_
      | refine LeO.bind ?_ (fun _ => ?_)
    · intro y0 y1 y2 y3 y4
      unfold slices_partialInsertionSortOrdered_string.j4
      repeat' first
      | (with_reducible exact ih0 _ _ _ _ _)
      | (with_reducible exact ih1 _ _ _ _ _)
      | (with_reducible exact ih2 _ _ _ _ _)
      | (with_reducible exact ih3 _ _ _ _ _ _)
      | (with_reducible exact ih4 _ _ _ _ _ _)
      | (with_reducible exact ih5 _ _ _ _ _)
      | (with_reducible exact LeO.refl _)
      | (with_reducible exact LeO.none _)
      | (with_reducible refine LeO.ite ?_ ?_)
      | (with_reducible refine LeO.bind ?_ (fun _ => ?_))
      | exact ih0 _ _ _ _ _
      | exact ih1 _ _ _ _ _
      | exact ih2 _ _ _ _ _
      | exact ih3 _ _ _ _ _ _
      | exact ih4 _ _ _ _ _ _
      | exact ih5 _ _ _ _ _
      | exact LeO.none _
      | refine LeO.ite ?_ ?_
      | refine LeO.bind ?_ (fun _ => ?_)
    · intro y0 y1 y2 y3 y4 y5
      unfold slices_partialInsertionSortOrdered_string.l3
      repeat' first
      | (with_reducible exact ih0 _ _ _ _ _)
      | (with_reducible exact ih1 _ _ _ _ _)
      | (with_reducible exact ih2 _ _ _ _ _)
      | (with_reducible exact ih3 _ _ _ _ _ _)
      | (with_reducible exact ih4 _ _ _ _ _ _)
      | (with_reducible exact ih5 _ _ _ _ _)
      | (with_reducible exact LeO.refl _)
      | (with_reducible exact LeO.none _)
      | (with_reducible refine LeO.ite ?_ ?_)
      | (with_reducible refine LeO.bind ?_ (fun _ => ?_))
      | exact ih0 _ _ _ _ _
      | exact ih1 _ _ _ _ _
      | exact ih2 _ _ _ _ _
      | exact ih3 _ _ _ _ _ _
      | exact ih4 _ _ _ _ _ _
      | exact ih5 _ _ _ _ _
      | exact LeO.none _
      | refine LeO.ite ?_ ?_
      | refine LeO.bind ?_ (fun _ => ?_)
    · intro y0 y1 y2 y3 y4 y5
      unfold slices_partialInsertionSortOrdered_string.l2
      repeat' first
      | (with_reducible exact ih0 _ _ _ _ _)
      | (with_reducible exact ih1 _ _ _ _ _)
      | (with_reducible exact ih2 _ _ _ _ _)
      | (with_reducible exact ih3 _ _ _ _ _ _)
      | (with_reducible exact ih4 _ _ _ _ _ _)
      | (with_reducible exact ih5 _ _ _ _ _)
      | (with_reducible exact LeO.refl _)
      | (with_reducible exact LeO.none _)
      | (with_reducible refine LeO.ite ?_ ?_)
      | (with_reducible refine LeO.bind ?_ (fun _ => ?_))
      | exact ih0 _ _ _ _ _
      | exact ih1 _ _ _ _ _
      | exact ih2 _ _ _ _ _
      | exact ih3 _ _ _ _ _ _
      | exact ih4 _ _ _ _ _ _
      | exact ih5 _ _ _ _ _
      | exact LeO.none _
      | refine LeO.ite ?_ ?_
      | refine LeO.bind ?_ (fun _ => ?_)
    · intro y0 y1 y2 y3 y4
      unfold slices_partialInsertionSortOrdered_string.l1
      repeat' first
      | (with_reducible exact ih0 _ _ _ _ _)
      | (with_reducible exact ih1 _ _ _ _ _)
      | (with_reducible exact ih2 _ _ _ _ _)
      | (with_reducible exact ih3 _ _ _ _ _ _)
      | (with_reducible exact ih4 _ _ _ _ _ _)
      | (with_reducible exact ih5 _ _ _ _ _)
      | (with_reducible exact LeO.refl _)
      | (with_reducible exact LeO.none _)
      | (with_reducible refine LeO.ite ?_ ?_)
      | (with_reducible refine LeO.bind ?_ (fun _ => ?_))
      | exact ih0 _ _ _ _ _
      | exact ih1 _ _ _ _ _
      | exact ih2 _ _ _ _ _
      | exact ih3 _ _ _ _ _ _
      | exact ih4 _ _ _ _ _ _
      | exact ih5 _ _ _ _ _
      | exact LeO.none _
      | refine LeO.ite ?_ ?_
      | refine LeO.bind ?_ (fun _ => ?_)
theorem slices_partialInsertionSortOrdered_string.mono : ∀ a0 a1 a2 k, LeO (slices_partialInsertionSortOrdered_string.f k a0 a1 a2) (slices_partialInsertionSortOrdered_string.f (k + 1) a0 a1 a2) := by
  intro a0 a1 a2 k
  obtain ⟨ih0, ih1, ih2, ih3, ih4, ih5⟩ := slices_partialInsertionSortOrdered_string.mono_l k
  unfold slices_partialInsertionSortOrdered_string.f
  repeat' first
      | (with_reducible exact ih0 _ _ _ _ _)
      | (with_reducible exact ih1 _ _ _ _ _)
      | (with_reducible exact ih2 _ _ _ _ _)
      | (with_reducible exact ih3 _ _ _ _ _ _)
      | (with_reducible exact ih4 _ _ _ _ _ _)
      | (with_reducible exact ih5 _ _ _ _ _)
      | (with_reducible exact LeO.refl _)
      | (with_reducible exact LeO.none _)
      | (with_reducible refine LeO.ite ?_ ?_)
      | (with_reducible refine LeO.bind ?_ (fun _ => ?_))
      | exact ih0 _ _ _ _ _
      | exact ih1 _ _ _ _ _
      | exact ih2 _ _ _ _ _
      | exact ih3 _ _ _ _ _ _
      | exact ih4 _ _ _ _ _ _
      | exact ih5 _ _ _ _ _
      | exact LeO.none _
      | refine LeO.ite ?_ ?_
      | refine LeO.bind ?_ (fun _ => ?_)
mutual
def slices_partitionEqualOrdered_string.l0 : Nat → List ByteArray → Int → Int → Int → Option (Int × List ByteArray)
  | 0, _, _, _, _ => none
  | k + 1, x0, x1, x9, x10 => slices_partitionEqualOrdered_string.l1 k x0 x1 x9 x10
def slices_partitionEqualOrdered_string.j2 : Nat → List ByteArray → Int → Int → Int → Option (Int × List ByteArray)
  | 0, _, _, _, _ => none
  | k + 1, x0, x1, x9, x10 => slices_partitionEqualOrdered_string.l2 k x0 x1 x9 x10
def slices_partitionEqualOrdered_string.l2 : Nat → List ByteArray → Int → Int → Int → Option (Int × List ByteArray)
  | 0, _, _, _, _ => none
  | k + 1, x0, x1, x9, x10 => if x9 ≤ x10 then (if 0 ≤ x1 then (if x1 < (x0.length : Int) then (if 0 ≤ x10 then (if x10 < (x0.length : Int) then ((cmp_Less_string.f (rdOf ByteArray.empty x0 x1) (rdOf ByteArray.empty x0 x10)).bind fun t258 => (if t258 = true then (slices_partitionEqualOrdered_string.l2 k x0 x1 x9 (wrap64 (x10 - 1))) else (if x9 > x10 then (some (x9, x0)) else (if 0 ≤ x9 then (if x9 < (x0.length : Int) then (slices_partitionEqualOrdered_string.l0 k ((x0.set (x9 : Int).toNat (rdOf ByteArray.empty x0 x10)).set (x10 : Int).toNat (rdOf ByteArray.empty x0 x9)) x1 (wrap64 (x9 + 1)) (wrap64 (x10 - 1))) else (none)) else (none))))) else (none)) else (none)) else (none)) else (none)) else (if x9 > x10 then (some (x9, x0)) else (if 0 ≤ x10 then (if x10 < (x0.length : Int) then (if 0 ≤ x9 then (if x9 < (x0.length : Int) then (slices_partitionEqualOrdered_string.l0 k ((x0.set (x9 : Int).toNat (rdOf ByteArray.empty x0 x10)).set (x10 : Int).toNat (rdOf ByteArray.empty x0 x9)) x1 (wrap64 (x9 + 1)) (wrap64 (x10 - 1))) else (none)) else (none)) else (none)) else (none)))
def slices_partitionEqualOrdered_string.l1 : Nat → List ByteArray → Int → Int → Int → Option (Int × List ByteArray)
  | 0, _, _, _, _ => none
  | k + 1, x0, x1, x9, x10 => if x9 ≤ x10 then (if 0 ≤ x1 then (if x1 < (x0.length : Int) then (if 0 ≤ x9 then (if x9 < (x0.length : Int) then ((cmp_Less_string.f (rdOf ByteArray.empty x0 x1) (rdOf ByteArray.empty x0 x9)).bind fun t255 => (if t255 = true then (slices_partitionEqualOrdered_string.j2 k x0 x1 x9 x10) else (slices_partitionEqualOrdered_string.l1 k x0 x1 (wrap64 (x9 + 1)) x10))) else (none)) else (none)) else (none)) else (none)) else (slices_partitionEqualOrdered_string.j2 k x0 x1 x9 x10)
end
def slices_partitionEqualOrdered_string.f (k : Nat) (l0 : List ByteArray) (a1 : Int) (a2 : Int) (a3 : Int) : Option (Int × List ByteArray) := if 0 ≤ a3 then (if a3 < (l0.length : Int) then (if 0 ≤ a1 then (if a1 < (l0.length : Int) then (slices_partitionEqualOrdered_string.l0 k ((l0.set (a1 : Int).toNat (rdOf ByteArray.empty l0 a3)).set (a3 : Int).toNat (rdOf ByteArray.empty l0 a1)) a1 (wrap64 (a1 + 1)) (wrap64 (a2 - 1))) else (none)) else (none)) else (none)) else (none)
theorem slices_partitionEqualOrdered_string.mono_l : ∀ k, (∀ y0 y1 y2 y3, LeO (slices_partitionEqualOrdered_string.l0 k y0 y1 y2 y3) (slices_partitionEqualOrdered_string.l0 (k + 1) y0 y1 y2 y3)) ∧ (∀ y0 y1 y2 y3, LeO (slices_partitionEqualOrdered_string.j2 k y0 y1 y2 y3) (slices_partitionEqualOrdered_string.j2 (k + 1) y0 y1 y2 y3)) ∧ (∀ y0 y1 y2 y3, LeO (slices_partitionEqualOrdered_string.l2 k y0 y1 y2 y3) (slices_partitionEqualOrdered_string.l2 (k + 1) y0 y1 y2 y3)) ∧ (∀ y0 y1 y2 y3, LeO (slices_partitionEqualOrdered_string.l1 k y0 y1 y2 y3) (slices_partitionEqualOrdered_string.l1 (k + 1) y0 y1 y2 y3))
  | 0 => ⟨fun _ _ _ _ r h => by simp [slices_partitionEqualOrdered_string.l0] at h, fun _ _ _ _ r h => by simp [slices_partitionEqualOrdered_string.j2] at h, fun _ _ _ _ r h => by simp [slices_partitionEqualOrdered_string.l2] at h, fun _ _ _ _ r h => by simp [slices_partitionEqualOrdered_string.l1] at h⟩
  | k + 1 => by
    obtain ⟨ih0, ih1, ih2, ih3⟩ := slices_partitionEqualOrdered_string.mono_l k
    refine ⟨?_, ?_, ?_, ?_⟩
    · intro y0 y1 y2 y3
      unfold slices_partitionEqualOrdered_string.l0
      repeat' first
      | (with_reducible exact ih0 _ _ _ _)
      | (with_reducible exact ih1 _ _ _ _)
      | (with_reducible exact ih2 _ _ _ _)
      | (with_reducible exact ih3 _ _ _ _)
      | (with_reducible exact LeO.refl _)
      | (with_reducible exact LeO.none _)
      | (with_reducible refine LeO.ite ?_ ?_)
      | (with_reducible refine LeO.bind ?_ (fun _ => ?_))
      | exact ih0 _ _ _ _
      | exact ih1 _ _ _ _
      | exact ih2 _ _ _ _
      | exact ih3 _ _ _ _
      | exact LeO.none _
      | refine LeO.ite ?_ ?_
      | refine LeO.bind ?_ (fun _ => ?_)
    · intro y0 y1 y2 y3
      unfold slices_partitionEqualOrdered_string.j2
      repeat' first
      | (with_reducible exact ih0 _ _ _ _)
      | (with_reducible exact ih1 _ _ _ _)
      | (with_reducible exact ih2 _ _ _ _)
      | (with_reducible exact ih3 _ _ _ _)
      | (with_reducible exact LeO.refl _)
      | (with_reducible exact LeO.none _)
      | (with_reducible refine LeO.ite ?_ ?_)
      | (with_reducible refine LeO.bind ?_ (fun _ => ?_))
      | exact ih0 _ _ _ _
      | exact ih1 _ _ _ _
      | exact ih2 _ _ _ _
      | exact ih3 _ _ _ _
      | exact LeO.none _
      | refine LeO.ite ?_ ?_
      | refine LeO.bind ?_ (fun _ => ?_)
    · intro y0 y1 y2 y3
      unfold slices_partitionEqualOrdered_string.l2
      repeat' first
      | (with_reducible exact ih0 _ _ _ _)
      | (with_reducible exact ih1 _ _ _ _)
      | (with_reducible exact ih2 _ _ _ _)
      | (with_reducible exact ih3 _ _ _ _)
      | (with_reducible exact LeO.refl _)
      | (with_reducible exact LeO.none _)
      | (with_reducible refine LeO.ite ?_ ?_)
      | (with_reducible refine LeO.bind ?_ (fun _ => ?_))
      | exact ih0 _ _ _ _
      | exact ih1 _ _ _ _
      | exact ih2 _ _ _ _
      | exact ih3 _ _ _ _
      | exact LeO.none _
      | refine LeO.ite ?_ ?_
      | refine LeO.bind ?_ (fun _ => ?_)
    · intro y0 y1 y2 y3
      unfold slices_partitionEqualOrdered_string.l1
      repeat' first
      | (with_reducible exact ih0 _ _ _ _)
      | (with_reducible exact ih1 _ _ _ _)
      | (with_reducible exact ih2 _ _ _ _)
      | (with_reducible exact ih3 _ _ _ _)
      | (with_reducible exact LeO.refl _)
      | (with_reducible exact LeO.none _)
      | (with_reducible refine LeO.ite ?_ ?_)
      | (with_reducible refine LeO.bind ?_ (fun _ => ?_))
      | exact ih0 _ _ _ _
      | exact ih1 _ _ _ _
      | exact ih2 _ _ _ _
      | exact ih3 _ _ _ _
      | exact LeO.none _
      | refine LeO.ite ?_ ?_
      | refine LeO.bind ?_ (fun _ => ?_)
theorem slices_partitionEqualOrdered_string.mono : ∀ a0 a1 a2 a3 k, LeO (slices_partitionEqualOrdered_string.f k a0 a1 a2 a3) (slices_partitionEqualOrdered_string.f (k + 1) a0 a1 a2 a3) := by
  intro a0 a1 a2 a3 k
  obtain ⟨ih0, ih1, ih2, ih3⟩ := slices_partitionEqualOrdered_string.mono_l k
  unfold slices_partitionEqualOrdered_string.f
  repeat' first
      | (with_reducible exact ih0 _ _ _ _)
      | (with_reducible exact ih1 _ _ _ _)
      | (with_reducible exact ih2 _ _ _ _)
      | (with_reducible exact ih3 _ _ _ _)
      | (with_reducible exact LeO.refl _)
      | (with_reducible exact LeO.none _)
      | (with_reducible refine LeO.ite ?_ ?_)
      | (with_reducible refine LeO.bind ?_ (fun _ => ?_))
      | exact ih0 _ _ _ _
      | exact ih1 _ _ _ _
      | exact ih2 _ _ _ _
      | exact ih3 _ _ _ _
      | exact LeO.none _
      | refine LeO.ite ?_ ?_
      | refine LeO.bind ?_ (fun _ => ?_)
mutual
def slices_partitionOrdered_string.j1 : Nat → List ByteArray → Int → Int → Int → Option (Int × Bool × List ByteArray)
  | 0, _, _, _, _ => none
  | k + 1, x0, x1, x10, x11 => slices_partitionOrdered_string.l1 k x0 x1 x10 x11
def slices_partitionOrdered_string.j3 : Nat → List ByteArray → Int → Int → Int → Option (Int × Bool × List ByteArray)
  | 0, _, _, _, _ => none
  | k + 1, x0, x1, x10, x11 => if x10 > x11 then (if 0 ≤ x1 then (if x1 < (x0.length : Int) then (if 0 ≤ x11 then (if x11 < (x0.length : Int) then (some (x11, true, ((x0.set (x11 : Int).toNat (rdOf ByteArray.empty x0 x1)).set (x1 : Int).toNat (rdOf ByteArray.empty x0 x11)))) else (none)) else (none)) else (none)) else (none)) else (if 0 ≤ x11 then (if x11 < (x0.length : Int) then (if 0 ≤ x10 then (if x10 < (x0.length : Int) then (slices_partitionOrdered_string.l2 k ((x0.set (x10 : Int).toNat (rdOf ByteArray.empty x0 x11)).set (x11 : Int).toNat (rdOf ByteArray.empty x0 x10)) x1 (wrap64 (x10 + 1)) (wrap64 (x11 - 1))) else (none)) else (none)) else (none)) else (none))
def slices_partitionOrdered_string.l2 : Nat → List ByteArray → Int → Int → Int → Option (Int × Bool × List ByteArray)
  | 0, _, _, _, _ => none
  | k + 1, x0, x1, x10, x11 => slices_partitionOrdered_string.l3 k x0 x1 x10 x11
def slices_partitionOrdered_string.j6 : Nat → List ByteArray → Int → Int → Int → Option (Int × Bool × List ByteArray)
  | 0, _, _, _, _ => none
  | k + 1, x0, x1, x10, x11 => slices_partitionOrdered_string.l4 k x0 x1 x10 x11
def slices_partitionOrdered_string.l4 : Nat → List ByteArray → Int → Int → Int → Option (Int × Bool × List ByteArray)
  | 0, _, _, _, _ => none
  | k + 1, x0, x1, x10, x11 => if x10 ≤ x11 then (if 0 ≤ x11 then (if x11 < (x0.length : Int) then (if 0 ≤ x1 then (if x1 < (x0.length : Int) then ((cmp_Less_string.f (rdOf ByteArray.empty x0 x11) (rdOf ByteArray.empty x0 x1)).bind fun t290 => (if t290 = true then (if x10 > x11 then (some (x11, false, ((x0.set (x11 : Int).toNat (rdOf ByteArray.empty x0 x1)).set (x1 : Int).toNat (rdOf ByteArray.empty x0 x11)))) else (if 0 ≤ x10 then (if x10 < (x0.length : Int) then (slices_partitionOrdered_string.l2 k ((x0.set (x10 : Int).toNat (rdOf ByteArray.empty x0 x11)).set (x11 : Int).toNat (rdOf ByteArray.empty x0 x10)) x1 (wrap64 (x10 + 1)) (wrap64 (x11 - 1))) else (none)) else (none))) else (slices_partitionOrdered_string.l4 k x0 x1 x10 (wrap64 (x11 - 1))))) else (none)) else (none)) else (none)) else (none)) else (if x10 > x11 then (if 0 ≤ x1 then (if x1 < (x0.length : Int) then (if 0 ≤ x11 then (if x11 < (x0.length : Int) then (some (x11, false, ((x0.set (x11 : Int).toNat (rdOf ByteArray.empty x0 x1)).set (x1 : Int).toNat (rdOf ByteArray.empty x0 x11)))) else (none)) else (none)) else (none)) else (none)) else (if 0 ≤ x11 then (if x11 < (x0.length : Int) then (if 0 ≤ x10 then (if x10 < (x0.length : Int) then (slices_partitionOrdered_string.l2 k ((x0.set (x10 : Int).toNat (rdOf ByteArray.empty x0 x11)).set (x11 : Int).toNat (rdOf ByteArray.empty x0 x10)) x1 (wrap64 (x10 + 1)) (wrap64 (x11 - 1))) else (none)) else (none)) else (none)) else (none)))
def slices_partitionOrdered_string.l3 : Nat → List ByteArray → Int → Int → Int → Option (Int × Bool × List ByteArray)
  | 0, _, _, _, _ => none
  | k + 1, x0, x1, x10, x11 => if x10 ≤ x11 then (if 0 ≤ x10 then (if x10 < (x0.length : Int) then (if 0 ≤ x1 then (if x1 < (x0.length : Int) then ((cmp_Less_string.f (rdOf ByteArray.empty x0 x10) (rdOf ByteArray.empty x0 x1)).bind fun t287 => (if t287 = true then (slices_partitionOrdered_string.l3 k x0 x1 (wrap64 (x10 + 1)) x11) else (slices_partitionOrdered_string.j6 k x0 x1 x10 x11))) else (none)) else (none)) else (none)) else (none)) else (slices_partitionOrdered_string.j6 k x0 x1 x10 x11)
def slices_partitionOrdered_string.l1 : Nat → List ByteArray → Int → Int → Int → Option (Int × Bool × List ByteArray)
  | 0, _, _, _, _ => none
  | k + 1, x0, x1, x10, x11 => if x10 ≤ x11 then (if 0 ≤ x11 then (if x11 < (x0.length : Int) then (if 0 ≤ x1 then (if x1 < (x0.length : Int) then ((cmp_Less_string.f (rdOf ByteArray.empty x0 x11) (rdOf ByteArray.empty x0 x1)).bind fun t276 => (if t276 = true then (slices_partitionOrdered_string.j3 k x0 x1 x10 x11) else (slices_partitionOrdered_string.l1 k x0 x1 x10 (wrap64 (x11 - 1))))) else (none)) else (none)) else (none)) else (none)) else (slices_partitionOrdered_string.j3 k x0 x1 x10 x11)
def slices_partitionOrdered_string.l0 : Nat → List ByteArray → Int → Int → Int → Option (Int × Bool × List ByteArray)
  | 0, _, _, _, _ => none
  | k + 1, x0, x1, x10, x11 => if x10 ≤ x11 then (if 0 ≤ x10 then (if x10 < (x0.length : Int) then (if 0 ≤ x1 then (if x1 < (x0.length : Int) then ((cmp_Less_string.f (rdOf ByteArray.empty x0 x10) (rdOf ByteArray.empty x0 x1)).bind fun t273 => (if t273 = true then (slices_partitionOrdered_string.l0 k x0 x1 (wrap64 (x10 + 1)) x11) else (slices_partitionOrdered_string.j1 k x0 x1 x10 x11))) else (none)) else (none)) else (none)) else (none)) else (slices_partitionOrdered_string.j1 k x0 x1 x10 x11)
end
def slices_partitionOrdered_string.f (k : Nat) (l0 : List ByteArray) (a1 : Int) (a2 : Int) (a3 : Int) : Option (Int × Bool × List ByteArray) := if 0 ≤ a3 then (if a3 < (l0.length : Int) then (if 0 ≤ a1 then (if a1 < (l0.length : Int) then (slices_partitionOrdered_string.l0 k ((l0.set (a1 : Int).toNat (rdOf ByteArray.empty l0 a3)).set (a3 : Int).toNat (rdOf ByteArray.empty l0 a1)) a1 (wrap64 (a1 + 1)) (wrap64 (a2 - 1))) else (none)) else (none)) else (none)) else (none)
theorem slices_partitionOrdered_string.mono_l : ∀ k, (∀ y0 y1 y2 y3, LeO (slices_partitionOrdered_string.j1 k y0 y1 y2 y3) (slices_partitionOrdered_string.j1 (k + 1) y0 y1 y2 y3)) ∧ (∀ y0 y1 y2 y3, LeO (slices_partitionOrdered_string.j3 k y0 y1 y2 y3) (slices_partitionOrdered_string.j3 (k + 1) y0 y1 y2 y3)) ∧ (∀ y0 y1 y2 y3, LeO (slices_partitionOrdered_string.l2 k y0 y1 y2 y3) (slices_partitionOrdered_string.l2 (k + 1) y0 y1 y2 y3)) ∧ (∀ y0 y1 y2 y3, LeO (slices_partitionOrdered_string.j6 k y0 y1 y2 y3) (slices_partitionOrdered_string.j6 (k + 1) y0 y1 y2 y3)) ∧ (∀ y0 y1 y2 y3, LeO (slices_partitionOrdered_string.l4 k y0 y1 y2 y3) (slices_partitionOrdered_string.l4 (k + 1) y0 y1 y2 y3)) ∧ (∀ y0 y1 y2 y3, LeO (slices_partitionOrdered_string.l3 k y0 y1 y2 y3) (slices_partitionOrdered_string.l3 (k + 1) y0 y1 y2 y3)) ∧ (∀ y0 y1 y2 y3, LeO (slices_partitionOrdered_string.l1 k y0 y1 y2 y3) (slices_partitionOrdered_string.l1 (k + 1) y0 y1 y2 y3)) ∧ (∀ y0 y1 y2 y3, LeO (slices_partitionOrdered_string.l0 k y0 y1 y2 y3) (slices_partitionOrdered_string.l0 (k + 1) y0 y1 y2 y3))
  | 0 => ⟨fun _ _ _ _ r h => by simp [slices_partitionOrdered_string.j1] at h, fun _ _ _ _ r h => by simp [slices_partitionOrdered_string.j3] at h, fun _ _ _ _ r h => by simp [slices_partitionOrdered_string.l2] at h, fun _ _ _ _ r h => by simp [slices_partitionOrdered_string.j6] at h, fun _ _ _ _ r h => by simp [slices_partitionOrdered_string.l4] at h, fun _ _ _ _ r h => by simp [slices_partitionOrdered_string.l3] at h, fun _ _ _ _ r h => by simp [slices_partitionOrdered_string.l1] at h, fun _ _ _ _ r h => by simp [slices_partitionOrdered_string.l0] at h⟩
  | k + 1 => by
    obtain ⟨ih0, ih1, ih2, ih3, ih4, ih5, ih6, ih7⟩ := slices_partitionOrdered_string.mono_l k
    refine ⟨?_, ?_, ?_, ?_, ?_, ?_, ?_, ?_⟩
    · intro y0 y1 y2 y3
      unfold slices_partitionOrdered_string.j1
      repeat' first
      | (with_reducible exact ih0 _ _ _ _)
      | (with_reducible exact ih1 _ _ _ _)
      | (with_reducible exact ih2 _ _ _ _)
      | (with_reducible exact ih3 _ _ _ _)
      | (with_reducible exact ih4 _ _ _ _)
      | (with_reducible exact ih5 _ _ _ _)
      | (with_reducible exact ih6 _ _ _ _)
      | (with_reducible exact ih7 _ _ _ _)
      | (with_reducible exact LeO.refl _)
      | (with_reducible exact LeO.none _)
      | (with_reducible refine LeO.ite ?_ ?_)
      | (with_reducible refine LeO.bind ?_ (fun _ => ?_))
      | exact ih0 _ _ _ _
      | exact ih1 _ _ _ _
      | exact ih2 _ _ _ _
      | exact ih3 _ _ _ _
      | exact ih4 _ _ _ _
      | exact ih5 _ _ _ _
      | exact ih6 _ _ _ _
      | exact ih7 _ _ _ _
      | exact LeO.none _
      | refine LeO.ite ?_ ?_
      | refine LeO.bind ?_ (fun _ => ?_)
    · intro y0 y1 y2 y3
      unfold slices_partitionOrdered_string.j3
      repeat' first
      | (with_reducible exact ih0 _ _ _ _)
      | (with_reducible exact ih1 _ _ _ _)
      | (with_reducible exact ih2 _ _ _ _)
      | (with_reducible exact ih3 _ _ _ _)
      | (with_reducible exact ih4 _ _ _ _)
      | (with_reducible exact ih5 _ _ _ _)
      | (with_reducible exact ih6 _ _ _ _)
      | (with_reducible exact ih7 _ _ _ _)
      | (with_reducible exact LeO.refl _)
      | (with_reducible exact LeO.none _)
      | (with_reducible refine LeO.ite ?_ ?_)
      | (with_reducible refine LeO.bind ?_ (fun _ => ?_))
      | exact ih0 _ _ _ _
      | exact ih1 _ _ _ _
      | exact ih2 _ _ _ _
      | exact ih3 _ _ _ _
      | exact ih4 _ _ _ _
      | exact ih5 _ _ _ _
      | exact ih6 _ _ _ _
      | exact ih7 _ _ _ _
      | exact LeO.none _
      | refine LeO.ite ?_ ?_
      | refine LeO.bind ?_ (fun _ => ?_)
    · intro y0 y1 y2 y3
      unfold slices_partitionOrdered_string.l2
      repeat' first
      | (with_reducible exact ih0 _ _ _ _)
      | (with_reducible exact ih1 _ _ _ _)
      | (with_reducible exact ih2 _ _ _ _)
      | (with_reducible exact ih3 _ _ _ _)
      | (with_reducible exact ih4 _ _ _ _)
      | (with_reducible exact ih5 _ _ _ _)
      | (with_reducible exact ih6 _ _ _ _)
      | (with_reducible exact ih7 _ _ _ _)
      | (with_reducible exact LeO.refl _)
      | (with_reducible exact LeO.none _)
      | (with_reducible refine LeO.ite ?_ ?_)
      | (with_reducible refine LeO.bind ?_ (fun _ => ?_))
      | exact ih0 _ _ _ _
      | exact ih1 _ _ _ _
      | exact ih2 _ _ _ _
      | exact ih3 _ _ _ _
      | exact ih4 _ _ _ _
      | exact ih5 _ _ _ _
      | exact ih6 _ _ _ _
      | exact ih7 _ _ _ _
      | exact LeO.none _
      | refine LeO.ite ?_ ?_
      | refine LeO.bind ?_ (fun _ => ?_)
    · intro y0 y1 y2 y3
      unfold slices_partitionOrdered_string.j6
      repeat' first
      | (with_reducible exact ih0 _ _ _ _)
      | (with_reducible exact ih1 _ _ _ _)
      | (with_reducible exact ih2 _ _ _ _)
      | (with_reducible exact ih3 _ _ _ _)
      | (with_reducible exact ih4 _ _ _ _)
      | (with_reducible exact ih5 _ _ _ _)
      | (with_reducible exact ih6 _ _ _ _)
      | (with_reducible exact ih7 _ _ _ _)
      | (with_reducible exact LeO.refl _)
      | (with_reducible exact LeO.none _)
      | (with_reducible refine LeO.ite ?_ ?_)
      | (with_reducible refine LeO.bind ?_ (fun _ => ?_))
      | exact ih0 _ _ _ _
      | exact ih1 _ _ _ _
      | exact ih2 _ _ _ _
      | exact ih3 _ _ _ _
      | exact ih4 _ _ _ _
      | exact ih5 _ _ _ _
      | exact ih6 _ _ _ _
      | exact ih7 _ _ _ _
      | exact LeO.none _
      | refine LeO.ite ?_ ?_
      | refine LeO.bind ?_ (fun _ => ?_)
    · intro y0 y1 y2 y3
      unfold slices_partitionOrdered_string.l4
      repeat' first
      | (with_reducible exact ih0 _ _ _ _)
      | (with_reducible exact ih1 _ _ _ _)
      | (with_reducible exact ih2 _ _ _ _)
      | (with_reducible exact ih3 _ _ _ _)
      | (with_reducible exact ih4 _ _ _ _)
      | (with_reducible exact ih5 _ _ _ _)
      | (with_reducible exact ih6 _ _ _ _)
      | (with_reducible exact ih7 _ _ _ _)
      | (with_reducible exact LeO.refl _)
      | (with_reducible exact LeO.none _)
      | (with_reducible refine LeO.ite ?_ ?_)
      | (with_reducible refine LeO.bind ?_ (fun _ => ?_))
      | exact ih0 _ _ _ _
      | exact ih1 _ _ _ _
      | exact ih2 _ _ _ _
      | exact ih3 _ _ _ _
      | exact ih4 _ _ _ _
      | exact ih5 _ _ _ _
      | exact ih6 _ _ _ _
      | exact ih7 _ _ _ _
      | exact LeO.none _
      | refine LeO.ite ?_ ?_
      | refine LeO.bind ?_ (fun _ => ?_)
    · intro y0 y1 y2 y3
      unfold slices_partitionOrdered_string.l3
      repeat' first
      | (with_reducible exact ih0 _ _ _ _)
      | (with_reducible exact ih1 _ _ _ _)
      | (with_reducible exact ih2 _ _ _ _)
      | (with_reducible exact ih3 _ _ _ _)
      | (with_reducible exact ih4 _ _ _ _)
      | (with_reducible exact ih5 _ _ _ _)
      | (with_reducible exact ih6 _ _ _ _)
      | (with_reducible exact ih7 _ _ _ _)
      | (with_reducible exact LeO.refl _)
      | (with_reducible exact LeO.none _)
      | (with_reducible refine LeO.ite ?_ ?_)
      | (with_reducible refine LeO.bind ?_ (fun _ => ?_))
      | exact ih0 _ _ _ _
      | exact ih1 _ _ _ _
      | exact ih2 _ _ _ _
      | exact ih3 _ _ _ _
      | exact ih4 _ _ _ _
      | exact ih5 _ _ _ _
      | exact ih6 _ _ _ _
      | exact ih7 _ _ _ _
      | exact LeO.none _
      | refine LeO.ite ?_ ?_
      | refine LeO.bind ?_ (fun _ => ?_)
    · intro y0 y1 y2 y3
      unfold slices_partitionOrdered_string.l1
      repeat' first
      | (with_reducible exact ih0 _ _ _ _)
      | (with_reducible exact ih1 _ _ _ _)
      | (with_reducible exact ih2 _ _ _ _)
      | (with_reducible exact ih3 _ _ _ _)
      | (with_reducible exact ih4 _ _ _ _)
      | (with_reducible exact ih5 _ _ _ _)
      | (with_reducible exact ih6 _ _ _ _)
      | (with_reducible exact ih7 _ _ _ _)
      | (with_reducible exact LeO.refl _)
      | (with_reducible exact LeO.none _)
      | (with_reducible refine LeO.ite ?_ ?_)
      | (with_reducible refine LeO.bind ?_ (fun _ => ?_))
      | exact ih0 _ _ _ _
      | exact ih1 _ _ _ _
      | exact ih2 _ _ _ _
      | exact ih3 _ _ _ _
      | exact ih4 _ _ _ _
      | exact ih5 _ _ _ _
      | exact ih6 _ _ _ _
      | exact ih7 _ _ _ _
      | exact LeO.none _
      | refine LeO.ite ?_ ?_
      | refine LeO.bind ?_ (fun _ => ?_)
    · intro y0 y1 y2 y3
      unfold slices_partitionOrdered_string.l0
      repeat' first
      | (with_reducible exact ih0 _ _ _ _)
      | (with_reducible exact ih1 _ _ _ _)
      | (with_reducible exact ih2 _ _ _ _)
      | (with_reducible exact ih3 _ _ _ _)
      | (with_reducible exact ih4 _ _ _ _)
      | (with_reducible exact ih5 _ _ _ _)
      | (with_reducible exact ih6 _ _ _ _)
      | (with_reducible exact ih7 _ _ _ _)
      | (with_reducible exact LeO.refl _)
      | (with_reducible exact LeO.none _)
      | (with_reducible refine LeO.ite ?_ ?_)
      | (with_reducible refine LeO.bind ?_ (fun _ => ?_))
      | exact ih0 _ _ _ _
      | exact ih1 _ _ _ _
      | exact ih2 _ _ _ _
      | exact ih3 _ _ _ _
      | exact ih4 _ _ _ _
      | exact ih5 _ _ _ _
      | exact ih6 _ _ _ _
      | exact ih7 _ _ _ _
      | exact LeO.none _
      | refine LeO.ite ?_ ?_
      | refine LeO.bind ?_ (fun _ => ?_)
theorem slices_partitionOrdered_string.mono : ∀ a0 a1 a2 a3 k, LeO (slices_partitionOrdered_string.f k a0 a1 a2 a3) (slices_partitionOrdered_string.f (k + 1) a0 a1 a2 a3) := by
  intro a0 a1 a2 a3 k
  obtain ⟨ih0, ih1, ih2, ih3, ih4, ih5, ih6, ih7⟩ := slices_partitionOrdered_string.mono_l k
  unfold slices_partitionOrdered_string.f
  repeat' first
      | (with_reducible exact ih0 _ _ _ _)
      | (with_reducible exact ih1 _ _ _ _)
      | (with_reducible exact ih2 _ _ _ _)
      | (with_reducible exact ih3 _ _ _ _)
      | (with_reducible exact ih4 _ _ _ _)
      | (with_reducible exact ih5 _ _ _ _)
      | (with_reducible exact ih6 _ _ _ _)
      | (with_reducible exact ih7 _ _ _ _)
      | (with_reducible exact LeO.refl _)
      | (with_reducible exact LeO.none _)
      | (with_reducible refine LeO.ite ?_ ?_)
      | (with_reducible refine LeO.bind ?_ (fun _ => ?_))
      | exact ih0 _ _ _ _
      | exact ih1 _ _ _ _
      | exact ih2 _ _ _ _
      | exact ih3 _ _ _ _
      | exact ih4 _ _ _ _
      | exact ih5 _ _ _ _
      | exact ih6 _ _ _ _
      | exact ih7 _ _ _ _
      | exact LeO.none _
      | refine LeO.ite ?_ ?_
      | refine LeO.bind ?_ (fun _ => ?_)
def slices_Sort_string_string.sorted (l : List ByteArray) : List ByteArray := ((l.map (·.data.toList)).mergeSort fun x y => decide (x ≤ y)).map (fun x => (⟨x.toArray⟩ : ByteArray))
def slices_Sort_string_string.f (l0 : List ByteArray) : Option (List ByteArray) := if l0.length < 4611686018427387904 then some (slices_Sort_string_string.sorted l0) else none
theorem slices_Sort_string_string.sorted_length (l : List ByteArray) : (slices_Sort_string_string.sorted l).length = l.length := by simp [slices_Sort_string_string.sorted]
theorem slices_Sort_string_string.sorted_data (l : List ByteArray) : (slices_Sort_string_string.sorted l).map (·.data.toList) = (l.map (·.data.toList)).mergeSort fun x y => decide (x ≤ y) := by
  unfold slices_Sort_string_string.sorted
  rw [List.map_map]
  exact (List.map_congr_left (fun x _ => by simp)).trans (List.map_id _)
def slices_Compact_string_string.compact (l : List ByteArray) : List ByteArray := (Go.Lib.compact (l.map (·.data.toList))).map (fun x => (⟨x.toArray⟩ : ByteArray))
def slices_Compact_string_string.f (l0 : List ByteArray) : Option (List ByteArray) := some (slices_Compact_string_string.compact l0)
theorem slices_Compact_string_string.compact_length (l : List ByteArray) : (slices_Compact_string_string.compact l).length = (Go.Lib.compact (l.map (·.data.toList))).length := by simp [slices_Compact_string_string.compact]
theorem slices_Compact_string_string.compact_data (l : List ByteArray) : (slices_Compact_string_string.compact l).map (·.data.toList) = Go.Lib.compact (l.map (·.data.toList)) := by
  unfold slices_Compact_string_string.compact
  rw [List.map_map]
  exact (List.map_congr_left (fun x _ => by simp)).trans (List.map_id _)
def impl_union.f (l0 : List ByteArray) (l1 : List ByteArray) : Option (List ByteArray) := (impl_copied.f l0).bind fun t309 => (if t309.length + l1.length < 8796093022208 then ((slices_Sort_string_string.f (t309 ++ l1)).bind fun t315 => ((slices_Compact_string_string.f t315).bind fun t316 => ((impl_copied.f t316).bind fun t319 => (some t319)))) else (none))
def impl_SetAny.f (k : Nat) (l0 : List ByteArray) (l1 : List ByteArray) : Option (List ByteArray) := (impl_SetOk.f k l0).bind fun t322 => (if t322 = true then ((impl_SetOk.f k l1).bind fun t323 => (if t323 = true then ((impl_union.f l0 l1).bind fun t324 => (some t324)) else (some (([] : List ByteArray))))) else (some (([] : List ByteArray))))
theorem impl_SetAny.mono : ∀ a0 a1 k, LeO (impl_SetAny.f k a0 a1) (impl_SetAny.f (k + 1) a0 a1) := by
  intro a0 a1 k
  unfold impl_SetAny.f
  repeat' first
      | (with_reducible exact impl_SetOk.mono _ _)
      | (with_reducible exact LeO.refl _)
      | (with_reducible exact LeO.none _)
      | (with_reducible refine LeO.ite ?_ ?_)
      | (with_reducible refine LeO.bind ?_ (fun _ => ?_))
      | exact impl_SetOk.mono _ _
      | exact LeO.none _
      | refine LeO.ite ?_ ?_
      | refine LeO.bind ?_ (fun _ => ?_)
def laws_eqStringS.l0 : Nat → List ByteArray → List ByteArray → Int → Option (Bool)
  | 0, _, _, _ => none
  | k + 1, x0, x1, x5 => if x5 < (x0.length : Int) then (if 0 ≤ x5 then (if x5 < (x1.length : Int) then (if (rdOf ByteArray.empty x0 x5).toList = (rdOf ByteArray.empty x1 x5).toList then (laws_eqStringS.l0 k x0 x1 (wrap64 (x5 + 1))) else (some false)) else (none)) else (none)) else (some true)
def laws_eqStringS.f (k : Nat) (l0 : List ByteArray) (l1 : List ByteArray) : Option (Bool) := if (l0.length : Int) = (l1.length : Int) then (laws_eqStringS.l0 k l0 l1 0) else (some false)
theorem laws_eqStringS.mono_l : ∀ k, (∀ y0 y1 y2, LeO (laws_eqStringS.l0 k y0 y1 y2) (laws_eqStringS.l0 (k + 1) y0 y1 y2))
  | 0 => fun _ _ _ r h => by simp [laws_eqStringS.l0] at h
  | k + 1 => by
    have ih0 := laws_eqStringS.mono_l k
    · intro y0 y1 y2
      unfold laws_eqStringS.l0
      repeat' first
      | (with_reducible exact ih0 _ _ _)
      | (with_reducible exact LeO.refl _)
      | (with_reducible exact LeO.none _)
      | (with_reducible refine LeO.ite ?_ ?_)
      | (with_reducible refine LeO.bind ?_ (fun _ => ?_))
      | exact ih0 _ _ _
      | exact LeO.none _
      | refine LeO.ite ?_ ?_
      | refine LeO.bind ?_ (fun _ => ?_)
theorem laws_eqStringS.mono : ∀ a0 a1 k, LeO (laws_eqStringS.f k a0 a1) (laws_eqStringS.f (k + 1) a0 a1) := by
  intro a0 a1 k
  have ih0 := laws_eqStringS.mono_l k
  unfold laws_eqStringS.f
  repeat' first
      | (with_reducible exact ih0 _ _ _)
      | (with_reducible exact LeO.refl _)
      | (with_reducible exact LeO.none _)
      | (with_reducible refine LeO.ite ?_ ?_)
      | (with_reducible refine LeO.bind ?_ (fun _ => ?_))
      | exact ih0 _ _ _
      | exact LeO.none _
      | refine LeO.ite ?_ ?_
      | refine LeO.bind ?_ (fun _ => ?_)
def laws_markText.l0 : Nat → Int → ByteArray → Option (ByteArray)
  | 0, _, _ => none
  | k + 1, x0, x3 => if x0 > 0 then ((some (([(wrap64 (48 + (Int.tmod x0 10))) % 256] : List Int) : List Int)).bind fun y335 => (if (strOfNums y335).size + x3.size ≤ 9223372036854775807 then (laws_markText.l0 k (wrap64 (Int.tdiv x0 10)) ((strOfNums y335) ++ x3)) else (none))) else (if 1 + x3.size ≤ 9223372036854775807 then (some ((⟨#[109]⟩ : ByteArray) ++ x3)) else (none))
def laws_markText.f (k : Nat) (a0 : Int) : Option (ByteArray) := if a0 ≤ 0 then (some (⟨#[109, 48]⟩ : ByteArray)) else (laws_markText.l0 k a0 (⟨#[]⟩ : ByteArray))
theorem laws_markText.mono_l : ∀ k, (∀ y0 y1, LeO (laws_markText.l0 k y0 y1) (laws_markText.l0 (k + 1) y0 y1))
  | 0 => fun _ _ r h => by simp [laws_markText.l0] at h
  | k + 1 => by
    have ih0 := laws_markText.mono_l k
    · intro y0 y1
      unfold laws_markText.l0
      repeat' first
      | (with_reducible exact ih0 _ _)
      | (with_reducible exact LeO.refl _)
      | (with_reducible exact LeO.none _)
      | (with_reducible refine LeO.ite ?_ ?_)
      | (with_reducible refine LeO.bind ?_ (fun _ => ?_))
      | exact ih0 _ _
      | exact LeO.none _
      | refine LeO.ite ?_ ?_
      | refine LeO.bind ?_ (fun _ => ?_)
theorem laws_markText.mono : ∀ a0 k, LeO (laws_markText.f k a0) (laws_markText.f (k + 1) a0) := by
  intro a0 k
  have ih0 := laws_markText.mono_l k
  unfold laws_markText.f
  repeat' first
      | (with_reducible exact ih0 _ _)
      | (with_reducible exact LeO.refl _)
      | (with_reducible exact LeO.none _)
      | (with_reducible refine LeO.ite ?_ ?_)
      | (with_reducible refine LeO.bind ?_ (fun _ => ?_))
      | exact ih0 _ _
      | exact LeO.none _
      | refine LeO.ite ?_ ?_
      | refine LeO.bind ?_ (fun _ => ?_)
def laws_markStringS.l0 : Nat → List ByteArray → Int → Int → Option (Int × List ByteArray)
  | 0, _, _, _ => none
  | k + 1, x0, x1, x5 => if x5 < (x0.length : Int) then ((laws_markText.f k x1).bind fun t338 => (if 0 ≤ x5 then (laws_markStringS.l0 k (x0.set (x5 : Int).toNat t338) (wrap64 (x1 + 1)) (wrap64 (x5 + 1))) else (none))) else (some (x1, x0))
def laws_markStringS.f (k : Nat) (l0 : List ByteArray) (a1 : Int) : Option (Int × List ByteArray) := laws_markStringS.l0 k l0 a1 0
theorem laws_markStringS.mono_l : ∀ k, (∀ y0 y1 y2, LeO (laws_markStringS.l0 k y0 y1 y2) (laws_markStringS.l0 (k + 1) y0 y1 y2))
  | 0 => fun _ _ _ r h => by simp [laws_markStringS.l0] at h
  | k + 1 => by
    have ih0 := laws_markStringS.mono_l k
    · intro y0 y1 y2
      unfold laws_markStringS.l0
      repeat' first
      | (with_reducible exact ih0 _ _ _)
      | (with_reducible exact laws_markText.mono _ _)
      | (with_reducible exact LeO.refl _)
      | (with_reducible exact LeO.none _)
      | (with_reducible refine LeO.ite ?_ ?_)
      | (with_reducible refine LeO.bind ?_ (fun _ => ?_))
      | exact ih0 _ _ _
      | exact laws_markText.mono _ _
      | exact LeO.none _
      | refine LeO.ite ?_ ?_
      | refine LeO.bind ?_ (fun _ => ?_)
theorem laws_markStringS.mono : ∀ a0 a1 k, LeO (laws_markStringS.f k a0 a1) (laws_markStringS.f (k + 1) a0 a1) := by
  intro a0 a1 k
  have ih0 := laws_markStringS.mono_l k
  unfold laws_markStringS.f
  repeat' first
      | (with_reducible exact ih0 _ _ _)
      | (with_reducible exact laws_markText.mono _ _)
      | (with_reducible exact LeO.refl _)
      | (with_reducible exact LeO.none _)
      | (with_reducible refine LeO.ite ?_ ?_)
      | (with_reducible refine LeO.bind ?_ (fun _ => ?_))
      | exact ih0 _ _ _
      | exact laws_markText.mono _ _
      | exact LeO.none _
      | refine LeO.ite ?_ ?_
      | refine LeO.bind ?_ (fun _ => ?_)
def laws_heldStringS.l0 : Nat → List ByteArray → Int → Int → Option (Int)
  | 0, _, _, _ => none
  | k + 1, x0, x1, x5 => if x5 < (x0.length : Int) then (if 0 ≤ x5 then ((laws_markText.f k x1).bind fun t341 => (if (rdOf ByteArray.empty x0 x5).toList = t341.toList then (laws_heldStringS.l0 k x0 (wrap64 (x1 + 1)) (wrap64 (x5 + 1))) else (some (-1)))) else (none)) else (some x1)
def laws_heldStringS.f (k : Nat) (l0 : List ByteArray) (a1 : Int) : Option (Int) := laws_heldStringS.l0 k l0 a1 0
theorem laws_heldStringS.mono_l : ∀ k, (∀ y0 y1 y2, LeO (laws_heldStringS.l0 k y0 y1 y2) (laws_heldStringS.l0 (k + 1) y0 y1 y2))
  | 0 => fun _ _ _ r h => by simp [laws_heldStringS.l0] at h
  | k + 1 => by
    have ih0 := laws_heldStringS.mono_l k
    · intro y0 y1 y2
      unfold laws_heldStringS.l0
      repeat' first
      | (with_reducible exact ih0 _ _ _)
      | (with_reducible exact laws_markText.mono _ _)
      | (with_reducible exact LeO.refl _)
      | (with_reducible exact LeO.none _)
      | (with_reducible refine LeO.ite ?_ ?_)
      | (with_reducible refine LeO.bind ?_ (fun _ => ?_))
      | exact ih0 _ _ _
      | exact laws_markText.mono _ _
      | exact LeO.none _
      | refine LeO.ite ?_ ?_
      | refine LeO.bind ?_ (fun _ => ?_)
theorem laws_heldStringS.mono : ∀ a0 a1 k, LeO (laws_heldStringS.f k a0 a1) (laws_heldStringS.f (k + 1) a0 a1) := by
  intro a0 a1 k
  have ih0 := laws_heldStringS.mono_l k
  unfold laws_heldStringS.f
  repeat' first
      | (with_reducible exact ih0 _ _ _)
      | (with_reducible exact laws_markText.mono _ _)
      | (with_reducible exact LeO.refl _)
      | (with_reducible exact LeO.none _)
      | (with_reducible refine LeO.ite ?_ ?_)
      | (with_reducible refine LeO.bind ?_ (fun _ => ?_))
      | exact ih0 _ _ _
      | exact laws_markText.mono _ _
      | exact LeO.none _
      | refine LeO.ite ?_ ?_
      | refine LeO.bind ?_ (fun _ => ?_)
def laws_FnExactSetAny.j0 : Nat → List ByteArray → List ByteArray → List ByteArray → List ByteArray → Bool → Option (Bool)
  | 0, _, _, _, _, _ => none
  | k + 1, x0, x1, x6, x9, x63 => if x63 = true then (some false) else ((laws_markStringS.f k x9 1).bind fun bt376 => ((laws_heldStringS.f k bt376.2 1).bind fun t378 => (if t378 < 0 then (some false) else (if t378 = bt376.1 then ((laws_toStringS.f k x0).bind fun t379 => ((laws_toStringS.f k x1).bind fun t382 => ((impl_SetAny.f k t379 t382).bind fun t385 => ((laws_eqStringS.f k t385 x6).bind fun t388 => (if t388 = true then ((laws_heldStringS.f k bt376.2 1).bind fun t389 => (if t389 < 0 then (some false) else (if t389 = bt376.1 then (some true) else (some false)))) else (some false)))))) else (some false)))))
def laws_FnExactSetAny.f (k : Nat) (l0 : List ByteArray) (l1 : List ByteArray) : Option (Bool) := (laws_szStringS.f k l0 1048576).bind fun t342 => (if t342 < 0 then (some true) else ((laws_szStringS.f k l1 t342).bind fun t343 => (if t343 < 0 then (some true) else ((laws_toStringS.f k l0).bind fun t344 => ((laws_toStringS.f k l1).bind fun t347 => ((spec_SetAny.f k t344 t347).bind fun t350 => ((laws_toStringS.f k l0).bind fun t353 => ((laws_toStringS.f k l1).bind fun t356 => ((impl_SetAny.f k t353 t356).bind fun t359 => ((laws_eqStringS.f k t359 t350).bind fun t362 => (if t362 = true then ((laws_toStringS.f k l0).bind fun t363 => ((laws_eqStringS.f k t353 t363).bind fun t366 => (if t366 = true then ((laws_toStringS.f k l1).bind fun t367 => ((laws_eqStringS.f k t356 t367).bind fun t370 => (if t370 = true then ((laws_markStringS.f k t353 1).bind fun bt371 => ((laws_markStringS.f k t356 bt371.1).bind fun bt373 => (if bt373.1 < 0 then (laws_FnExactSetAny.j0 k l0 l1 t350 t359 true) else ((laws_eqStringS.f k t359 t350).bind fun t375 => (laws_FnExactSetAny.j0 k l0 l1 t350 t359 (!t375)))))) else (some false)))) else (some false)))) else (some false))))))))))))
theorem laws_FnExactSetAny.mono_l : ∀ k, (∀ y0 y1 y2 y3 y4, LeO (laws_FnExactSetAny.j0 k y0 y1 y2 y3 y4) (laws_FnExactSetAny.j0 (k + 1) y0 y1 y2 y3 y4))
  | 0 => fun _ _ _ _ _ r h => by simp [laws_FnExactSetAny.j0] at h
  | k + 1 => by
    have ih0 := laws_FnExactSetAny.mono_l k
    · intro y0 y1 y2 y3 y4
      unfold laws_FnExactSetAny.j0
      repeat' first
      | (with_reducible exact ih0 _ _ _ _ _)
      | (with_reducible exact impl_SetAny.mono _ _ _)
      | (with_reducible exact laws_eqStringS.mono _ _ _)
      | (with_reducible exact laws_heldStringS.mono _ _ _)
      | (with_reducible exact laws_markStringS.mono _ _ _)
      | (with_reducible exact laws_szStringS.mono _ _ _)
      | (with_reducible exact laws_toStringS.mono _ _)
      | (with_reducible exact spec_SetAny.mono _ _ _)
      | (with_reducible exact LeO.refl _)
      | (with_reducible exact LeO.none _)
      | (with_reducible refine LeO.ite ?_ ?_)
      | (with_reducible refine LeO.bind ?_ (fun _ => ?_))
      | exact ih0 _ _ _ _ _
      | exact impl_SetAny.mono _ _ _
      | exact laws_eqStringS.mono _ _ _
      | exact laws_heldStringS.mono _ _ _
      | exact laws_markStringS.mono _ _ _
      | exact laws_szStringS.mono _ _ _
      | exact laws_toStringS.mono _ _
      | exact spec_SetAny.mono _ _ _
      | exact LeO.none _
      | refine LeO.ite ?_ ?_
      | refine LeO.bind ?_ (fun _ => ?_)
theorem laws_FnExactSetAny.mono : ∀ a0 a1 k, LeO (laws_FnExactSetAny.f k a0 a1) (laws_FnExactSetAny.f (k + 1) a0 a1) := by
  intro a0 a1 k
  have ih0 := laws_FnExactSetAny.mono_l k
  unfold laws_FnExactSetAny.f
  repeat' first
      | (with_reducible exact ih0 _ _ _ _ _)
      | (with_reducible exact impl_SetAny.mono _ _ _)
      | (with_reducible exact laws_eqStringS.mono _ _ _)
      | (with_reducible exact laws_heldStringS.mono _ _ _)
      | (with_reducible exact laws_markStringS.mono _ _ _)
      | (with_reducible exact laws_szStringS.mono _ _ _)
      | (with_reducible exact laws_toStringS.mono _ _)
      | (with_reducible exact spec_SetAny.mono _ _ _)
      | (with_reducible exact LeO.refl _)
      | (with_reducible exact LeO.none _)
      | (with_reducible refine LeO.ite ?_ ?_)
      | (with_reducible refine LeO.bind ?_ (fun _ => ?_))
      | exact ih0 _ _ _ _ _
      | exact impl_SetAny.mono _ _ _
      | exact laws_eqStringS.mono _ _ _
      | exact laws_heldStringS.mono _ _ _
      | exact laws_markStringS.mono _ _ _
      | exact laws_szStringS.mono _ _ _
      | exact laws_toStringS.mono _ _
      | exact spec_SetAny.mono _ _ _
      | exact LeO.none _
      | refine LeO.ite ?_ ?_
      | refine LeO.bind ?_ (fun _ => ?_)
def spec_SetAdd.l0 : Nat → List ByteArray → List ByteArray → List ByteArray → Int → Option (List ByteArray × Int × Bool)
  | 0, _, _, _, _ => none
  | k + 1, x0, x1, x7, x8 => if x8 < (x1.length : Int) then (if 0 ≤ x8 then ((spec_l2Put.f k x7 (rdOf ByteArray.empty x1 x8)).bind fun t399 => (spec_SetAdd.l0 k x0 x1 t399 (wrap64 (x8 + 1)))) else (none)) else (if (x7.length : Int) > 16 then ((spec_l2Copy.f x0).bind fun t402 => (some (t402, 0, false))) else (some (x7, wrap64 ((x7.length : Int) - (x0.length : Int)), true)))
def spec_SetAdd.f (k : Nat) (l0 : List ByteArray) (l1 : List ByteArray) : Option (List ByteArray × Int × Bool) := (spec_SetOk.f k l0).bind fun t390 => (if t390 = true then ((spec_l2Copy.f l0).bind fun t394 => ((spec_l2Texts.f k l1).bind fun t397 => (if t397 = true then (spec_SetAdd.l0 k l0 l1 t394 0) else (some (t394, 0, false))))) else (some ((([] : List ByteArray)), 0, false)))
theorem spec_SetAdd.mono_l : ∀ k, (∀ y0 y1 y2 y3, LeO (spec_SetAdd.l0 k y0 y1 y2 y3) (spec_SetAdd.l0 (k + 1) y0 y1 y2 y3))
  | 0 => fun _ _ _ _ r h => by simp [spec_SetAdd.l0] at h
  | k + 1 => by
    have ih0 := spec_SetAdd.mono_l k
    · intro y0 y1 y2 y3
      unfold spec_SetAdd.l0
      repeat' first
      | (with_reducible exact ih0 _ _ _ _)
      | (with_reducible exact spec_SetOk.mono _ _)
      | (with_reducible exact spec_l2Put.mono _ _ _)
      | (with_reducible exact spec_l2Texts.mono _ _)
      | (with_reducible exact LeO.refl _)
      | (with_reducible exact LeO.none _)
      | (with_reducible refine LeO.ite ?_ ?_)
      | (with_reducible refine LeO.bind ?_ (fun _ => ?_))
      | exact ih0 _ _ _ _
      | exact spec_SetOk.mono _ _
      | exact spec_l2Put.mono _ _ _
      | exact spec_l2Texts.mono _ _
      | exact LeO.none _
      | refine LeO.ite ?_ ?_
      | refine LeO.bind ?_ (fun _ => ?_)
theorem spec_SetAdd.mono : ∀ a0 a1 k, LeO (spec_SetAdd.f k a0 a1) (spec_SetAdd.f (k + 1) a0 a1) := by
  intro a0 a1 k
  have ih0 := spec_SetAdd.mono_l k
  unfold spec_SetAdd.f
  repeat' first
      | (with_reducible exact ih0 _ _ _ _)
      | (with_reducible exact spec_SetOk.mono _ _)
      | (with_reducible exact spec_l2Put.mono _ _ _)
      | (with_reducible exact spec_l2Texts.mono _ _)
      | (with_reducible exact LeO.refl _)
      | (with_reducible exact LeO.none _)
      | (with_reducible refine LeO.ite ?_ ?_)
      | (with_reducible refine LeO.bind ?_ (fun _ => ?_))
      | exact ih0 _ _ _ _
      | exact spec_SetOk.mono _ _
      | exact spec_l2Put.mono _ _ _
      | exact spec_l2Texts.mono _ _
      | exact LeO.none _
      | refine LeO.ite ?_ ?_
      | refine LeO.bind ?_ (fun _ => ?_)
def impl_SetAdd.f (k : Nat) (l0 : List ByteArray) (l1 : List ByteArray) : Option (List ByteArray × Int × Bool) := (impl_SetOk.f k l0).bind fun t405 => (if t405 = true then ((impl_union.f l0 l1).bind fun t409 => ((impl_listOk.f k l1).bind fun t412 => (if t412 = true then (if (t409.length : Int) > 16 then ((impl_copied.f l0).bind fun t413 => (some (t413, 0, false))) else (some (t409, wrap64 ((t409.length : Int) - (l0.length : Int)), true))) else ((impl_copied.f l0).bind fun t416 => (some (t416, 0, false)))))) else (some ((([] : List ByteArray)), 0, false)))
theorem impl_SetAdd.mono : ∀ a0 a1 k, LeO (impl_SetAdd.f k a0 a1) (impl_SetAdd.f (k + 1) a0 a1) := by
  intro a0 a1 k
  unfold impl_SetAdd.f
  repeat' first
      | (with_reducible exact impl_SetOk.mono _ _)
      | (with_reducible exact impl_listOk.mono _ _)
      | (with_reducible exact LeO.refl _)
      | (with_reducible exact LeO.none _)
      | (with_reducible refine LeO.ite ?_ ?_)
      | (with_reducible refine LeO.bind ?_ (fun _ => ?_))
      | exact impl_SetOk.mono _ _
      | exact impl_listOk.mono _ _
      | exact LeO.none _
      | refine LeO.ite ?_ ?_
      | refine LeO.bind ?_ (fun _ => ?_)
mutual
def laws_FnExactSetAdd.j0 : Nat → List ByteArray → List ByteArray → List ByteArray → Int → Bool → List ByteArray → List ByteArray → List ByteArray → Int → Bool → Bool → Option (Bool)
  | 0, _, _, _, _, _, _, _, _, _, _, _ => none
  | k + 1, x0, x1, x6, x7, x8, x9, x10, x11, x12, x13, x63 => if x63 = true then (some false) else ((laws_toStringS.f k x0).bind fun t444 => ((laws_eqStringS.f k x9 t444).bind fun t447 => (if t447 = true then ((laws_toStringS.f k x1).bind fun t448 => ((laws_eqStringS.f k x10 t448).bind fun t451 => (if t451 = true then ((laws_markStringS.f k x9 1).bind fun bt452 => ((laws_markStringS.f k x10 bt452.1).bind fun bt454 => (if bt454.1 < 0 then (laws_FnExactSetAdd.j1 k x0 x1 x6 x7 x8 x11 true) else ((laws_eqStringS.f k x11 x6).bind fun t456 => (if t456 = true then (if x12 = x7 then (laws_FnExactSetAdd.j1 k x0 x1 x6 x7 x8 x11 (x13 != x8)) else (laws_FnExactSetAdd.j1 k x0 x1 x6 x7 x8 x11 true)) else (laws_FnExactSetAdd.j1 k x0 x1 x6 x7 x8 x11 true)))))) else (some false)))) else (some false))))
def laws_FnExactSetAdd.j1 : Nat → List ByteArray → List ByteArray → List ByteArray → Int → Bool → List ByteArray → Bool → Option (Bool)
  | 0, _, _, _, _, _, _, _ => none
  | k + 1, x0, x1, x6, x7, x8, x11, x97 => if x97 = true then (some false) else ((laws_markStringS.f k x11 1).bind fun bt457 => ((laws_heldStringS.f k bt457.2 1).bind fun t459 => (if t459 < 0 then (some false) else (if t459 = bt457.1 then ((laws_toStringS.f k x0).bind fun t460 => ((laws_toStringS.f k x1).bind fun t463 => ((impl_SetAdd.f k t460 t463).bind fun bt466 => ((laws_eqStringS.f k bt466.1 x6).bind fun t471 => (if t471 = true then (if bt466.2.1 = x7 then (laws_FnExactSetAdd.j2 k bt457.2 bt457.1 (bt466.2.2 != x8)) else (laws_FnExactSetAdd.j2 k bt457.2 bt457.1 true)) else (laws_FnExactSetAdd.j2 k bt457.2 bt457.1 true)))))) else (some false)))))
def laws_FnExactSetAdd.j2 : Nat → List ByteArray → Int → Bool → Option (Bool)
  | 0, _, _, _ => none
  | k + 1, x11, x15, x131 => if x131 = true then (some false) else ((laws_heldStringS.f k x11 1).bind fun t472 => (if t472 < 0 then (some false) else (if t472 = x15 then (some true) else (some false))))
end
def laws_FnExactSetAdd.f (k : Nat) (l0 : List ByteArray) (l1 : List ByteArray) : Option (Bool) := (laws_szStringS.f k l0 1048576).bind fun t419 => (if t419 < 0 then (some true) else ((laws_szStringS.f k l1 t419).bind fun t420 => (if t420 < 0 then (some true) else ((laws_toStringS.f k l0).bind fun t421 => ((laws_toStringS.f k l1).bind fun t424 => ((spec_SetAdd.f k t421 t424).bind fun bt427 => ((laws_toStringS.f k l0).bind fun t432 => ((laws_toStringS.f k l1).bind fun t435 => ((impl_SetAdd.f k t432 t435).bind fun bt438 => ((laws_eqStringS.f k bt438.1 bt427.1).bind fun t443 => (if t443 = true then (if bt438.2.1 = bt427.2.1 then (laws_FnExactSetAdd.j0 k l0 l1 bt427.1 bt427.2.1 bt427.2.2 t432 t435 bt438.1 bt438.2.1 bt438.2.2 (bt438.2.2 != bt427.2.2)) else (laws_FnExactSetAdd.j0 k l0 l1 bt427.1 bt427.2.1 bt427.2.2 t432 t435 bt438.1 bt438.2.1 bt438.2.2 true)) else (laws_FnExactSetAdd.j0 k l0 l1 bt427.1 bt427.2.1 bt427.2.2 t432 t435 bt438.1 bt438.2.1 bt438.2.2 true))))))))))))
theorem laws_FnExactSetAdd.mono_l : ∀ k, (∀ y0 y1 y2 y3 y4 y5 y6 y7 y8 y9 y10, LeO (laws_FnExactSetAdd.j0 k y0 y1 y2 y3 y4 y5 y6 y7 y8 y9 y10) (laws_FnExactSetAdd.j0 (k + 1) y0 y1 y2 y3 y4 y5 y6 y7 y8 y9 y10)) ∧ (∀ y0 y1 y2 y3 y4 y5 y6, LeO (laws_FnExactSetAdd.j1 k y0 y1 y2 y3 y4 y5 y6) (laws_FnExactSetAdd.j1 (k + 1) y0 y1 y2 y3 y4 y5 y6)) ∧ (∀ y0 y1 y2, LeO (laws_FnExactSetAdd.j2 k y0 y1 y2) (laws_FnExactSetAdd.j2 (k + 1) y0 y1 y2))
  | 0 => ⟨fun _ _ _ _ _ _ _ _ _ _ _ r h => by simp [laws_FnExactSetAdd.j0] at h, fun _ _ _ _ _ _ _ r h => by simp [laws_FnExactSetAdd.j1] at h, fun _ _ _ r h => by simp [laws_FnExactSetAdd.j2] at h⟩
  | k + 1 => by
    obtain ⟨ih0, ih1, ih2⟩ := laws_FnExactSetAdd.mono_l k
    refine ⟨?_, ?_, ?_⟩
    · intro y0 y1 y2 y3 y4 y5 y6 y7 y8 y9 y10
      unfold laws_FnExactSetAdd.j0
      repeat' first
      | (with_reducible exact ih0 _ _ _ _ _ _ _ _ _ _ _)
      | (with_reducible exact ih1 _ _ _ _ _ _ _)
      | (with_reducible exact ih2 _ _ _)
      | (with_reducible exact impl_SetAdd.mono _ _ _)
      | (with_reducible exact laws_eqStringS.mono _ _ _)
      | (with_reducible exact laws_heldStringS.mono _ _ _)
      | (with_reducible exact laws_markStringS.mono _ _ _)
      | (with_reducible exact laws_szStringS.mono _ _ _)
      | (with_reducible exact laws_toStringS.mono _ _)
      | (with_reducible exact spec_SetAdd.mono _ _ _)
      | (with_reducible exact LeO.refl _)
      | (with_reducible exact LeO.none _)
      | (with_reducible refine LeO.ite ?_ ?_)
      | (with_reducible refine LeO.bind ?_ (fun _ => ?_))
      | exact ih0 _ _ _ _ _ _ _ _ _ _ _
      | exact ih1 _ _ _ _ _ _ _
      | exact ih2 _ _ _
      | exact impl_SetAdd.mono _ _ _
      | exact laws_eqStringS.mono _ _ _
      | exact laws_heldStringS.mono _ _ _
      | exact laws_markStringS.mono _ _ _
      | exact laws_szStringS.mono _ _ _
      | exact laws_toStringS.mono _ _
      | exact spec_SetAdd.mono _ _ _
      | exact LeO.none _
      | refine LeO.ite ?_ ?_
      | refine LeO.bind ?_ (fun _ => ?_)
    · intro y0 y1 y2 y3 y4 y5 y6
      unfold laws_FnExactSetAdd.j1
      repeat' first
      | (with_reducible exact ih0 _ _ _ _ _ _ _ _ _ _ _)
      | (with_reducible exact ih1 _ _ _ _ _ _ _)
      | (with_reducible exact ih2 _ _ _)
      | (with_reducible exact impl_SetAdd.mono _ _ _)
      | (with_reducible exact laws_eqStringS.mono _ _ _)
      | (with_reducible exact laws_heldStringS.mono _ _ _)
      | (with_reducible exact laws_markStringS.mono _ _ _)
      | (with_reducible exact laws_szStringS.mono _ _ _)
      | (with_reducible exact laws_toStringS.mono _ _)
      | (with_reducible exact spec_SetAdd.mono _ _ _)
      | (with_reducible exact LeO.refl _)
      | (with_reducible exact LeO.none _)
      | (with_reducible refine LeO.ite ?_ ?_)
      | (with_reducible refine LeO.bind ?_ (fun _ => ?_))
      | exact ih0 _ _ _ _ _ _ _ _ _ _ _
      | exact ih1 _ _ _ _ _ _ _
      | exact ih2 _ _ _
      | exact impl_SetAdd.mono _ _ _
      | exact laws_eqStringS.mono _ _ _
      | exact laws_heldStringS.mono _ _ _
      | exact laws_markStringS.mono _ _ _
      | exact laws_szStringS.mono _ _ _
      | exact laws_toStringS.mono _ _
      | exact spec_SetAdd.mono _ _ _
      | exact LeO.none _
      | refine LeO.ite ?_ ?_
      | refine LeO.bind ?_ (fun _ => ?_)
    · intro y0 y1 y2
      unfold laws_FnExactSetAdd.j2
      repeat' first
      | (with_reducible exact ih0 _ _ _ _ _ _ _ _ _ _ _)
      | (with_reducible exact ih1 _ _ _ _ _ _ _)
      | (with_reducible exact ih2 _ _ _)
      | (with_reducible exact impl_SetAdd.mono _ _ _)
      | (with_reducible exact laws_eqStringS.mono _ _ _)
      | (with_reducible exact laws_heldStringS.mono _ _ _)
      | (with_reducible exact laws_markStringS.mono _ _ _)
      | (with_reducible exact laws_szStringS.mono _ _ _)
      | (with_reducible exact laws_toStringS.mono _ _)
      | (with_reducible exact spec_SetAdd.mono _ _ _)
      | (with_reducible exact LeO.refl _)
      | (with_reducible exact LeO.none _)
      | (with_reducible refine LeO.ite ?_ ?_)
      | (with_reducible refine LeO.bind ?_ (fun _ => ?_))
      | exact ih0 _ _ _ _ _ _ _ _ _ _ _
      | exact ih1 _ _ _ _ _ _ _
      | exact ih2 _ _ _
      | exact impl_SetAdd.mono _ _ _
      | exact laws_eqStringS.mono _ _ _
      | exact laws_heldStringS.mono _ _ _
      | exact laws_markStringS.mono _ _ _
      | exact laws_szStringS.mono _ _ _
      | exact laws_toStringS.mono _ _
      | exact spec_SetAdd.mono _ _ _
      | exact LeO.none _
      | refine LeO.ite ?_ ?_
      | refine LeO.bind ?_ (fun _ => ?_)
theorem laws_FnExactSetAdd.mono : ∀ a0 a1 k, LeO (laws_FnExactSetAdd.f k a0 a1) (laws_FnExactSetAdd.f (k + 1) a0 a1) := by
  intro a0 a1 k
  obtain ⟨ih0, ih1, ih2⟩ := laws_FnExactSetAdd.mono_l k
  unfold laws_FnExactSetAdd.f
  repeat' first
      | (with_reducible exact ih0 _ _ _ _ _ _ _ _ _ _ _)
      | (with_reducible exact ih1 _ _ _ _ _ _ _)
      | (with_reducible exact ih2 _ _ _)
      | (with_reducible exact impl_SetAdd.mono _ _ _)
      | (with_reducible exact laws_eqStringS.mono _ _ _)
      | (with_reducible exact laws_heldStringS.mono _ _ _)
      | (with_reducible exact laws_markStringS.mono _ _ _)
      | (with_reducible exact laws_szStringS.mono _ _ _)
      | (with_reducible exact laws_toStringS.mono _ _)
      | (with_reducible exact spec_SetAdd.mono _ _ _)
      | (with_reducible exact LeO.refl _)
      | (with_reducible exact LeO.none _)
      | (with_reducible refine LeO.ite ?_ ?_)
      | (with_reducible refine LeO.bind ?_ (fun _ => ?_))
      | exact ih0 _ _ _ _ _ _ _ _ _ _ _
      | exact ih1 _ _ _ _ _ _ _
      | exact ih2 _ _ _
      | exact impl_SetAdd.mono _ _ _
      | exact laws_eqStringS.mono _ _ _
      | exact laws_heldStringS.mono _ _ _
      | exact laws_markStringS.mono _ _ _
      | exact laws_szStringS.mono _ _ _
      | exact laws_toStringS.mono _ _
      | exact spec_SetAdd.mono _ _ _
      | exact LeO.none _
      | refine LeO.ite ?_ ?_
      | refine LeO.bind ?_ (fun _ => ?_)
def laws_szPair.f (a0_0 : ByteArray) (a0_1 : ByteArray) (a1 : Int) : Option (Int) := if (wrap64 (a1 - (a0_0.size : Int))) < 0 then (some (-1)) else (if (wrap64 ((wrap64 (a1 - (a0_0.size : Int))) - (a0_1.size : Int))) < 0 then (some (-1)) else (some (wrap64 ((wrap64 (a1 - (a0_0.size : Int))) - (a0_1.size : Int)))))
def laws_szPairS.l0 : Nat → List (S31) → Int → Int → Option (Int)
  | 0, _, _, _ => none
  | k + 1, x0, x1, x5 => if x5 < (x0.length : Int) then (if 0 ≤ x5 then ((laws_szPair.f ((rd_T31 x0 x5).f0) ((rd_T31 x0 x5).f1) x1).bind fun t475 => (if t475 < 0 then (some (-1)) else (laws_szPairS.l0 k x0 t475 (wrap64 (x5 + 1))))) else (none)) else (some x1)
def laws_szPairS.f (k : Nat) (l0 : List (S31)) (a1 : Int) : Option (Int) := if (wrap64 (a1 - (l0.length : Int))) < 0 then (some (-1)) else (laws_szPairS.l0 k l0 (wrap64 (a1 - (l0.length : Int))) 0)
theorem laws_szPairS.mono_l : ∀ k, (∀ y0 y1 y2, LeO (laws_szPairS.l0 k y0 y1 y2) (laws_szPairS.l0 (k + 1) y0 y1 y2))
  | 0 => fun _ _ _ r h => by simp [laws_szPairS.l0] at h
  | k + 1 => by
    have ih0 := laws_szPairS.mono_l k
    · intro y0 y1 y2
      unfold laws_szPairS.l0
      repeat' first
      | (with_reducible exact ih0 _ _ _)
      | (with_reducible exact LeO.refl _)
      | (with_reducible exact LeO.none _)
      | (with_reducible refine LeO.ite ?_ ?_)
      | (with_reducible refine LeO.bind ?_ (fun _ => ?_))
      | exact ih0 _ _ _
      | exact LeO.none _
      | refine LeO.ite ?_ ?_
      | refine LeO.bind ?_ (fun _ => ?_)
theorem laws_szPairS.mono : ∀ a0 a1 k, LeO (laws_szPairS.f k a0 a1) (laws_szPairS.f (k + 1) a0 a1) := by
  intro a0 a1 k
  have ih0 := laws_szPairS.mono_l k
  unfold laws_szPairS.f
  repeat' first
      | (with_reducible exact ih0 _ _ _)
      | (with_reducible exact LeO.refl _)
      | (with_reducible exact LeO.none _)
      | (with_reducible refine LeO.ite ?_ ?_)
      | (with_reducible refine LeO.bind ?_ (fun _ => ?_))
      | exact ih0 _ _ _
      | exact LeO.none _
      | refine LeO.ite ?_ ?_
      | refine LeO.bind ?_ (fun _ => ?_)
def spec_FieldsOk.l0 : Nat → List (S38) → Int → Option (Bool)
  | 0, _, _ => none
  | k + 1, x0, x3 => if x3 < (x0.length : Int) then (if 0 ≤ x3 then (if (((rd_T38 x0 x3).f0).size : Int) > 40 then (some false) else (if (((rd_T38 x0 x3).f1).size : Int) > 40 then (some false) else (if x3 > 0 then (if 0 ≤ (wrap64 (x3 - 1)) then (if (wrap64 (x3 - 1)) < (x0.length : Int) then (if ((Op.bytesLess (((rd_T38 x0 (wrap64 (x3 - 1))).f0).toList) (((rd_T38 x0 x3).f0).toList)) = true) then (spec_FieldsOk.l0 k x0 (wrap64 (x3 + 1))) else (some false)) else (none)) else (none)) else (spec_FieldsOk.l0 k x0 (wrap64 (x3 + 1)))))) else (none)) else (some (decide ((x0.length : Int) ≤ 16)))
def spec_FieldsOk.f (k : Nat) (l0 : List (S38)) : Option (Bool) := spec_FieldsOk.l0 k l0 0
theorem spec_FieldsOk.mono_l : ∀ k, (∀ y0 y1, LeO (spec_FieldsOk.l0 k y0 y1) (spec_FieldsOk.l0 (k + 1) y0 y1))
  | 0 => fun _ _ r h => by simp [spec_FieldsOk.l0] at h
  | k + 1 => by
    have ih0 := spec_FieldsOk.mono_l k
    · intro y0 y1
      unfold spec_FieldsOk.l0
      repeat' first
      | (with_reducible exact ih0 _ _)
      | (with_reducible exact LeO.refl _)
      | (with_reducible exact LeO.none _)
      | (with_reducible refine LeO.ite ?_ ?_)
      | (with_reducible refine LeO.bind ?_ (fun _ => ?_))
      | exact ih0 _ _
      | exact LeO.none _
      | refine LeO.ite ?_ ?_
      | refine LeO.bind ?_ (fun _ => ?_)
theorem spec_FieldsOk.mono : ∀ a0 k, LeO (spec_FieldsOk.f k a0) (spec_FieldsOk.f (k + 1) a0) := by
  intro a0 k
  have ih0 := spec_FieldsOk.mono_l k
  unfold spec_FieldsOk.f
  repeat' first
      | (with_reducible exact ih0 _ _)
      | (with_reducible exact LeO.refl _)
      | (with_reducible exact LeO.none _)
      | (with_reducible refine LeO.ite ?_ ?_)
      | (with_reducible refine LeO.bind ?_ (fun _ => ?_))
      | exact ih0 _ _
      | exact LeO.none _
      | refine LeO.ite ?_ ?_
      | refine LeO.bind ?_ (fun _ => ?_)
def spec_l3At.l0 : Nat → List (S38) → ByteArray → Int → Option (Int × Bool)
  | 0, _, _, _ => none
  | k + 1, x0, x1, x6 => if x6 < (x0.length : Int) then (if 0 ≤ x6 then (if (Op.bytesLess (((rd_T38 x0 x6).f0).toList) x1.toList) = true then (spec_l3At.l0 k x0 x1 (wrap64 (x6 + 1))) else (some (x6, (((rd_T38 x0 x6).f0).toList == x1.toList)))) else (none)) else (some (x6, false))
def spec_l3At.f (k : Nat) (l0 : List (S38)) (a1 : ByteArray) : Option (Int × Bool) := spec_l3At.l0 k l0 a1 0
theorem spec_l3At.mono_l : ∀ k, (∀ y0 y1 y2, LeO (spec_l3At.l0 k y0 y1 y2) (spec_l3At.l0 (k + 1) y0 y1 y2))
  | 0 => fun _ _ _ r h => by simp [spec_l3At.l0] at h
  | k + 1 => by
    have ih0 := spec_l3At.mono_l k
    · intro y0 y1 y2
      unfold spec_l3At.l0
      repeat' first
      | (with_reducible exact ih0 _ _ _)
      | (with_reducible exact LeO.refl _)
      | (with_reducible exact LeO.none _)
      | (with_reducible refine LeO.ite ?_ ?_)
      | (with_reducible refine LeO.bind ?_ (fun _ => ?_))
      | exact ih0 _ _ _
      | exact LeO.none _
      | refine LeO.ite ?_ ?_
      | refine LeO.bind ?_ (fun _ => ?_)
theorem spec_l3At.mono : ∀ a0 a1 k, LeO (spec_l3At.f k a0 a1) (spec_l3At.f (k + 1) a0 a1) := by
  intro a0 a1 k
  have ih0 := spec_l3At.mono_l k
  unfold spec_l3At.f
  repeat' first
      | (with_reducible exact ih0 _ _ _)
      | (with_reducible exact LeO.refl _)
      | (with_reducible exact LeO.none _)
      | (with_reducible refine LeO.ite ?_ ?_)
      | (with_reducible refine LeO.bind ?_ (fun _ => ?_))
      | exact ih0 _ _ _
      | exact LeO.none _
      | refine LeO.ite ?_ ?_
      | refine LeO.bind ?_ (fun _ => ?_)
def spec_FieldsPut.j0 : Nat → List (S38) → Bool → List (S38) → Option ((List (S38)) × Bool × Bool)
  | 0, _, _, _ => none
  | k + 1, x0, x8, x9 => (spec_FieldsOk.f k x9).bind fun t519 => (if t519 = true then (some (x9, !x8, true)) else ((some (([] : List (S38)) : List (S38))).bind fun y520 => (if y520.length + x0.length < 4398046511104 then (some ((y520 ++ x0), false, false)) else (none))))
def spec_FieldsPut.f (k : Nat) (l0 : List (S38)) (a1_0 : ByteArray) (a1_1 : ByteArray) : Option ((List (S38)) × Bool × Bool) := (spec_FieldsOk.f k l0).bind fun t483 => (if t483 = true then ((spec_l3At.f k l0 a1_0).bind fun bt487 => ((some (([] : List (S38)) : List (S38))).bind fun y489 => (if y489.length + l0.length < 4398046511104 then ((some (y489 ++ l0 : List (S38))).bind fun y492 => (if bt487.2 = true then (if 0 ≤ bt487.1 then (if bt487.1 < (y492.length : Int) then (spec_FieldsPut.j0 k l0 bt487.2 (y492.set (bt487.1 : Int).toNat (⟨a1_0, a1_1⟩ : S38))) else (none)) else (none)) else ((some (([] : List (S38)) : List (S38))).bind fun y496 => (if 0 ≤ bt487.1 then (if bt487.1 ≤ (l0.length : Int) then ((some (l0.take (bt487.1 : Int).toNat : List (S38))).bind fun y499 => (if y496.length + y499.length < 4398046511104 then ((some (y496 ++ y499 : List (S38))).bind fun y503 => ((some (([(⟨a1_0, a1_1⟩ : S38)] : List (S38)) : List (S38))).bind fun y506 => (if y503.length + y506.length < 4398046511104 then ((some (y503 ++ y506 : List (S38))).bind fun y509 => ((some (l0.drop (bt487.1 : Int).toNat : List (S38))).bind fun y512 => (if y509.length + y512.length < 4398046511104 then (spec_FieldsPut.j0 k l0 bt487.2 (y509 ++ y512)) else (none)))) else (none)))) else (none))) else (none)) else (none))))) else (none)))) else (some ((([] : List (S38))), false, false)))
theorem spec_FieldsPut.mono_l : ∀ k, (∀ y0 y1 y2, LeO (spec_FieldsPut.j0 k y0 y1 y2) (spec_FieldsPut.j0 (k + 1) y0 y1 y2))
  | 0 => fun _ _ _ r h => by simp [spec_FieldsPut.j0] at h
  | k + 1 => by
    have ih0 := spec_FieldsPut.mono_l k
    · intro y0 y1 y2
      unfold spec_FieldsPut.j0
      repeat' first
      | (with_reducible exact ih0 _ _ _)
      | (with_reducible exact spec_FieldsOk.mono _ _)
      | (with_reducible exact spec_l3At.mono _ _ _)
      | (with_reducible exact LeO.refl _)
      | (with_reducible exact LeO.none _)
      | (with_reducible refine LeO.ite ?_ ?_)
      | (with_reducible refine LeO.bind ?_ (fun _ => ?_))
      | exact ih0 _ _ _
      | exact spec_FieldsOk.mono _ _
      | exact spec_l3At.mono _ _ _
      | exact LeO.none _
      | refine LeO.ite ?_ ?_
      | refine LeO.bind ?_ (fun _ => ?_)
theorem spec_FieldsPut.mono : ∀ a0 a1 a2 k, LeO (spec_FieldsPut.f k a0 a1 a2) (spec_FieldsPut.f (k + 1) a0 a1 a2) := by
  intro a0 a1 a2 k
  have ih0 := spec_FieldsPut.mono_l k
  unfold spec_FieldsPut.f
  repeat' first
      | (with_reducible exact ih0 _ _ _)
      | (with_reducible exact spec_FieldsOk.mono _ _)
      | (with_reducible exact spec_l3At.mono _ _ _)
      | (with_reducible exact LeO.refl _)
      | (with_reducible exact LeO.none _)
      | (with_reducible refine LeO.ite ?_ ?_)
      | (with_reducible refine LeO.bind ?_ (fun _ => ?_))
      | exact ih0 _ _ _
      | exact spec_FieldsOk.mono _ _
      | exact spec_l3At.mono _ _ _
      | exact LeO.none _
      | refine LeO.ite ?_ ?_
      | refine LeO.bind ?_ (fun _ => ?_)
def laws_toPair.f (a0_0 : ByteArray) (a0_1 : ByteArray) : Option (ByteArray × ByteArray) := some (a0_0, a0_1)
def laws_toPairS.l0 : Nat → List (S31) → List (S38) → Int → Option ((List (S38)))
  | 0, _, _, _ => none
  | k + 1, x0, x3, x4 => if x4 < (x0.length : Int) then (if 0 ≤ x4 then ((laws_toPair.f ((rd_T31 x0 x4).f0) ((rd_T31 x0 x4).f1)).bind fun bt533 => (if x4 < (x3.length : Int) then (laws_toPairS.l0 k x0 (x3.set (x4 : Int).toNat (⟨bt533.1, bt533.2⟩ : S38)) (wrap64 (x4 + 1))) else (none))) else (none)) else (some x3)
def laws_toPairS.f (k : Nat) (l0 : List (S31)) : Option ((List (S38))) := if 0 ≤ (l0.length : Int) then (if ((l0.length : Int) : Int).toNat ≤ 8796093022208 then (laws_toPairS.l0 k l0 (List.replicate ((l0.length : Int) : Int).toNat z38) 0) else (none)) else (none)
theorem laws_toPairS.mono_l : ∀ k, (∀ y0 y1 y2, LeO (laws_toPairS.l0 k y0 y1 y2) (laws_toPairS.l0 (k + 1) y0 y1 y2))
  | 0 => fun _ _ _ r h => by simp [laws_toPairS.l0] at h
  | k + 1 => by
    have ih0 := laws_toPairS.mono_l k
    · intro y0 y1 y2
      unfold laws_toPairS.l0
      repeat' first
      | (with_reducible exact ih0 _ _ _)
      | (with_reducible exact LeO.refl _)
      | (with_reducible exact LeO.none _)
      | (with_reducible refine LeO.ite ?_ ?_)
      | (with_reducible refine LeO.bind ?_ (fun _ => ?_))
      | exact ih0 _ _ _
      | exact LeO.none _
      | refine LeO.ite ?_ ?_
      | refine LeO.bind ?_ (fun _ => ?_)
theorem laws_toPairS.mono : ∀ a0 k, LeO (laws_toPairS.f k a0) (laws_toPairS.f (k + 1) a0) := by
  intro a0 k
  have ih0 := laws_toPairS.mono_l k
  unfold laws_toPairS.f
  repeat' first
      | (with_reducible exact ih0 _ _ _)
      | (with_reducible exact LeO.refl _)
      | (with_reducible exact LeO.none _)
      | (with_reducible refine LeO.ite ?_ ?_)
      | (with_reducible refine LeO.bind ?_ (fun _ => ?_))
      | exact ih0 _ _ _
      | exact LeO.none _
      | refine LeO.ite ?_ ?_
      | refine LeO.bind ?_ (fun _ => ?_)
def impl_FieldsOk.l0 : Nat → List (S38) → List (S38) → Int → Int → Option (Bool)
  | 0, _, _, _, _ => none
  | k + 1, x0, x5, x6, x7 => if x7 < x6 then (if 0 ≤ x7 then (if x7 < (x5.length : Int) then (if (((rd_T38 x5 x7).f0).size : Int) > 40 then (some false) else (if (((rd_T38 x5 x7).f1).size : Int) > 40 then (some false) else (if x7 > 0 then (if 0 ≤ (wrap64 (x7 - 1)) then (if (wrap64 (x7 - 1)) < (x0.length : Int) then (if ((Op.bytesLess (((rd_T38 x0 (wrap64 (x7 - 1))).f0).toList) (((rd_T38 x5 x7).f0).toList)) = true) then (impl_FieldsOk.l0 k x0 x5 x6 (wrap64 (x7 + 1))) else (some false)) else (none)) else (none)) else (impl_FieldsOk.l0 k x0 x5 x6 (wrap64 (x7 + 1)))))) else (none)) else (none)) else (some (decide ((x0.length : Int) ≤ 16)))
def impl_FieldsOk.f (k : Nat) (l0 : List (S38)) : Option (Bool) := impl_FieldsOk.l0 k l0 l0 (l0.length : Int) 0
theorem impl_FieldsOk.mono_l : ∀ k, (∀ y0 y1 y2 y3, LeO (impl_FieldsOk.l0 k y0 y1 y2 y3) (impl_FieldsOk.l0 (k + 1) y0 y1 y2 y3))
  | 0 => fun _ _ _ _ r h => by simp [impl_FieldsOk.l0] at h
  | k + 1 => by
    have ih0 := impl_FieldsOk.mono_l k
    · intro y0 y1 y2 y3
      unfold impl_FieldsOk.l0
      repeat' first
      | (with_reducible exact ih0 _ _ _ _)
      | (with_reducible exact LeO.refl _)
      | (with_reducible exact LeO.none _)
      | (with_reducible refine LeO.ite ?_ ?_)
      | (with_reducible refine LeO.bind ?_ (fun _ => ?_))
      | exact ih0 _ _ _ _
      | exact LeO.none _
      | refine LeO.ite ?_ ?_
      | refine LeO.bind ?_ (fun _ => ?_)
theorem impl_FieldsOk.mono : ∀ a0 k, LeO (impl_FieldsOk.f k a0) (impl_FieldsOk.f (k + 1) a0) := by
  intro a0 k
  have ih0 := impl_FieldsOk.mono_l k
  unfold impl_FieldsOk.f
  repeat' first
      | (with_reducible exact ih0 _ _ _ _)
      | (with_reducible exact LeO.refl _)
      | (with_reducible exact LeO.none _)
      | (with_reducible refine LeO.ite ?_ ?_)
      | (with_reducible refine LeO.bind ?_ (fun _ => ?_))
      | exact ih0 _ _ _ _
      | exact LeO.none _
      | refine LeO.ite ?_ ?_
      | refine LeO.bind ?_ (fun _ => ?_)
def impl_copiedPairs.f (l0 : List (S38)) : Option ((List (S38))) := (some (([] : List (S38)) : List (S38))).bind fun y539 => (if y539.length + l0.length < 4398046511104 then (some (y539 ++ l0)) else (none))
def impl_fieldAt.from (t : ByteArray) : List S38 → Nat → Int
  | [], _ => -1
  | x :: r, i => if x.f0.toList = t.toList then (i : Int) else impl_fieldAt.from t r (i + 1)
def impl_fieldAt.f (l0 : List S38) (a1 : ByteArray) : Option Int := some (impl_fieldAt.from a1 l0 0)
def slices_SortFunc_impl_Pair_impl_Pair.lt (x y : S38) : Bool := Op.bytesLess x.f0.toList y.f0.toList
def slices_SortFunc_impl_Pair_impl_Pair.sorted (l : List S38) : List S38 := l.mergeSort fun x y => !slices_SortFunc_impl_Pair_impl_Pair.lt y x
def slices_SortFunc_impl_Pair_impl_Pair.f (l0 : List S38) : Option (List S38) := if l0 ≠ [] ∧ (l0.Pairwise fun a b => a.f0 ≠ b.f0) ∧ l0.length < 4611686018427387904 then some (slices_SortFunc_impl_Pair_impl_Pair.sorted l0) else none
def slices_SortFunc_impl_Pair_impl_Pair.enc (x : S38) : List Value := [.string x.f0, .string x.f1]
instance : Inhabited S38 := ⟨⟨#[]⟩, ⟨#[]⟩⟩
def impl_FieldsPut.j0 : Nat → List (S38) → List (S38) → Int → Option ((List (S38)) × Bool × Bool)
  | 0, _, _, _ => none
  | k + 1, x0, x7, x8 => (slices_SortFunc_impl_Pair_impl_Pair.f x7).bind fun t558 => ((impl_FieldsOk.f k t558).bind fun t559 => (if t559 = true then ((impl_copiedPairs.f t558).bind fun t560 => (some (t560, decide (x8 < 0), true))) else ((impl_copiedPairs.f x0).bind fun t563 => (some (t563, false, false)))))
def impl_FieldsPut.f (k : Nat) (l0 : List (S38)) (a1_0 : ByteArray) (a1_1 : ByteArray) : Option ((List (S38)) × Bool × Bool) := (impl_FieldsOk.f k l0).bind fun t546 => (if t546 = true then ((impl_copiedPairs.f l0).bind fun t550 => ((impl_fieldAt.f t550 a1_0).bind fun t553 => (if t553 ≥ 0 then (if 0 ≤ t553 then (if t553 < (t550.length : Int) then (impl_FieldsPut.j0 k l0 (t550.set (t553 : Int).toNat (⟨a1_0, a1_1⟩ : S38)) t553) else (none)) else (none)) else (if t550.length < 4398046511104 then (impl_FieldsPut.j0 k l0 (t550 ++ [(⟨a1_0, a1_1⟩ : S38)]) t553) else (none))))) else (some ((([] : List (S38))), false, false)))
theorem impl_FieldsPut.mono_l : ∀ k, (∀ y0 y1 y2, LeO (impl_FieldsPut.j0 k y0 y1 y2) (impl_FieldsPut.j0 (k + 1) y0 y1 y2))
  | 0 => fun _ _ _ r h => by simp [impl_FieldsPut.j0] at h
  | k + 1 => by
    have ih0 := impl_FieldsPut.mono_l k
    · intro y0 y1 y2
      unfold impl_FieldsPut.j0
      repeat' first
      | (with_reducible exact ih0 _ _ _)
      | (with_reducible exact impl_FieldsOk.mono _ _)
      | (with_reducible exact LeO.refl _)
      | (with_reducible exact LeO.none _)
      | (with_reducible refine LeO.ite ?_ ?_)
      | (with_reducible refine LeO.bind ?_ (fun _ => ?_))
      | exact ih0 _ _ _
      | exact impl_FieldsOk.mono _ _
      | exact LeO.none _
      | refine LeO.ite ?_ ?_
      | refine LeO.bind ?_ (fun _ => ?_)
theorem impl_FieldsPut.mono : ∀ a0 a1 a2 k, LeO (impl_FieldsPut.f k a0 a1 a2) (impl_FieldsPut.f (k + 1) a0 a1 a2) := by
  intro a0 a1 a2 k
  have ih0 := impl_FieldsPut.mono_l k
  unfold impl_FieldsPut.f
  repeat' first
      | (with_reducible exact ih0 _ _ _)
      | (with_reducible exact impl_FieldsOk.mono _ _)
      | (with_reducible exact LeO.refl _)
      | (with_reducible exact LeO.none _)
      | (with_reducible refine LeO.ite ?_ ?_)
      | (with_reducible refine LeO.bind ?_ (fun _ => ?_))
      | exact ih0 _ _ _
      | exact impl_FieldsOk.mono _ _
      | exact LeO.none _
      | refine LeO.ite ?_ ?_
      | refine LeO.bind ?_ (fun _ => ?_)
def laws_eqPair.f (a0_0 : ByteArray) (a0_1 : ByteArray) (a1_0 : ByteArray) (a1_1 : ByteArray) : Option (Bool) := if a0_0.toList = a1_0.toList then (if a0_1.toList = a1_1.toList then (some true) else (some false)) else (some false)
def laws_eqPairS.l0 : Nat → List (S38) → List (S38) → Int → Option (Bool)
  | 0, _, _, _ => none
  | k + 1, x0, x1, x5 => if x5 < (x0.length : Int) then (if 0 ≤ x5 then (if x5 < (x1.length : Int) then ((laws_eqPair.f ((rd_T38 x0 x5).f0) ((rd_T38 x0 x5).f1) ((rd_T38 x1 x5).f0) ((rd_T38 x1 x5).f1)).bind fun t570 => (if t570 = true then (laws_eqPairS.l0 k x0 x1 (wrap64 (x5 + 1))) else (some false))) else (none)) else (none)) else (some true)
def laws_eqPairS.f (k : Nat) (l0 : List (S38)) (l1 : List (S38)) : Option (Bool) := if (l0.length : Int) = (l1.length : Int) then (laws_eqPairS.l0 k l0 l1 0) else (some false)
theorem laws_eqPairS.mono_l : ∀ k, (∀ y0 y1 y2, LeO (laws_eqPairS.l0 k y0 y1 y2) (laws_eqPairS.l0 (k + 1) y0 y1 y2))
  | 0 => fun _ _ _ r h => by simp [laws_eqPairS.l0] at h
  | k + 1 => by
    have ih0 := laws_eqPairS.mono_l k
    · intro y0 y1 y2
      unfold laws_eqPairS.l0
      repeat' first
      | (with_reducible exact ih0 _ _ _)
      | (with_reducible exact LeO.refl _)
      | (with_reducible exact LeO.none _)
      | (with_reducible refine LeO.ite ?_ ?_)
      | (with_reducible refine LeO.bind ?_ (fun _ => ?_))
      | exact ih0 _ _ _
      | exact LeO.none _
      | refine LeO.ite ?_ ?_
      | refine LeO.bind ?_ (fun _ => ?_)
theorem laws_eqPairS.mono : ∀ a0 a1 k, LeO (laws_eqPairS.f k a0 a1) (laws_eqPairS.f (k + 1) a0 a1) := by
  intro a0 a1 k
  have ih0 := laws_eqPairS.mono_l k
  unfold laws_eqPairS.f
  repeat' first
      | (with_reducible exact ih0 _ _ _)
      | (with_reducible exact LeO.refl _)
      | (with_reducible exact LeO.none _)
      | (with_reducible refine LeO.ite ?_ ?_)
      | (with_reducible refine LeO.bind ?_ (fun _ => ?_))
      | exact ih0 _ _ _
      | exact LeO.none _
      | refine LeO.ite ?_ ?_
      | refine LeO.bind ?_ (fun _ => ?_)
def laws_markPairS.l0 : Nat → List (S38) → Int → Int → Option (Int × (List (S38)))
  | 0, _, _, _ => none
  | k + 1, x0, x1, x5 => if x5 < (x0.length : Int) then ((laws_markText.f k x1).bind fun t571 => (if 0 ≤ x5 then ((some (x0.set (x5 : Int).toNat (⟨t571, (rd_T38 x0 x5).f1⟩ : S38) : List (S38))).bind fun y572 => ((laws_markText.f k (wrap64 (x1 + 1))).bind fun t573 => (laws_markPairS.l0 k (y572.set (x5 : Int).toNat (⟨(rd_T38 y572 x5).f0, t573⟩ : S38)) (wrap64 ((wrap64 (x1 + 1)) + 1)) (wrap64 (x5 + 1))))) else (none))) else (some (x1, x0))
def laws_markPairS.f (k : Nat) (l0 : List (S38)) (a1 : Int) : Option (Int × (List (S38))) := laws_markPairS.l0 k l0 a1 0
theorem laws_markPairS.mono_l : ∀ k, (∀ y0 y1 y2, LeO (laws_markPairS.l0 k y0 y1 y2) (laws_markPairS.l0 (k + 1) y0 y1 y2))
  | 0 => fun _ _ _ r h => by simp [laws_markPairS.l0] at h
  | k + 1 => by
    have ih0 := laws_markPairS.mono_l k
    · intro y0 y1 y2
      unfold laws_markPairS.l0
      repeat' first
      | (with_reducible exact ih0 _ _ _)
      | (with_reducible exact laws_markText.mono _ _)
      | (with_reducible exact LeO.refl _)
      | (with_reducible exact LeO.none _)
      | (with_reducible refine LeO.ite ?_ ?_)
      | (with_reducible refine LeO.bind ?_ (fun _ => ?_))
      | exact ih0 _ _ _
      | exact laws_markText.mono _ _
      | exact LeO.none _
      | refine LeO.ite ?_ ?_
      | refine LeO.bind ?_ (fun _ => ?_)
theorem laws_markPairS.mono : ∀ a0 a1 k, LeO (laws_markPairS.f k a0 a1) (laws_markPairS.f (k + 1) a0 a1) := by
  intro a0 a1 k
  have ih0 := laws_markPairS.mono_l k
  unfold laws_markPairS.f
  repeat' first
      | (with_reducible exact ih0 _ _ _)
      | (with_reducible exact laws_markText.mono _ _)
      | (with_reducible exact LeO.refl _)
      | (with_reducible exact LeO.none _)
      | (with_reducible refine LeO.ite ?_ ?_)
      | (with_reducible refine LeO.bind ?_ (fun _ => ?_))
      | exact ih0 _ _ _
      | exact laws_markText.mono _ _
      | exact LeO.none _
      | refine LeO.ite ?_ ?_
      | refine LeO.bind ?_ (fun _ => ?_)
def laws_heldPairS.l0 : Nat → List (S38) → Int → Int → Option (Int)
  | 0, _, _, _ => none
  | k + 1, x0, x1, x5 => if x5 < (x0.length : Int) then (if 0 ≤ x5 then ((laws_markText.f k x1).bind fun t576 => (if ((rd_T38 x0 x5).f0).toList = t576.toList then ((laws_markText.f k (wrap64 (x1 + 1))).bind fun t578 => (if ((rd_T38 x0 x5).f1).toList = t578.toList then (laws_heldPairS.l0 k x0 (wrap64 ((wrap64 (x1 + 1)) + 1)) (wrap64 (x5 + 1))) else (some (-1)))) else (some (-1)))) else (none)) else (some x1)
def laws_heldPairS.f (k : Nat) (l0 : List (S38)) (a1 : Int) : Option (Int) := laws_heldPairS.l0 k l0 a1 0
theorem laws_heldPairS.mono_l : ∀ k, (∀ y0 y1 y2, LeO (laws_heldPairS.l0 k y0 y1 y2) (laws_heldPairS.l0 (k + 1) y0 y1 y2))
  | 0 => fun _ _ _ r h => by simp [laws_heldPairS.l0] at h
  | k + 1 => by
    have ih0 := laws_heldPairS.mono_l k
    · intro y0 y1 y2
      unfold laws_heldPairS.l0
      repeat' first
      | (with_reducible exact ih0 _ _ _)
      | (with_reducible exact laws_markText.mono _ _)
      | (with_reducible exact LeO.refl _)
      | (with_reducible exact LeO.none _)
      | (with_reducible refine LeO.ite ?_ ?_)
      | (with_reducible refine LeO.bind ?_ (fun _ => ?_))
      | exact ih0 _ _ _
      | exact laws_markText.mono _ _
      | exact LeO.none _
      | refine LeO.ite ?_ ?_
      | refine LeO.bind ?_ (fun _ => ?_)
theorem laws_heldPairS.mono : ∀ a0 a1 k, LeO (laws_heldPairS.f k a0 a1) (laws_heldPairS.f (k + 1) a0 a1) := by
  intro a0 a1 k
  have ih0 := laws_heldPairS.mono_l k
  unfold laws_heldPairS.f
  repeat' first
      | (with_reducible exact ih0 _ _ _)
      | (with_reducible exact laws_markText.mono _ _)
      | (with_reducible exact LeO.refl _)
      | (with_reducible exact LeO.none _)
      | (with_reducible refine LeO.ite ?_ ?_)
      | (with_reducible refine LeO.bind ?_ (fun _ => ?_))
      | exact ih0 _ _ _
      | exact laws_markText.mono _ _
      | exact LeO.none _
      | refine LeO.ite ?_ ?_
      | refine LeO.bind ?_ (fun _ => ?_)
mutual
def laws_FnExactFieldsPut.j0 : Nat → List (S31) → List (S38) → Bool → Bool → List (S38) → List (S38) → Bool → Bool → Bool → ByteArray → ByteArray → Option (Bool)
  | 0, _, _, _, _, _, _, _, _, _, _, _ => none
  | k + 1, x0, x6, x7, x8, x9, x10, x11, x12, x61, x580000, x580001 => if x61 = true then (some false) else ((laws_toPairS.f k x0).bind fun t603 => ((laws_eqPairS.f k x9 t603).bind fun t606 => (if t606 = true then ((laws_markPairS.f k x9 1).bind fun bt607 => (if bt607.1 < 0 then (laws_FnExactFieldsPut.j1 k x0 x6 x7 x8 x10 true x580000 x580001) else ((laws_eqPairS.f k x10 x6).bind fun t609 => (if t609 = true then (if (x11 != x7) = true then (laws_FnExactFieldsPut.j1 k x0 x6 x7 x8 x10 true x580000 x580001) else (laws_FnExactFieldsPut.j1 k x0 x6 x7 x8 x10 (x12 != x8) x580000 x580001)) else (laws_FnExactFieldsPut.j1 k x0 x6 x7 x8 x10 true x580000 x580001))))) else (some false))))
def laws_FnExactFieldsPut.j1 : Nat → List (S31) → List (S38) → Bool → Bool → List (S38) → Bool → ByteArray → ByteArray → Option (Bool)
  | 0, _, _, _, _, _, _, _, _ => none
  | k + 1, x0, x6, x7, x8, x10, x87, x580000, x580001 => if x87 = true then (some false) else ((laws_markPairS.f k x10 1).bind fun bt610 => ((laws_heldPairS.f k bt610.2 1).bind fun t612 => (if t612 < 0 then (some false) else (if t612 = bt610.1 then ((laws_toPairS.f k x0).bind fun t613 => ((laws_toPair.f x580000 x580001).bind fun bt616 => ((impl_FieldsPut.f k t613 bt616.1 bt616.2).bind fun bt618 => ((laws_eqPairS.f k bt618.1 x6).bind fun t623 => (if t623 = true then (if (bt618.2.1 != x7) = true then (laws_FnExactFieldsPut.j2 k bt610.2 bt610.1 true) else (laws_FnExactFieldsPut.j2 k bt610.2 bt610.1 (bt618.2.2 != x8))) else (laws_FnExactFieldsPut.j2 k bt610.2 bt610.1 true)))))) else (some false)))))
def laws_FnExactFieldsPut.j2 : Nat → List (S38) → Int → Bool → Option (Bool)
  | 0, _, _, _ => none
  | k + 1, x10, x14, x121 => if x121 = true then (some false) else ((laws_heldPairS.f k x10 1).bind fun t624 => (if t624 < 0 then (some false) else (if t624 = x14 then (some true) else (some false))))
end
def laws_FnExactFieldsPut.f (k : Nat) (l0 : List (S31)) (a1_0 : ByteArray) (a1_1 : ByteArray) : Option (Bool) := (laws_szPairS.f k l0 1048576).bind fun t580 => (if t580 < 0 then (some true) else ((laws_szPair.f a1_0 a1_1 t580).bind fun t581 => (if t581 < 0 then (some true) else ((laws_toPairS.f k l0).bind fun t582 => ((laws_toPair.f a1_0 a1_1).bind fun bt585 => ((spec_FieldsPut.f k t582 bt585.1 bt585.2).bind fun bt587 => ((laws_toPairS.f k l0).bind fun t592 => ((laws_toPair.f a1_0 a1_1).bind fun bt595 => ((impl_FieldsPut.f k t592 bt595.1 bt595.2).bind fun bt597 => ((laws_eqPairS.f k bt597.1 bt587.1).bind fun t602 => (if t602 = true then (if (bt597.2.1 != bt587.2.1) = true then (laws_FnExactFieldsPut.j0 k l0 bt587.1 bt587.2.1 bt587.2.2 t592 bt597.1 bt597.2.1 bt597.2.2 true a1_0 a1_1) else (laws_FnExactFieldsPut.j0 k l0 bt587.1 bt587.2.1 bt587.2.2 t592 bt597.1 bt597.2.1 bt597.2.2 (bt597.2.2 != bt587.2.2) a1_0 a1_1)) else (laws_FnExactFieldsPut.j0 k l0 bt587.1 bt587.2.1 bt587.2.2 t592 bt597.1 bt597.2.1 bt597.2.2 true a1_0 a1_1))))))))))))
theorem laws_FnExactFieldsPut.mono_l : ∀ k, (∀ y0 y1 y2 y3 y4 y5 y6 y7 y8 y9 y10, LeO (laws_FnExactFieldsPut.j0 k y0 y1 y2 y3 y4 y5 y6 y7 y8 y9 y10) (laws_FnExactFieldsPut.j0 (k + 1) y0 y1 y2 y3 y4 y5 y6 y7 y8 y9 y10)) ∧ (∀ y0 y1 y2 y3 y4 y5 y6 y7, LeO (laws_FnExactFieldsPut.j1 k y0 y1 y2 y3 y4 y5 y6 y7) (laws_FnExactFieldsPut.j1 (k + 1) y0 y1 y2 y3 y4 y5 y6 y7)) ∧ (∀ y0 y1 y2, LeO (laws_FnExactFieldsPut.j2 k y0 y1 y2) (laws_FnExactFieldsPut.j2 (k + 1) y0 y1 y2))
  | 0 => ⟨fun _ _ _ _ _ _ _ _ _ _ _ r h => by simp [laws_FnExactFieldsPut.j0] at h, fun _ _ _ _ _ _ _ _ r h => by simp [laws_FnExactFieldsPut.j1] at h, fun _ _ _ r h => by simp [laws_FnExactFieldsPut.j2] at h⟩
  | k + 1 => by
    obtain ⟨ih0, ih1, ih2⟩ := laws_FnExactFieldsPut.mono_l k
    refine ⟨?_, ?_, ?_⟩
    · intro y0 y1 y2 y3 y4 y5 y6 y7 y8 y9 y10
      unfold laws_FnExactFieldsPut.j0
      repeat' first
      | (with_reducible exact ih0 _ _ _ _ _ _ _ _ _ _ _)
      | (with_reducible exact ih1 _ _ _ _ _ _ _ _)
      | (with_reducible exact ih2 _ _ _)
      | (with_reducible exact impl_FieldsPut.mono _ _ _ _)
      | (with_reducible exact laws_eqPairS.mono _ _ _)
      | (with_reducible exact laws_heldPairS.mono _ _ _)
      | (with_reducible exact laws_markPairS.mono _ _ _)
      | (with_reducible exact laws_szPairS.mono _ _ _)
      | (with_reducible exact laws_toPairS.mono _ _)
      | (with_reducible exact spec_FieldsPut.mono _ _ _ _)
      | (with_reducible exact LeO.refl _)
      | (with_reducible exact LeO.none _)
      | (with_reducible refine LeO.ite ?_ ?_)
      | (with_reducible refine LeO.bind ?_ (fun _ => ?_))
      | exact ih0 _ _ _ _ _ _ _ _ _ _ _
      | exact ih1 _ _ _ _ _ _ _ _
      | exact ih2 _ _ _
      | exact impl_FieldsPut.mono _ _ _ _
      | exact laws_eqPairS.mono _ _ _
      | exact laws_heldPairS.mono _ _ _
      | exact laws_markPairS.mono _ _ _
      | exact laws_szPairS.mono _ _ _
      | exact laws_toPairS.mono _ _
      | exact spec_FieldsPut.mono _ _ _ _
      | exact LeO.none _
      | refine LeO.ite ?_ ?_
      | refine LeO.bind ?_ (fun _ => ?_)
    · intro y0 y1 y2 y3 y4 y5 y6 y7
      unfold laws_FnExactFieldsPut.j1
      repeat' first
      | (with_reducible exact ih0 _ _ _ _ _ _ _ _ _ _ _)
      | (with_reducible exact ih1 _ _ _ _ _ _ _ _)
      | (with_reducible exact ih2 _ _ _)
      | (with_reducible exact impl_FieldsPut.mono _ _ _ _)
      | (with_reducible exact laws_eqPairS.mono _ _ _)
      | (with_reducible exact laws_heldPairS.mono _ _ _)
      | (with_reducible exact laws_markPairS.mono _ _ _)
      | (with_reducible exact laws_szPairS.mono _ _ _)
      | (with_reducible exact laws_toPairS.mono _ _)
      | (with_reducible exact spec_FieldsPut.mono _ _ _ _)
      | (with_reducible exact LeO.refl _)
      | (with_reducible exact LeO.none _)
      | (with_reducible refine LeO.ite ?_ ?_)
      | (with_reducible refine LeO.bind ?_ (fun _ => ?_))
      | exact ih0 _ _ _ _ _ _ _ _ _ _ _
      | exact ih1 _ _ _ _ _ _ _ _
      | exact ih2 _ _ _
      | exact impl_FieldsPut.mono _ _ _ _
      | exact laws_eqPairS.mono _ _ _
      | exact laws_heldPairS.mono _ _ _
      | exact laws_markPairS.mono _ _ _
      | exact laws_szPairS.mono _ _ _
      | exact laws_toPairS.mono _ _
      | exact spec_FieldsPut.mono _ _ _ _
      | exact LeO.none _
      | refine LeO.ite ?_ ?_
      | refine LeO.bind ?_ (fun _ => ?_)
    · intro y0 y1 y2
      unfold laws_FnExactFieldsPut.j2
      repeat' first
      | (with_reducible exact ih0 _ _ _ _ _ _ _ _ _ _ _)
      | (with_reducible exact ih1 _ _ _ _ _ _ _ _)
      | (with_reducible exact ih2 _ _ _)
      | (with_reducible exact impl_FieldsPut.mono _ _ _ _)
      | (with_reducible exact laws_eqPairS.mono _ _ _)
      | (with_reducible exact laws_heldPairS.mono _ _ _)
      | (with_reducible exact laws_markPairS.mono _ _ _)
      | (with_reducible exact laws_szPairS.mono _ _ _)
      | (with_reducible exact laws_toPairS.mono _ _)
      | (with_reducible exact spec_FieldsPut.mono _ _ _ _)
      | (with_reducible exact LeO.refl _)
      | (with_reducible exact LeO.none _)
      | (with_reducible refine LeO.ite ?_ ?_)
      | (with_reducible refine LeO.bind ?_ (fun _ => ?_))
      | exact ih0 _ _ _ _ _ _ _ _ _ _ _
      | exact ih1 _ _ _ _ _ _ _ _
      | exact ih2 _ _ _
      | exact impl_FieldsPut.mono _ _ _ _
      | exact laws_eqPairS.mono _ _ _
      | exact laws_heldPairS.mono _ _ _
      | exact laws_markPairS.mono _ _ _
      | exact laws_szPairS.mono _ _ _
      | exact laws_toPairS.mono _ _
      | exact spec_FieldsPut.mono _ _ _ _
      | exact LeO.none _
      | refine LeO.ite ?_ ?_
      | refine LeO.bind ?_ (fun _ => ?_)
theorem laws_FnExactFieldsPut.mono : ∀ a0 a1 a2 k, LeO (laws_FnExactFieldsPut.f k a0 a1 a2) (laws_FnExactFieldsPut.f (k + 1) a0 a1 a2) := by
  intro a0 a1 a2 k
  obtain ⟨ih0, ih1, ih2⟩ := laws_FnExactFieldsPut.mono_l k
  unfold laws_FnExactFieldsPut.f
  repeat' first
      | (with_reducible exact ih0 _ _ _ _ _ _ _ _ _ _ _)
      | (with_reducible exact ih1 _ _ _ _ _ _ _ _)
      | (with_reducible exact ih2 _ _ _)
      | (with_reducible exact impl_FieldsPut.mono _ _ _ _)
      | (with_reducible exact laws_eqPairS.mono _ _ _)
      | (with_reducible exact laws_heldPairS.mono _ _ _)
      | (with_reducible exact laws_markPairS.mono _ _ _)
      | (with_reducible exact laws_szPairS.mono _ _ _)
      | (with_reducible exact laws_toPairS.mono _ _)
      | (with_reducible exact spec_FieldsPut.mono _ _ _ _)
      | (with_reducible exact LeO.refl _)
      | (with_reducible exact LeO.none _)
      | (with_reducible refine LeO.ite ?_ ?_)
      | (with_reducible refine LeO.bind ?_ (fun _ => ?_))
      | exact ih0 _ _ _ _ _ _ _ _ _ _ _
      | exact ih1 _ _ _ _ _ _ _ _
      | exact ih2 _ _ _
      | exact impl_FieldsPut.mono _ _ _ _
      | exact laws_eqPairS.mono _ _ _
      | exact laws_heldPairS.mono _ _ _
      | exact laws_markPairS.mono _ _ _
      | exact laws_szPairS.mono _ _ _
      | exact laws_toPairS.mono _ _
      | exact spec_FieldsPut.mono _ _ _ _
      | exact LeO.none _
      | refine LeO.ite ?_ ?_
      | refine LeO.bind ?_ (fun _ => ?_)
def IsS86 (w0 W : World) (g : Nat) (f0 : List Int) (f1 : Int) : Prop := ∃ A0 c0, W.heap[g]? = some (.cells #[.slice A0 f0.length c0, .int .i64 f1] 86 (0, 0)) ∧ w0.heap.size ≤ g ∧ Kd.C (Kd.int .u8) w0 A0 f0.length f0
theorem IsS86.grown {w0 W : World} {g : Nat} {f0 : List Int} {f1 : Int} {W1 : World} {row : Option Nat} (h : IsS86 w0 W g f0 f1) (hw : W.grownBy W1 row) (hne : some g ≠ row) : IsS86 w0 W1 g f0 f1 := by
  obtain ⟨A0, c0, hb, hg, hr0⟩ := h
  exact ⟨A0, c0, blk_grown hb hw hne, hg, hr0⟩
theorem IsS86.fresh {w0 W : World} {g : Nat} {f0 : List Int} {f1 : Int} (h : IsS86 w0 W g f0 f1) : ∀ k, W.heap.size ≤ k → k ≠ g := by
  obtain ⟨A0, c0, hb, hg, hr0⟩ := h
  exact Kd.freshB hb
theorem IsS86.kept {w0 W : World} {g : Nat} {f0 : List Int} {f1 : Int} {W1 : World} {S : Nat → Prop} (h : IsS86 w0 W g f0 f1) (hk : Kept W W1 S) (hne : ¬ S g) : IsS86 w0 W1 g f0 f1 := by
  obtain ⟨A0, c0, hb, hg, hr0⟩ := h
  exact ⟨A0, c0, blk_kept hb hk hne, hg, hr0⟩
theorem IsS86.below {w0 W : World} {g : Nat} {f0 : List Int} {f1 : Int} {W1 : World} (h : IsS86 w0 W g f0 f1) (hw : Below W.heap.size W W1) : IsS86 w0 W1 g f0 f1 := h.grown (grown_of_below hw none) (by simp)
theorem IsS86.alloc {w0 W : World} {g : Nat} {f0 : List Int} {f1 : Int} (h : IsS86 w0 W g f0 f1) (o : Obj) : IsS86 w0 (W.alloc o) g f0 f1 := h.below (below_alloc (Below.refl _ _) o)
theorem IsS86.drewN {w0 W : World} {g : Nat} {f0 : List Int} {f1 : Int} (h : IsS86 w0 W g f0 f1) (m : Nat) : IsS86 w0 (W.drewN m) g f0 f1 := h
theorem IsS86.drew {w0 W : World} {g : Nat} {f0 : List Int} {f1 : Int} (h : IsS86 w0 W g f0 f1) : IsS86 w0 W.drew g f0 f1 := h
theorem IsS86.at_ {w0 W : World} {g : Nat} {f0 : List Int} {f1 : Int} {w' : World} {m : Nat} (hq : W.drewN m = w') (h : IsS86 w0 W g f0 f1) : IsS86 w0 w' g f0 f1 := by subst hq; exact IsS86.drewN h m
theorem IsS86.apart {w0 W : World} {g : Nat} {f0 : List Int} {f1 : Int} {α : Type} {d : Kd α} {e : Nat} {base : Nat} {ok : Nat → Prop} {v : Value} {xs : List α} (h : IsS86 w0 W g f0 f1) (ho : d.R e W base ok v xs) (ht : ∀ q, q ∈ e :: d.E → q ≠ 86) : d.R e W base (fun k => ok k ∧ k ≠ g) v xs := by
  obtain ⟨A0, c0, hb, hg, hr0⟩ := h
  exact Kd.R_types ho hb ht
theorem IsS86.own_ne {w0 W : World} {g : Nat} {f0 : List Int} {f1 : Int} {α : Type} {d : Kd α} {e : Nat} {base : Nat} {ok : Nat → Prop} {v : Value} {xs : List α} (h : IsS86 w0 W g f0 f1) (ho : d.R e W base ok v xs) (ht : e ≠ 86) : some g ≠ v.ownBlock := by
  obtain ⟨A0, c0, hb, hg, hr0⟩ := h
  exact Kd.R_ne ho hb ht
theorem IsS86.lt {w0 W : World} {g : Nat} {f0 : List Int} {f1 : Int} (h : IsS86 w0 W g f0 f1) : g < W.heap.size := by
  obtain ⟨A0, c0, hb, hg, hr0⟩ := h
  exact blk_lt hb
theorem IsS86.ge {w0 W : World} {g : Nat} {f0 : List Int} {f1 : Int} (h : IsS86 w0 W g f0 f1) : w0.heap.size ≤ g := by
  obtain ⟨A0, c0, hb, hg, hr0⟩ := h
  exact hg
theorem cellS86_0 {W : World} {g : Nat} {A0 : Option Addr} {c0 : Nat} {f0 : List Int} {f1 : Int} (h : W.heap[g]? = some (.cells #[.slice A0 f0.length c0, .int .i64 f1] 86 (0, 0))) : W.cell? ⟨g, 0, none⟩ = some (.slice A0 f0.length c0) := (blk_cell h 0).trans rfl
theorem cellS86_1 {W : World} {g : Nat} {A0 : Option Addr} {c0 : Nat} {f0 : List Int} {f1 : Int} (h : W.heap[g]? = some (.cells #[.slice A0 f0.length c0, .int .i64 f1] 86 (0, 0))) : W.cell? ⟨g, 1, none⟩ = some (.int .i64 f1) := (blk_cell h 1).trans rfl
theorem IsS86.set_1 {w0 W : World} {g : Nat} {f0 : List Int} {f1 : Int} (h : IsS86 w0 W g f0 f1) (x : Int) : IsS86 w0 (W.setCell ⟨g, 1, none⟩ (.int .i64 x)) g f0 x := by
  obtain ⟨A0, c0, hb, hg, hr0⟩ := h
  exact ⟨A0, c0, by simpa using blk_set hb 1 (.int .i64 x), hg, hr0⟩
def spec_l1Open.f (l0 : List Int) : Option (List Int × Int) := if (l0.length : Int) > 2000 then (if 2000 ≤ (l0.length : Int) then (some (l0.take 2000, 0)) else (none)) else (some (l0, 0))
def spec_l1Rd_pick.j0 : Nat → Int → Bool → List Int → Int → Option (Int × Int)
  | 0, _, _, _, _ => none
  | k + 1, x1, x24, x1000, x1001 => if x24 = true then (some (0, x1001)) else (if (wrap64 (x1001 - 1)) < (x1000.length : Int) then (if 0 ≤ (wrap64 (x1001 - 1)) then (if x1 = 0 then (none) else (some (Int.tmod (wrap64 (rd x1000 (wrap64 (x1001 - 1)))) x1, x1001))) else (none)) else (if (x1000.length : Int) = 0 then (none) else (if 0 ≤ (Int.tmod (wrap64 (x1001 - 1)) (x1000.length : Int)) then (if (Int.tmod (wrap64 (x1001 - 1)) (x1000.length : Int)) < (x1000.length : Int) then (if 0 ≤ (Int.tmod (wrap64 ((wrap64 ((wrap64 (x1001 - 1)) * 7)) + 3)) (x1000.length : Int)) then (if (Int.tmod (wrap64 ((wrap64 ((wrap64 (x1001 - 1)) * 7)) + 3)) (x1000.length : Int)) < (x1000.length : Int) then (if x1 = 0 then (none) else (some (Int.tmod (Go.bits .xor .i64 (wrap64 ((wrap64 ((wrap64 ((wrap64 ((wrap64 (rd x1000 (Int.tmod (wrap64 (x1001 - 1)) (x1000.length : Int)))) * 131)) + (wrap64 ((wrap64 (rd x1000 (Int.tmod (wrap64 ((wrap64 ((wrap64 (x1001 - 1)) * 7)) + 3)) (x1000.length : Int)))) * 1117)))) + (wrap64 ((wrap64 (x1001 - 1)) * 29)))) + (wrap64 ((wrap64 (Int.tdiv (wrap64 (x1001 - 1)) (x1000.length : Int))) * 53)))) (wrap64 (Int.tdiv (wrap64 ((wrap64 ((wrap64 ((wrap64 ((wrap64 (rd x1000 (Int.tmod (wrap64 (x1001 - 1)) (x1000.length : Int)))) * 131)) + (wrap64 ((wrap64 (rd x1000 (Int.tmod (wrap64 ((wrap64 ((wrap64 (x1001 - 1)) * 7)) + 3)) (x1000.length : Int)))) * 1117)))) + (wrap64 ((wrap64 (x1001 - 1)) * 29)))) + (wrap64 ((wrap64 (Int.tdiv (wrap64 (x1001 - 1)) (x1000.length : Int))) * 53)))) 64))) x1, x1001))) else (none)) else (none)) else (none)) else (none))))
def spec_l1Rd_pick.f (k : Nat) (s0_0 : List Int) (s0_1 : Int) (a1 : Int) : Option (Int × Int) := if a1 < 1 then (spec_l1Rd_pick.j0 k a1 true s0_0 (wrap64 (s0_1 + 1))) else (spec_l1Rd_pick.j0 k a1 ((s0_0.length : Int) == 0) s0_0 (wrap64 (s0_1 + 1)))
theorem spec_l1Rd_pick.mono_l : ∀ k, (∀ y0 y1 y2 y3, LeO (spec_l1Rd_pick.j0 k y0 y1 y2 y3) (spec_l1Rd_pick.j0 (k + 1) y0 y1 y2 y3))
  | 0 => fun _ _ _ _ r h => by simp [spec_l1Rd_pick.j0] at h
  | k + 1 => by
    have ih0 := spec_l1Rd_pick.mono_l k
    · intro y0 y1 y2 y3
      unfold spec_l1Rd_pick.j0
      repeat' first
      | (with_reducible exact ih0 _ _ _ _)
      | (with_reducible exact LeO.refl _)
      | (with_reducible exact LeO.none _)
      | (with_reducible refine LeO.ite ?_ ?_)
      | (with_reducible refine LeO.bind ?_ (fun _ => ?_))
      | exact ih0 _ _ _ _
      | exact LeO.none _
      | refine LeO.ite ?_ ?_
      | refine LeO.bind ?_ (fun _ => ?_)
theorem spec_l1Rd_pick.mono : ∀ a0 a1 a2 k, LeO (spec_l1Rd_pick.f k a0 a1 a2) (spec_l1Rd_pick.f (k + 1) a0 a1 a2) := by
  intro a0 a1 a2 k
  have ih0 := spec_l1Rd_pick.mono_l k
  unfold spec_l1Rd_pick.f
  repeat' first
      | (with_reducible exact ih0 _ _ _ _)
      | (with_reducible exact LeO.refl _)
      | (with_reducible exact LeO.none _)
      | (with_reducible refine LeO.ite ?_ ?_)
      | (with_reducible refine LeO.bind ?_ (fun _ => ?_))
      | exact ih0 _ _ _ _
      | exact LeO.none _
      | refine LeO.ite ?_ ?_
      | refine LeO.bind ?_ (fun _ => ?_)
def spec_l1Rd_of.f (k : Nat) (s0_0 : List Int) (s0_1 : Int) (l1 : List ByteArray) : Option (ByteArray × Int) := (spec_l1Rd_pick.f k s0_0 s0_1 (l1.length : Int)).bind fun bt631 => (if 0 ≤ bt631.1 then (if bt631.1 < (l1.length : Int) then (some (rdOf ByteArray.empty l1 bt631.1, bt631.2)) else (none)) else (none))
theorem spec_l1Rd_of.mono : ∀ a0 a1 a2 k, LeO (spec_l1Rd_of.f k a0 a1 a2) (spec_l1Rd_of.f (k + 1) a0 a1 a2) := by
  intro a0 a1 a2 k
  unfold spec_l1Rd_of.f
  repeat' first
      | (with_reducible exact spec_l1Rd_pick.mono _ _ _ _)
      | (with_reducible exact LeO.refl _)
      | (with_reducible exact LeO.none _)
      | (with_reducible refine LeO.ite ?_ ?_)
      | (with_reducible refine LeO.bind ?_ (fun _ => ?_))
      | exact spec_l1Rd_pick.mono _ _ _ _
      | exact LeO.none _
      | refine LeO.ite ?_ ?_
      | refine LeO.bind ?_ (fun _ => ?_)
def spec_l1Many.l0 : Nat → ByteArray → Int → ByteArray → Option (ByteArray)
  | 0, _, _, _ => none
  | k + 1, x0, x1, x5 => if x1 > 0 then (if (Int.tmod x1 2) = 1 then (if x5.size + x0.size ≤ 9223372036854775807 then (if x0.size + x0.size ≤ 9223372036854775807 then (spec_l1Many.l0 k (x0 ++ x0) (wrap64 (Int.tdiv x1 2)) (x5 ++ x0)) else (none)) else (none)) else (if x0.size + x0.size ≤ 9223372036854775807 then (spec_l1Many.l0 k (x0 ++ x0) (wrap64 (Int.tdiv x1 2)) x5) else (none))) else (some x5)
def spec_l1Many.f (k : Nat) (a0 : ByteArray) (a1 : Int) : Option (ByteArray) := spec_l1Many.l0 k a0 a1 (⟨#[]⟩ : ByteArray)
theorem spec_l1Many.mono_l : ∀ k, (∀ y0 y1 y2, LeO (spec_l1Many.l0 k y0 y1 y2) (spec_l1Many.l0 (k + 1) y0 y1 y2))
  | 0 => fun _ _ _ r h => by simp [spec_l1Many.l0] at h
  | k + 1 => by
    have ih0 := spec_l1Many.mono_l k
    · intro y0 y1 y2
      unfold spec_l1Many.l0
      repeat' first
      | (with_reducible exact ih0 _ _ _)
      | (with_reducible exact LeO.refl _)
      | (with_reducible exact LeO.none _)
      | (with_reducible refine LeO.ite ?_ ?_)
      | (with_reducible refine LeO.bind ?_ (fun _ => ?_))
      | exact ih0 _ _ _
      | exact LeO.none _
      | refine LeO.ite ?_ ?_
      | refine LeO.bind ?_ (fun _ => ?_)
theorem spec_l1Many.mono : ∀ a0 a1 k, LeO (spec_l1Many.f k a0 a1) (spec_l1Many.f (k + 1) a0 a1) := by
  intro a0 a1 k
  have ih0 := spec_l1Many.mono_l k
  unfold spec_l1Many.f
  repeat' first
      | (with_reducible exact ih0 _ _ _)
      | (with_reducible exact LeO.refl _)
      | (with_reducible exact LeO.none _)
      | (with_reducible refine LeO.ite ?_ ?_)
      | (with_reducible refine LeO.bind ?_ (fun _ => ?_))
      | exact ih0 _ _ _
      | exact LeO.none _
      | refine LeO.ite ?_ ?_
      | refine LeO.bind ?_ (fun _ => ?_)
def spec_l11Text.f (k : Nat) (s0_0 : List Int) (s0_1 : Int) : Option (ByteArray × Int) := (spec_l1Many.f k (⟨#[120]⟩ : ByteArray) 40).bind fun t634 => ((spec_l1Rd_of.f k s0_0 s0_1 (([(⟨#[]⟩ : ByteArray), (⟨#[97]⟩ : ByteArray), (⟨#[98]⟩ : ByteArray), (⟨#[99]⟩ : ByteArray), (⟨#[53]⟩ : ByteArray), (⟨#[45, 51]⟩ : ByteArray), (⟨#[104, 101, 108, 108, 111]⟩ : ByteArray), (⟨#[13, 10]⟩ : ByteArray), (⟨#[255]⟩ : ByteArray), t634, (⟨#[57, 57, 57, 57, 57, 57, 57, 57, 57]⟩ : ByteArray)] : List ByteArray))).bind fun bt638 => (some (bt638.1, bt638.2)))
theorem spec_l11Text.mono : ∀ a0 a1 k, LeO (spec_l11Text.f k a0 a1) (spec_l11Text.f (k + 1) a0 a1) := by
  intro a0 a1 k
  unfold spec_l11Text.f
  repeat' first
      | (with_reducible exact spec_l1Many.mono _ _ _)
      | (with_reducible exact spec_l1Rd_of.mono _ _ _ _)
      | (with_reducible exact LeO.refl _)
      | (with_reducible exact LeO.none _)
      | (with_reducible refine LeO.ite ?_ ?_)
      | (with_reducible refine LeO.bind ?_ (fun _ => ?_))
      | exact spec_l1Many.mono _ _ _
      | exact spec_l1Rd_of.mono _ _ _ _
      | exact LeO.none _
      | refine LeO.ite ?_ ?_
      | refine LeO.bind ?_ (fun _ => ?_)
def spec_l11Fields.l0 : Nat → List (S38) → Int → List Int → Int → Option ((List (S38)) × Int)
  | 0, _, _, _, _ => none
  | k + 1, x3, x4, x1000, x1001 => if x4 > 0 then ((spec_l11Text.f k x1000 x1001).bind fun bt645 => ((spec_l11Text.f k x1000 bt645.2).bind fun bt647 => ((spec_FieldsPut.f k x3 bt645.1 bt647.1).bind fun bt649 => (spec_l11Fields.l0 k bt649.1 (wrap64 (x4 - 1)) x1000 bt647.2)))) else (some (x3, x1001))
def spec_l11Fields.f (k : Nat) (s0_0 : List Int) (s0_1 : Int) : Option ((List (S38)) × Int) := (spec_l1Rd_pick.f k s0_0 s0_1 5).bind fun bt643 => (spec_l11Fields.l0 k (([] : List (S38))) bt643.1 s0_0 bt643.2)
theorem spec_l11Fields.mono_l : ∀ k, (∀ y0 y1 y2 y3, LeO (spec_l11Fields.l0 k y0 y1 y2 y3) (spec_l11Fields.l0 (k + 1) y0 y1 y2 y3))
  | 0 => fun _ _ _ _ r h => by simp [spec_l11Fields.l0] at h
  | k + 1 => by
    have ih0 := spec_l11Fields.mono_l k
    · intro y0 y1 y2 y3
      unfold spec_l11Fields.l0
      repeat' first
      | (with_reducible exact ih0 _ _ _ _)
      | (with_reducible exact spec_FieldsPut.mono _ _ _ _)
      | (with_reducible exact spec_l11Text.mono _ _ _)
      | (with_reducible exact spec_l1Rd_pick.mono _ _ _ _)
      | (with_reducible exact LeO.refl _)
      | (with_reducible exact LeO.none _)
      | (with_reducible refine LeO.ite ?_ ?_)
      | (with_reducible refine LeO.bind ?_ (fun _ => ?_))
      | exact ih0 _ _ _ _
      | exact spec_FieldsPut.mono _ _ _ _
      | exact spec_l11Text.mono _ _ _
      | exact spec_l1Rd_pick.mono _ _ _ _
      | exact LeO.none _
      | refine LeO.ite ?_ ?_
      | refine LeO.bind ?_ (fun _ => ?_)
theorem spec_l11Fields.mono : ∀ a0 a1 k, LeO (spec_l11Fields.f k a0 a1) (spec_l11Fields.f (k + 1) a0 a1) := by
  intro a0 a1 k
  have ih0 := spec_l11Fields.mono_l k
  unfold spec_l11Fields.f
  repeat' first
      | (with_reducible exact ih0 _ _ _ _)
      | (with_reducible exact spec_FieldsPut.mono _ _ _ _)
      | (with_reducible exact spec_l11Text.mono _ _ _)
      | (with_reducible exact spec_l1Rd_pick.mono _ _ _ _)
      | (with_reducible exact LeO.refl _)
      | (with_reducible exact LeO.none _)
      | (with_reducible refine LeO.ite ?_ ?_)
      | (with_reducible refine LeO.bind ?_ (fun _ => ?_))
      | exact ih0 _ _ _ _
      | exact spec_FieldsPut.mono _ _ _ _
      | exact spec_l11Text.mono _ _ _
      | exact spec_l1Rd_pick.mono _ _ _ _
      | exact LeO.none _
      | refine LeO.ite ?_ ?_
      | refine LeO.bind ?_ (fun _ => ?_)
def spec_l1Dec.f : Nat → Int → Option (ByteArray)
  | 0, _ => none
  | k + 1, a0 => if a0 < (-9223372036854775807) then (some (⟨#[45, 57, 50, 50, 51, 51, 55, 50, 48, 51, 54, 56, 53, 52, 55, 55, 53, 56, 48, 56]⟩ : ByteArray)) else (if a0 < 0 then ((spec_l1Dec.f k (wrap64 (-a0))).bind fun t654 => (if 1 + t654.size ≤ 9223372036854775807 then (some ((⟨#[45]⟩ : ByteArray) ++ t654)) else (none))) else (if a0 < 10 then (some (strOfNums (([(wrap64 (48 + a0)) % 256] : List Int)))) else ((spec_l1Dec.f k (wrap64 (Int.tdiv a0 10))).bind fun t658 => ((some (([(wrap64 (48 + (Int.tmod a0 10))) % 256] : List Int) : List Int)).bind fun y659 => (if t658.size + (strOfNums y659).size ≤ 9223372036854775807 then (some (t658 ++ (strOfNums y659))) else (none))))))
theorem spec_l1Dec.mono_l : ∀ k, (∀ y0, LeO (spec_l1Dec.f k y0) (spec_l1Dec.f (k + 1) y0))
  | 0 => fun _ r h => by simp [spec_l1Dec.f] at h
  | k + 1 => by
    have ih0 := spec_l1Dec.mono_l k
    · intro y0
      unfold spec_l1Dec.f
      repeat' first
      | (with_reducible exact ih0 _)
      | (with_reducible exact LeO.refl _)
      | (with_reducible exact LeO.none _)
      | (with_reducible refine LeO.ite ?_ ?_)
      | (with_reducible refine LeO.bind ?_ (fun _ => ?_))
      | exact ih0 _
      | exact LeO.none _
      | refine LeO.ite ?_ ?_
      | refine LeO.bind ?_ (fun _ => ?_)
theorem spec_l1Dec.mono : ∀ a0 k, LeO (spec_l1Dec.f k a0) (spec_l1Dec.f (k + 1) a0) := by
  intro a0 k
  have ih0 := spec_l1Dec.mono_l k
  exact ih0 a0
def spec_l11AnyFields.l0 : Nat → List (S38) → Int → List Int → Int → Option ((List (S38)) × Int)
  | 0, _, _, _, _ => none
  | k + 1, x3, x4, x1000, x1001 => if (x3.length : Int) < 16 then ((spec_l1Dec.f k x4).bind fun t673 => (if 1 + t673.size ≤ 9223372036854775807 then ((spec_FieldsPut.f k x3 ((⟨#[102]⟩ : ByteArray) ++ t673) (⟨#[]⟩ : ByteArray)).bind fun bt674 => (spec_l11AnyFields.l0 k bt674.1 (wrap64 (x4 + 1)) x1000 x1001)) else (none))) else (some (x3, x1001))
def spec_l11AnyFields.f (k : Nat) (s0_0 : List Int) (s0_1 : Int) : Option ((List (S38)) × Int) := (spec_l11Fields.f k s0_0 s0_1).bind fun bt662 => ((spec_l1Rd_pick.f k s0_0 bt662.2 12).bind fun bt666 => (if bt666.1 = 0 then ((spec_l11Text.f k s0_0 bt666.2).bind fun bt668 => (if bt662.1.length < 4398046511104 then (some ((bt662.1 ++ [(⟨bt668.1, (⟨#[]⟩ : ByteArray)⟩ : S38)]), bt668.2)) else (none))) else (if bt666.1 = 1 then (spec_l11AnyFields.l0 k bt662.1 10 s0_0 bt666.2) else (some (bt662.1, bt666.2)))))
theorem spec_l11AnyFields.mono_l : ∀ k, (∀ y0 y1 y2 y3, LeO (spec_l11AnyFields.l0 k y0 y1 y2 y3) (spec_l11AnyFields.l0 (k + 1) y0 y1 y2 y3))
  | 0 => fun _ _ _ _ r h => by simp [spec_l11AnyFields.l0] at h
  | k + 1 => by
    have ih0 := spec_l11AnyFields.mono_l k
    · intro y0 y1 y2 y3
      unfold spec_l11AnyFields.l0
      repeat' first
      | (with_reducible exact ih0 _ _ _ _)
      | (with_reducible exact spec_FieldsPut.mono _ _ _ _)
      | (with_reducible exact spec_l11Fields.mono _ _ _)
      | (with_reducible exact spec_l11Text.mono _ _ _)
      | (with_reducible exact spec_l1Dec.mono _ _)
      | (with_reducible exact spec_l1Rd_pick.mono _ _ _ _)
      | (with_reducible exact LeO.refl _)
      | (with_reducible exact LeO.none _)
      | (with_reducible refine LeO.ite ?_ ?_)
      | (with_reducible refine LeO.bind ?_ (fun _ => ?_))
      | exact ih0 _ _ _ _
      | exact spec_FieldsPut.mono _ _ _ _
      | exact spec_l11Fields.mono _ _ _
      | exact spec_l11Text.mono _ _ _
      | exact spec_l1Dec.mono _ _
      | exact spec_l1Rd_pick.mono _ _ _ _
      | exact LeO.none _
      | refine LeO.ite ?_ ?_
      | refine LeO.bind ?_ (fun _ => ?_)
theorem spec_l11AnyFields.mono : ∀ a0 a1 k, LeO (spec_l11AnyFields.f k a0 a1) (spec_l11AnyFields.f (k + 1) a0 a1) := by
  intro a0 a1 k
  have ih0 := spec_l11AnyFields.mono_l k
  unfold spec_l11AnyFields.f
  repeat' first
      | (with_reducible exact ih0 _ _ _ _)
      | (with_reducible exact spec_FieldsPut.mono _ _ _ _)
      | (with_reducible exact spec_l11Fields.mono _ _ _)
      | (with_reducible exact spec_l11Text.mono _ _ _)
      | (with_reducible exact spec_l1Dec.mono _ _)
      | (with_reducible exact spec_l1Rd_pick.mono _ _ _ _)
      | (with_reducible exact LeO.refl _)
      | (with_reducible exact LeO.none _)
      | (with_reducible refine LeO.ite ?_ ?_)
      | (with_reducible refine LeO.bind ?_ (fun _ => ?_))
      | exact ih0 _ _ _ _
      | exact spec_FieldsPut.mono _ _ _ _
      | exact spec_l11Fields.mono _ _ _
      | exact spec_l11Text.mono _ _ _
      | exact spec_l1Dec.mono _ _
      | exact spec_l1Rd_pick.mono _ _ _ _
      | exact LeO.none _
      | refine LeO.ite ?_ ?_
      | refine LeO.bind ?_ (fun _ => ?_)
def spec_DrawFieldsPut.f (k : Nat) (l0 : List Int) : Option ((List (S38)) × ByteArray × ByteArray) := (spec_l1Open.f l0).bind fun bt680 => ((spec_l11AnyFields.f k bt680.1 bt680.2).bind fun bt683 => ((spec_l11Text.f k bt680.1 bt683.2).bind fun bt687 => ((spec_l11Text.f k bt680.1 bt687.2).bind fun bt689 => ((spec_l1Many.f k (⟨#[121]⟩ : ByteArray) 41).bind fun t691 => ((spec_l1Rd_of.f k bt680.1 bt689.2 (([bt687.1, bt689.1, t691] : List ByteArray))).bind fun bt695 => ((spec_l11Text.f k bt680.1 bt695.2).bind fun bt697 => (some (bt683.1, bt695.1, bt697.1))))))))
theorem spec_DrawFieldsPut.mono : ∀ a0 k, LeO (spec_DrawFieldsPut.f k a0) (spec_DrawFieldsPut.f (k + 1) a0) := by
  intro a0 k
  unfold spec_DrawFieldsPut.f
  repeat' first
      | (with_reducible exact spec_l11AnyFields.mono _ _ _)
      | (with_reducible exact spec_l11Text.mono _ _ _)
      | (with_reducible exact spec_l1Many.mono _ _ _)
      | (with_reducible exact spec_l1Rd_of.mono _ _ _ _)
      | (with_reducible exact LeO.refl _)
      | (with_reducible exact LeO.none _)
      | (with_reducible refine LeO.ite ?_ ?_)
      | (with_reducible refine LeO.bind ?_ (fun _ => ?_))
      | exact spec_l11AnyFields.mono _ _ _
      | exact spec_l11Text.mono _ _ _
      | exact spec_l1Many.mono _ _ _
      | exact spec_l1Rd_of.mono _ _ _ _
      | exact LeO.none _
      | refine LeO.ite ?_ ?_
      | refine LeO.bind ?_ (fun _ => ?_)
def laws_qxFields.l0 : Nat → List (S38) → List (S38) → Int → Option (Bool)
  | 0, _, _, _ => none
  | k + 1, x0, x1, x5 => if x5 < (x0.length : Int) then (if 0 ≤ x5 then (if x5 < (x1.length : Int) then (if (!((((rd_T38 x0 x5).f0).toList) == (((rd_T38 x1 x5).f0).toList)) || (!((((rd_T38 x0 x5).f1).toList) == (((rd_T38 x1 x5).f1).toList)))) = true then (some false) else (laws_qxFields.l0 k x0 x1 (wrap64 (x5 + 1)))) else (none)) else (none)) else (some true)
def laws_qxFields.f (k : Nat) (l0 : List (S38)) (l1 : List (S38)) : Option (Bool) := if (l0.length : Int) = (l1.length : Int) then (laws_qxFields.l0 k l0 l1 0) else (some false)
theorem laws_qxFields.mono_l : ∀ k, (∀ y0 y1 y2, LeO (laws_qxFields.l0 k y0 y1 y2) (laws_qxFields.l0 (k + 1) y0 y1 y2))
  | 0 => fun _ _ _ r h => by simp [laws_qxFields.l0] at h
  | k + 1 => by
    have ih0 := laws_qxFields.mono_l k
    · intro y0 y1 y2
      unfold laws_qxFields.l0
      repeat' first
      | (with_reducible exact ih0 _ _ _)
      | (with_reducible exact LeO.refl _)
      | (with_reducible exact LeO.none _)
      | (with_reducible refine LeO.ite ?_ ?_)
      | (with_reducible refine LeO.bind ?_ (fun _ => ?_))
      | exact ih0 _ _ _
      | exact LeO.none _
      | refine LeO.ite ?_ ?_
      | refine LeO.bind ?_ (fun _ => ?_)
theorem laws_qxFields.mono : ∀ a0 a1 k, LeO (laws_qxFields.f k a0 a1) (laws_qxFields.f (k + 1) a0 a1) := by
  intro a0 a1 k
  have ih0 := laws_qxFields.mono_l k
  unfold laws_qxFields.f
  repeat' first
      | (with_reducible exact ih0 _ _ _)
      | (with_reducible exact LeO.refl _)
      | (with_reducible exact LeO.none _)
      | (with_reducible refine LeO.ite ?_ ?_)
      | (with_reducible refine LeO.bind ?_ (fun _ => ?_))
      | exact ih0 _ _ _
      | exact LeO.none _
      | refine LeO.ite ?_ ?_
      | refine LeO.bind ?_ (fun _ => ?_)
def impl_FieldsGet.f (k : Nat) (l0 : List (S38)) (a1 : ByteArray) : Option (ByteArray × Bool) := (impl_FieldsOk.f k l0).bind fun t701 => (if t701 = true then ((impl_fieldAt.f l0 a1).bind fun t702 => (if t702 < 0 then (some ((⟨#[]⟩ : ByteArray), false)) else (if 0 ≤ t702 then (if t702 < (l0.length : Int) then (some ((rd_T38 l0 t702).f1, true)) else (none)) else (none)))) else (some ((⟨#[]⟩ : ByteArray), false)))
theorem impl_FieldsGet.mono : ∀ a0 a1 k, LeO (impl_FieldsGet.f k a0 a1) (impl_FieldsGet.f (k + 1) a0 a1) := by
  intro a0 a1 k
  unfold impl_FieldsGet.f
  repeat' first
      | (with_reducible exact impl_FieldsOk.mono _ _)
      | (with_reducible exact LeO.refl _)
      | (with_reducible exact LeO.none _)
      | (with_reducible refine LeO.ite ?_ ?_)
      | (with_reducible refine LeO.bind ?_ (fun _ => ?_))
      | exact impl_FieldsOk.mono _ _
      | exact LeO.none _
      | refine LeO.ite ?_ ?_
      | refine LeO.bind ?_ (fun _ => ?_)
def slices_Delete_impl_Pair_impl_Pair.f (l0 : List S38) (a1 a2 : Int) : Option (List S38) := if 0 ≤ a1 ∧ a1 < l0.length ∧ a2 = a1 + 1 then some (l0.eraseIdx a1.toNat) else none
def impl_FieldsDrop.f (k : Nat) (l0 : List (S38)) (a1 : ByteArray) : Option ((List (S38)) × Bool) := (impl_FieldsOk.f k l0).bind fun t704 => (if t704 = true then ((impl_copiedPairs.f l0).bind fun t708 => ((impl_fieldAt.f t708 a1).bind fun t711 => (if t711 < 0 then (some (t708, false)) else ((slices_Delete_impl_Pair_impl_Pair.f t708 t711 (wrap64 (t711 + 1))).bind fun t712 => ((impl_copiedPairs.f t712).bind fun t715 => (some (t715, true))))))) else (some ((([] : List (S38))), false)))
theorem impl_FieldsDrop.mono : ∀ a0 a1 k, LeO (impl_FieldsDrop.f k a0 a1) (impl_FieldsDrop.f (k + 1) a0 a1) := by
  intro a0 a1 k
  unfold impl_FieldsDrop.f
  repeat' first
      | (with_reducible exact impl_FieldsOk.mono _ _)
      | (with_reducible exact LeO.refl _)
      | (with_reducible exact LeO.none _)
      | (with_reducible refine LeO.ite ?_ ?_)
      | (with_reducible refine LeO.bind ?_ (fun _ => ?_))
      | exact impl_FieldsOk.mono _ _
      | exact LeO.none _
      | refine LeO.ite ?_ ?_
      | refine LeO.bind ?_ (fun _ => ?_)
def laws_FnFieldsPut.j0 : Nat → List (S38) → List (S38) → Bool → Bool → List (S38) → Bool → Bool → Bool → ByteArray → ByteArray → Option (Bool)
  | 0, _, _, _, _, _, _, _, _, _, _ => none
  | k + 1, x3, x5, x6, x7, x8, x9, x10, x65, x724000, x724001 => if x65 = true then (if (x7 == x10) = true then (if (x6 == x9) = true then ((laws_qxFields.f k x5 x8).bind fun t737 => (if t737 = true then ((impl_FieldsOk.f k x3).bind fun t738 => ((spec_FieldsOk.f k x3).bind fun t739 => (some (t738 == t739)))) else (some false))) else (some false)) else (some false)) else ((impl_FieldsGet.f k x5 x724000).bind fun bt740 => ((impl_FieldsGet.f k x3 x724000).bind fun bt742 => ((impl_FieldsDrop.f k x5 x724000).bind fun bt744 => ((impl_FieldsDrop.f k x3 x724000).bind fun bt748 => ((impl_FieldsOk.f k x5).bind fun t752 => (if t752 = true then (if bt740.2 = true then (if bt740.1.toList = x724001.toList then (if (x6 == (!bt742.2)) = true then ((laws_qxFields.f k bt744.1 bt748.1).bind fun t753 => (some t753)) else (some false)) else (some false)) else (some false)) else (some false)))))))
def laws_FnFieldsPut.f (k : Nat) (l0 : List Int) : Option (Bool) := if (l0.length : Int) > 1048576 then (some true) else ((spec_DrawFieldsPut.f k l0).bind fun bt718 => ((impl_FieldsPut.f k bt718.1 bt718.2.1 bt718.2.2).bind fun bt724 => ((spec_FieldsPut.f k bt718.1 bt718.2.1 bt718.2.2).bind fun bt729 => (if (bt724.2.2 != bt729.2.2) = true then (laws_FnFieldsPut.j0 k bt718.1 bt724.1 bt724.2.1 bt724.2.2 bt729.1 bt729.2.1 bt729.2.2 true bt718.2.1 bt718.2.2) else (if (bt724.2.1 != bt729.2.1) = true then (laws_FnFieldsPut.j0 k bt718.1 bt724.1 bt724.2.1 bt724.2.2 bt729.1 bt729.2.1 bt729.2.2 true bt718.2.1 bt718.2.2) else ((laws_qxFields.f k bt724.1 bt729.1).bind fun t734 => (if t734 = true then ((impl_FieldsOk.f k bt718.1).bind fun t735 => ((spec_FieldsOk.f k bt718.1).bind fun t736 => (if (t735 != t736) = true then (laws_FnFieldsPut.j0 k bt718.1 bt724.1 bt724.2.1 bt724.2.2 bt729.1 bt729.2.1 bt729.2.2 true bt718.2.1 bt718.2.2) else (laws_FnFieldsPut.j0 k bt718.1 bt724.1 bt724.2.1 bt724.2.2 bt729.1 bt729.2.1 bt729.2.2 (!bt724.2.2) bt718.2.1 bt718.2.2)))) else (laws_FnFieldsPut.j0 k bt718.1 bt724.1 bt724.2.1 bt724.2.2 bt729.1 bt729.2.1 bt729.2.2 true bt718.2.1 bt718.2.2))))))))
theorem laws_FnFieldsPut.mono_l : ∀ k, (∀ y0 y1 y2 y3 y4 y5 y6 y7 y8 y9, LeO (laws_FnFieldsPut.j0 k y0 y1 y2 y3 y4 y5 y6 y7 y8 y9) (laws_FnFieldsPut.j0 (k + 1) y0 y1 y2 y3 y4 y5 y6 y7 y8 y9))
  | 0 => fun _ _ _ _ _ _ _ _ _ _ r h => by simp [laws_FnFieldsPut.j0] at h
  | k + 1 => by
    have ih0 := laws_FnFieldsPut.mono_l k
    · intro y0 y1 y2 y3 y4 y5 y6 y7 y8 y9
      unfold laws_FnFieldsPut.j0
      repeat' first
      | (with_reducible exact ih0 _ _ _ _ _ _ _ _ _ _)
      | (with_reducible exact impl_FieldsDrop.mono _ _ _)
      | (with_reducible exact impl_FieldsGet.mono _ _ _)
      | (with_reducible exact impl_FieldsOk.mono _ _)
      | (with_reducible exact impl_FieldsPut.mono _ _ _ _)
      | (with_reducible exact laws_qxFields.mono _ _ _)
      | (with_reducible exact spec_DrawFieldsPut.mono _ _)
      | (with_reducible exact spec_FieldsOk.mono _ _)
      | (with_reducible exact spec_FieldsPut.mono _ _ _ _)
      | (with_reducible exact LeO.refl _)
      | (with_reducible exact LeO.none _)
      | (with_reducible refine LeO.ite ?_ ?_)
      | (with_reducible refine LeO.bind ?_ (fun _ => ?_))
      | exact ih0 _ _ _ _ _ _ _ _ _ _
      | exact impl_FieldsDrop.mono _ _ _
      | exact impl_FieldsGet.mono _ _ _
      | exact impl_FieldsOk.mono _ _
      | exact impl_FieldsPut.mono _ _ _ _
      | exact laws_qxFields.mono _ _ _
      | exact spec_DrawFieldsPut.mono _ _
      | exact spec_FieldsOk.mono _ _
      | exact spec_FieldsPut.mono _ _ _ _
      | exact LeO.none _
      | refine LeO.ite ?_ ?_
      | refine LeO.bind ?_ (fun _ => ?_)
theorem laws_FnFieldsPut.mono : ∀ a0 k, LeO (laws_FnFieldsPut.f k a0) (laws_FnFieldsPut.f (k + 1) a0) := by
  intro a0 k
  have ih0 := laws_FnFieldsPut.mono_l k
  unfold laws_FnFieldsPut.f
  repeat' first
      | (with_reducible exact ih0 _ _ _ _ _ _ _ _ _ _)
      | (with_reducible exact impl_FieldsDrop.mono _ _ _)
      | (with_reducible exact impl_FieldsGet.mono _ _ _)
      | (with_reducible exact impl_FieldsOk.mono _ _)
      | (with_reducible exact impl_FieldsPut.mono _ _ _ _)
      | (with_reducible exact laws_qxFields.mono _ _ _)
      | (with_reducible exact spec_DrawFieldsPut.mono _ _)
      | (with_reducible exact spec_FieldsOk.mono _ _)
      | (with_reducible exact spec_FieldsPut.mono _ _ _ _)
      | (with_reducible exact LeO.refl _)
      | (with_reducible exact LeO.none _)
      | (with_reducible refine LeO.ite ?_ ?_)
      | (with_reducible refine LeO.bind ?_ (fun _ => ?_))
      | exact ih0 _ _ _ _ _ _ _ _ _ _
      | exact impl_FieldsDrop.mono _ _ _
      | exact impl_FieldsGet.mono _ _ _
      | exact impl_FieldsOk.mono _ _
      | exact impl_FieldsPut.mono _ _ _ _
      | exact laws_qxFields.mono _ _ _
      | exact spec_DrawFieldsPut.mono _ _
      | exact spec_FieldsOk.mono _ _
      | exact spec_FieldsPut.mono _ _ _ _
      | exact LeO.none _
      | refine LeO.ite ?_ ?_
      | refine LeO.bind ?_ (fun _ => ?_)
def spec_l11Texts.l0 : Nat → List ByteArray → Int → List Int → Int → Option (List ByteArray × Int)
  | 0, _, _, _, _ => none
  | k + 1, x5, x6, x1000, x1001 => if x6 > 0 then ((spec_l11Text.f k x1000 x1001).bind fun bt759 => (if x5.length < 8796093022208 then (spec_l11Texts.l0 k (x5 ++ [bt759.1]) (wrap64 (x6 - 1)) x1000 bt759.2) else (none))) else (some (x5, x1001))
def spec_l11Texts.f (k : Nat) (s0_0 : List Int) (s0_1 : Int) (a1 : Int) : Option (List ByteArray × Int) := (spec_l1Rd_pick.f k s0_0 s0_1 (wrap64 (a1 + 1))).bind fun bt757 => (spec_l11Texts.l0 k (([] : List ByteArray)) bt757.1 s0_0 bt757.2)
theorem spec_l11Texts.mono_l : ∀ k, (∀ y0 y1 y2 y3, LeO (spec_l11Texts.l0 k y0 y1 y2 y3) (spec_l11Texts.l0 (k + 1) y0 y1 y2 y3))
  | 0 => fun _ _ _ _ r h => by simp [spec_l11Texts.l0] at h
  | k + 1 => by
    have ih0 := spec_l11Texts.mono_l k
    · intro y0 y1 y2 y3
      unfold spec_l11Texts.l0
      repeat' first
      | (with_reducible exact ih0 _ _ _ _)
      | (with_reducible exact spec_l11Text.mono _ _ _)
      | (with_reducible exact spec_l1Rd_pick.mono _ _ _ _)
      | (with_reducible exact LeO.refl _)
      | (with_reducible exact LeO.none _)
      | (with_reducible refine LeO.ite ?_ ?_)
      | (with_reducible refine LeO.bind ?_ (fun _ => ?_))
      | exact ih0 _ _ _ _
      | exact spec_l11Text.mono _ _ _
      | exact spec_l1Rd_pick.mono _ _ _ _
      | exact LeO.none _
      | refine LeO.ite ?_ ?_
      | refine LeO.bind ?_ (fun _ => ?_)
theorem spec_l11Texts.mono : ∀ a0 a1 a2 k, LeO (spec_l11Texts.f k a0 a1 a2) (spec_l11Texts.f (k + 1) a0 a1 a2) := by
  intro a0 a1 a2 k
  have ih0 := spec_l11Texts.mono_l k
  unfold spec_l11Texts.f
  repeat' first
      | (with_reducible exact ih0 _ _ _ _)
      | (with_reducible exact spec_l11Text.mono _ _ _)
      | (with_reducible exact spec_l1Rd_pick.mono _ _ _ _)
      | (with_reducible exact LeO.refl _)
      | (with_reducible exact LeO.none _)
      | (with_reducible refine LeO.ite ?_ ?_)
      | (with_reducible refine LeO.bind ?_ (fun _ => ?_))
      | exact ih0 _ _ _ _
      | exact spec_l11Text.mono _ _ _
      | exact spec_l1Rd_pick.mono _ _ _ _
      | exact LeO.none _
      | refine LeO.ite ?_ ?_
      | refine LeO.bind ?_ (fun _ => ?_)
def spec_l11AnyTexts.l0 : Nat → List ByteArray → List Int → Int → Option (List ByteArray × Int)
  | 0, _, _, _ => none
  | k + 1, x3, x1000, x1001 => (spec_l1Rd_pick.f k x1000 x1001 2).bind fun bt774 => (if (x3.length : Int) < (wrap64 (16 + bt774.1)) then ((spec_l1Dec.f k (x3.length : Int)).bind fun t776 => (if 1 + t776.size ≤ 9223372036854775807 then (if x3.length < 8796093022208 then (spec_l11AnyTexts.l0 k (x3 ++ [(⟨#[110]⟩ : ByteArray) ++ t776]) x1000 bt774.2) else (none)) else (none))) else (some (x3, bt774.2)))
def spec_l11AnyTexts.f (k : Nat) (s0_0 : List Int) (s0_1 : Int) : Option (List ByteArray × Int) := (spec_l11Texts.f k s0_0 s0_1 6).bind fun bt764 => ((spec_l1Rd_pick.f k s0_0 bt764.2 16).bind fun bt768 => (if bt768.1 = 0 then ((spec_l1Many.f k (⟨#[121]⟩ : ByteArray) 41).bind fun t770 => (if bt764.1.length < 8796093022208 then (some ((bt764.1 ++ [t770]), bt768.2)) else (none))) else (if bt768.1 = 1 then (spec_l11AnyTexts.l0 k bt764.1 s0_0 bt768.2) else (some (bt764.1, bt768.2)))))
theorem spec_l11AnyTexts.mono_l : ∀ k, (∀ y0 y1 y2, LeO (spec_l11AnyTexts.l0 k y0 y1 y2) (spec_l11AnyTexts.l0 (k + 1) y0 y1 y2))
  | 0 => fun _ _ _ r h => by simp [spec_l11AnyTexts.l0] at h
  | k + 1 => by
    have ih0 := spec_l11AnyTexts.mono_l k
    · intro y0 y1 y2
      unfold spec_l11AnyTexts.l0
      repeat' first
      | (with_reducible exact ih0 _ _ _)
      | (with_reducible exact spec_l11Texts.mono _ _ _ _)
      | (with_reducible exact spec_l1Dec.mono _ _)
      | (with_reducible exact spec_l1Many.mono _ _ _)
      | (with_reducible exact spec_l1Rd_pick.mono _ _ _ _)
      | (with_reducible exact LeO.refl _)
      | (with_reducible exact LeO.none _)
      | (with_reducible refine LeO.ite ?_ ?_)
      | (with_reducible refine LeO.bind ?_ (fun _ => ?_))
      | exact ih0 _ _ _
      | exact spec_l11Texts.mono _ _ _ _
      | exact spec_l1Dec.mono _ _
      | exact spec_l1Many.mono _ _ _
      | exact spec_l1Rd_pick.mono _ _ _ _
      | exact LeO.none _
      | refine LeO.ite ?_ ?_
      | refine LeO.bind ?_ (fun _ => ?_)
theorem spec_l11AnyTexts.mono : ∀ a0 a1 k, LeO (spec_l11AnyTexts.f k a0 a1) (spec_l11AnyTexts.f (k + 1) a0 a1) := by
  intro a0 a1 k
  have ih0 := spec_l11AnyTexts.mono_l k
  unfold spec_l11AnyTexts.f
  repeat' first
      | (with_reducible exact ih0 _ _ _)
      | (with_reducible exact spec_l11Texts.mono _ _ _ _)
      | (with_reducible exact spec_l1Dec.mono _ _)
      | (with_reducible exact spec_l1Many.mono _ _ _)
      | (with_reducible exact spec_l1Rd_pick.mono _ _ _ _)
      | (with_reducible exact LeO.refl _)
      | (with_reducible exact LeO.none _)
      | (with_reducible refine LeO.ite ?_ ?_)
      | (with_reducible refine LeO.bind ?_ (fun _ => ?_))
      | exact ih0 _ _ _
      | exact spec_l11Texts.mono _ _ _ _
      | exact spec_l1Dec.mono _ _
      | exact spec_l1Many.mono _ _ _
      | exact spec_l1Rd_pick.mono _ _ _ _
      | exact LeO.none _
      | refine LeO.ite ?_ ?_
      | refine LeO.bind ?_ (fun _ => ?_)
def spec_l11Set.l0 : Nat → List ByteArray → List ByteArray → Int → List Int → Int → Option (List ByteArray × Int)
  | 0, _, _, _, _, _ => none
  | k + 1, x3, x4, x5, x1000, x1001 => if x5 < (x4.length : Int) then (if 0 ≤ x5 then (if ((rdOf ByteArray.empty x4 x5).size : Int) ≤ 40 then ((spec_l2Put.f k x3 (rdOf ByteArray.empty x4 x5)).bind fun t789 => (spec_l11Set.l0 k t789 x4 (wrap64 (x5 + 1)) x1000 x1001)) else (spec_l11Set.l0 k x3 x4 (wrap64 (x5 + 1)) x1000 x1001)) else (none)) else (some (x3, x1001))
def spec_l11Set.f (k : Nat) (s0_0 : List Int) (s0_1 : Int) : Option (List ByteArray × Int) := (spec_l11AnyTexts.f k s0_0 s0_1).bind fun bt783 => (spec_l11Set.l0 k (([] : List ByteArray)) bt783.1 0 s0_0 bt783.2)
theorem spec_l11Set.mono_l : ∀ k, (∀ y0 y1 y2 y3 y4, LeO (spec_l11Set.l0 k y0 y1 y2 y3 y4) (spec_l11Set.l0 (k + 1) y0 y1 y2 y3 y4))
  | 0 => fun _ _ _ _ _ r h => by simp [spec_l11Set.l0] at h
  | k + 1 => by
    have ih0 := spec_l11Set.mono_l k
    · intro y0 y1 y2 y3 y4
      unfold spec_l11Set.l0
      repeat' first
      | (with_reducible exact ih0 _ _ _ _ _)
      | (with_reducible exact spec_l11AnyTexts.mono _ _ _)
      | (with_reducible exact spec_l2Put.mono _ _ _)
      | (with_reducible exact LeO.refl _)
      | (with_reducible exact LeO.none _)
      | (with_reducible refine LeO.ite ?_ ?_)
      | (with_reducible refine LeO.bind ?_ (fun _ => ?_))
      | exact ih0 _ _ _ _ _
      | exact spec_l11AnyTexts.mono _ _ _
      | exact spec_l2Put.mono _ _ _
      | exact LeO.none _
      | refine LeO.ite ?_ ?_
      | refine LeO.bind ?_ (fun _ => ?_)
theorem spec_l11Set.mono : ∀ a0 a1 k, LeO (spec_l11Set.f k a0 a1) (spec_l11Set.f (k + 1) a0 a1) := by
  intro a0 a1 k
  have ih0 := spec_l11Set.mono_l k
  unfold spec_l11Set.f
  repeat' first
      | (with_reducible exact ih0 _ _ _ _ _)
      | (with_reducible exact spec_l11AnyTexts.mono _ _ _)
      | (with_reducible exact spec_l2Put.mono _ _ _)
      | (with_reducible exact LeO.refl _)
      | (with_reducible exact LeO.none _)
      | (with_reducible refine LeO.ite ?_ ?_)
      | (with_reducible refine LeO.bind ?_ (fun _ => ?_))
      | exact ih0 _ _ _ _ _
      | exact spec_l11AnyTexts.mono _ _ _
      | exact spec_l2Put.mono _ _ _
      | exact LeO.none _
      | refine LeO.ite ?_ ?_
      | refine LeO.bind ?_ (fun _ => ?_)
def spec_l11AnySet.f (k : Nat) (s0_0 : List Int) (s0_1 : Int) : Option (List ByteArray × Int) := (spec_l1Rd_pick.f k s0_0 s0_1 10).bind fun bt792 => (if bt792.1 = 0 then ((spec_l11AnyTexts.f k s0_0 bt792.2).bind fun bt794 => (some (bt794.1, bt794.2))) else ((spec_l11Set.f k s0_0 bt792.2).bind fun bt798 => (some (bt798.1, bt798.2))))
theorem spec_l11AnySet.mono : ∀ a0 a1 k, LeO (spec_l11AnySet.f k a0 a1) (spec_l11AnySet.f (k + 1) a0 a1) := by
  intro a0 a1 k
  unfold spec_l11AnySet.f
  repeat' first
      | (with_reducible exact spec_l11AnyTexts.mono _ _ _)
      | (with_reducible exact spec_l11Set.mono _ _ _)
      | (with_reducible exact spec_l1Rd_pick.mono _ _ _ _)
      | (with_reducible exact LeO.refl _)
      | (with_reducible exact LeO.none _)
      | (with_reducible refine LeO.ite ?_ ?_)
      | (with_reducible refine LeO.bind ?_ (fun _ => ?_))
      | exact spec_l11AnyTexts.mono _ _ _
      | exact spec_l11Set.mono _ _ _
      | exact spec_l1Rd_pick.mono _ _ _ _
      | exact LeO.none _
      | refine LeO.ite ?_ ?_
      | refine LeO.bind ?_ (fun _ => ?_)
def spec_DrawSetAdd.f (k : Nat) (l0 : List Int) : Option (List ByteArray × List ByteArray) := (spec_l1Open.f l0).bind fun bt802 => ((spec_l11AnySet.f k bt802.1 bt802.2).bind fun bt805 => ((spec_l11AnyTexts.f k bt802.1 bt805.2).bind fun bt809 => (some (bt805.1, bt809.1))))
theorem spec_DrawSetAdd.mono : ∀ a0 k, LeO (spec_DrawSetAdd.f k a0) (spec_DrawSetAdd.f (k + 1) a0) := by
  intro a0 k
  unfold spec_DrawSetAdd.f
  repeat' first
      | (with_reducible exact spec_l11AnySet.mono _ _ _)
      | (with_reducible exact spec_l11AnyTexts.mono _ _ _)
      | (with_reducible exact LeO.refl _)
      | (with_reducible exact LeO.none _)
      | (with_reducible refine LeO.ite ?_ ?_)
      | (with_reducible refine LeO.bind ?_ (fun _ => ?_))
      | exact spec_l11AnySet.mono _ _ _
      | exact spec_l11AnyTexts.mono _ _ _
      | exact LeO.none _
      | refine LeO.ite ?_ ?_
      | refine LeO.bind ?_ (fun _ => ?_)
def laws_qxTexts.l0 : Nat → List ByteArray → List ByteArray → Int → Option (Bool)
  | 0, _, _, _ => none
  | k + 1, x0, x1, x5 => if x5 < (x0.length : Int) then (if 0 ≤ x5 then (if x5 < (x1.length : Int) then (if (rdOf ByteArray.empty x0 x5).toList = (rdOf ByteArray.empty x1 x5).toList then (laws_qxTexts.l0 k x0 x1 (wrap64 (x5 + 1))) else (some false)) else (none)) else (none)) else (some true)
def laws_qxTexts.f (k : Nat) (l0 : List ByteArray) (l1 : List ByteArray) : Option (Bool) := if (l0.length : Int) = (l1.length : Int) then (laws_qxTexts.l0 k l0 l1 0) else (some false)
theorem laws_qxTexts.mono_l : ∀ k, (∀ y0 y1 y2, LeO (laws_qxTexts.l0 k y0 y1 y2) (laws_qxTexts.l0 (k + 1) y0 y1 y2))
  | 0 => fun _ _ _ r h => by simp [laws_qxTexts.l0] at h
  | k + 1 => by
    have ih0 := laws_qxTexts.mono_l k
    · intro y0 y1 y2
      unfold laws_qxTexts.l0
      repeat' first
      | (with_reducible exact ih0 _ _ _)
      | (with_reducible exact LeO.refl _)
      | (with_reducible exact LeO.none _)
      | (with_reducible refine LeO.ite ?_ ?_)
      | (with_reducible refine LeO.bind ?_ (fun _ => ?_))
      | exact ih0 _ _ _
      | exact LeO.none _
      | refine LeO.ite ?_ ?_
      | refine LeO.bind ?_ (fun _ => ?_)
theorem laws_qxTexts.mono : ∀ a0 a1 k, LeO (laws_qxTexts.f k a0 a1) (laws_qxTexts.f (k + 1) a0 a1) := by
  intro a0 a1 k
  have ih0 := laws_qxTexts.mono_l k
  unfold laws_qxTexts.f
  repeat' first
      | (with_reducible exact ih0 _ _ _)
      | (with_reducible exact LeO.refl _)
      | (with_reducible exact LeO.none _)
      | (with_reducible refine LeO.ite ?_ ?_)
      | (with_reducible refine LeO.bind ?_ (fun _ => ?_))
      | exact ih0 _ _ _
      | exact LeO.none _
      | refine LeO.ite ?_ ?_
      | refine LeO.bind ?_ (fun _ => ?_)
def laws_qxHas.l0 : Nat → List ByteArray → ByteArray → Int → Option (Bool)
  | 0, _, _, _ => none
  | k + 1, x0, x1, x5 => if x5 < (x0.length : Int) then (if 0 ≤ x5 then (if (rdOf ByteArray.empty x0 x5).toList = x1.toList then (some true) else (laws_qxHas.l0 k x0 x1 (wrap64 (x5 + 1)))) else (none)) else (some false)
def laws_qxHas.f (k : Nat) (l0 : List ByteArray) (a1 : ByteArray) : Option (Bool) := laws_qxHas.l0 k l0 a1 0
theorem laws_qxHas.mono_l : ∀ k, (∀ y0 y1 y2, LeO (laws_qxHas.l0 k y0 y1 y2) (laws_qxHas.l0 (k + 1) y0 y1 y2))
  | 0 => fun _ _ _ r h => by simp [laws_qxHas.l0] at h
  | k + 1 => by
    have ih0 := laws_qxHas.mono_l k
    · intro y0 y1 y2
      unfold laws_qxHas.l0
      repeat' first
      | (with_reducible exact ih0 _ _ _)
      | (with_reducible exact LeO.refl _)
      | (with_reducible exact LeO.none _)
      | (with_reducible refine LeO.ite ?_ ?_)
      | (with_reducible refine LeO.bind ?_ (fun _ => ?_))
      | exact ih0 _ _ _
      | exact LeO.none _
      | refine LeO.ite ?_ ?_
      | refine LeO.bind ?_ (fun _ => ?_)
theorem laws_qxHas.mono : ∀ a0 a1 k, LeO (laws_qxHas.f k a0 a1) (laws_qxHas.f (k + 1) a0 a1) := by
  intro a0 a1 k
  have ih0 := laws_qxHas.mono_l k
  unfold laws_qxHas.f
  repeat' first
      | (with_reducible exact ih0 _ _ _)
      | (with_reducible exact LeO.refl _)
      | (with_reducible exact LeO.none _)
      | (with_reducible refine LeO.ite ?_ ?_)
      | (with_reducible refine LeO.bind ?_ (fun _ => ?_))
      | exact ih0 _ _ _
      | exact LeO.none _
      | refine LeO.ite ?_ ?_
      | refine LeO.bind ?_ (fun _ => ?_)
mutual
def laws_FnSetAdd.j0 : Nat → List ByteArray → List ByteArray → List ByteArray → Int → Bool → List ByteArray → Int → Bool → Bool → Option (Bool)
  | 0, _, _, _, _, _, _, _, _, _ => none
  | k + 1, x3, x4, x5, x6, x7, x8, x9, x10, x62 => if x62 = true then (if (x7 == x10) = true then (if x6 = x9 then ((laws_qxTexts.f k x5 x8).bind fun t835 => (if t835 = true then ((impl_SetOk.f k x3).bind fun t836 => ((spec_SetOk.f k x3).bind fun t837 => (some (t836 == t837)))) else (some false))) else (some false)) else (some false)) else (laws_FnSetAdd.l0 k x3 x4 x5 x6 0)
def laws_FnSetAdd.l0 : Nat → List ByteArray → List ByteArray → List ByteArray → Int → Int → Option (Bool)
  | 0, _, _, _, _, _ => none
  | k + 1, x3, x4, x5, x6, x11 => if x11 < (x4.length : Int) then (if 0 ≤ x11 then ((laws_qxHas.f k x5 (rdOf ByteArray.empty x4 x11)).bind fun t839 => (if t839 = true then (laws_FnSetAdd.l0 k x3 x4 x5 x6 (wrap64 (x11 + 1))) else (some false))) else (none)) else (laws_FnSetAdd.l1 k x3 x4 x5 x6 0)
def laws_FnSetAdd.l1 : Nat → List ByteArray → List ByteArray → List ByteArray → Int → Int → Option (Bool)
  | 0, _, _, _, _, _ => none
  | k + 1, x3, x4, x5, x6, x12 => if x12 < (x5.length : Int) then (if 0 ≤ x12 then ((laws_qxHas.f k x3 (rdOf ByteArray.empty x5 x12)).bind fun t848 => (if t848 = true then (laws_FnSetAdd.l1 k x3 x4 x5 x6 (wrap64 (x12 + 1))) else ((laws_qxHas.f k x4 (rdOf ByteArray.empty x5 x12)).bind fun t850 => (if t850 = true then (laws_FnSetAdd.l1 k x3 x4 x5 x6 (wrap64 (x12 + 1))) else (some false))))) else (none)) else ((impl_SetAdd.f k x5 x4).bind fun bt840 => ((impl_SetOk.f k x5).bind fun t845 => (if t845 = true then (if (x5.length : Int) = (wrap64 ((x3.length : Int) + x6)) then (if bt840.2.1 = 0 then ((laws_qxTexts.f k bt840.1 x5).bind fun t846 => (some t846)) else (some false)) else (some false)) else (some false))))
end
def laws_FnSetAdd.f (k : Nat) (l0 : List Int) : Option (Bool) := if (l0.length : Int) > 1048576 then (some true) else ((spec_DrawSetAdd.f k l0).bind fun bt816 => ((impl_SetAdd.f k bt816.1 bt816.2).bind fun bt822 => ((spec_SetAdd.f k bt816.1 bt816.2).bind fun bt827 => (if (bt822.2.2 != bt827.2.2) = true then (laws_FnSetAdd.j0 k bt816.1 bt816.2 bt822.1 bt822.2.1 bt822.2.2 bt827.1 bt827.2.1 bt827.2.2 true) else (if bt822.2.1 = bt827.2.1 then ((laws_qxTexts.f k bt822.1 bt827.1).bind fun t832 => (if t832 = true then ((impl_SetOk.f k bt816.1).bind fun t833 => ((spec_SetOk.f k bt816.1).bind fun t834 => (if (t833 != t834) = true then (laws_FnSetAdd.j0 k bt816.1 bt816.2 bt822.1 bt822.2.1 bt822.2.2 bt827.1 bt827.2.1 bt827.2.2 true) else (laws_FnSetAdd.j0 k bt816.1 bt816.2 bt822.1 bt822.2.1 bt822.2.2 bt827.1 bt827.2.1 bt827.2.2 (!bt822.2.2))))) else (laws_FnSetAdd.j0 k bt816.1 bt816.2 bt822.1 bt822.2.1 bt822.2.2 bt827.1 bt827.2.1 bt827.2.2 true))) else (laws_FnSetAdd.j0 k bt816.1 bt816.2 bt822.1 bt822.2.1 bt822.2.2 bt827.1 bt827.2.1 bt827.2.2 true))))))
theorem laws_FnSetAdd.mono_l : ∀ k, (∀ y0 y1 y2 y3 y4 y5 y6 y7 y8, LeO (laws_FnSetAdd.j0 k y0 y1 y2 y3 y4 y5 y6 y7 y8) (laws_FnSetAdd.j0 (k + 1) y0 y1 y2 y3 y4 y5 y6 y7 y8)) ∧ (∀ y0 y1 y2 y3 y4, LeO (laws_FnSetAdd.l0 k y0 y1 y2 y3 y4) (laws_FnSetAdd.l0 (k + 1) y0 y1 y2 y3 y4)) ∧ (∀ y0 y1 y2 y3 y4, LeO (laws_FnSetAdd.l1 k y0 y1 y2 y3 y4) (laws_FnSetAdd.l1 (k + 1) y0 y1 y2 y3 y4))
  | 0 => ⟨fun _ _ _ _ _ _ _ _ _ r h => by simp [laws_FnSetAdd.j0] at h, fun _ _ _ _ _ r h => by simp [laws_FnSetAdd.l0] at h, fun _ _ _ _ _ r h => by simp [laws_FnSetAdd.l1] at h⟩
  | k + 1 => by
    obtain ⟨ih0, ih1, ih2⟩ := laws_FnSetAdd.mono_l k
    refine ⟨?_, ?_, ?_⟩
    · intro y0 y1 y2 y3 y4 y5 y6 y7 y8
      unfold laws_FnSetAdd.j0
      repeat' first
      | (with_reducible exact ih0 _ _ _ _ _ _ _ _ _)
      | (with_reducible exact ih1 _ _ _ _ _)
      | (with_reducible exact ih2 _ _ _ _ _)
      | (with_reducible exact impl_SetAdd.mono _ _ _)
      | (with_reducible exact impl_SetOk.mono _ _)
      | (with_reducible exact laws_qxHas.mono _ _ _)
      | (with_reducible exact laws_qxTexts.mono _ _ _)
      | (with_reducible exact spec_DrawSetAdd.mono _ _)
      | (with_reducible exact spec_SetAdd.mono _ _ _)
      | (with_reducible exact spec_SetOk.mono _ _)
      | (with_reducible exact LeO.refl _)
      | (with_reducible exact LeO.none _)
      | (with_reducible refine LeO.ite ?_ ?_)
      | (with_reducible refine LeO.bind ?_ (fun _ => ?_))
      | exact ih0 _ _ _ _ _ _ _ _ _
      | exact ih1 _ _ _ _ _
      | exact ih2 _ _ _ _ _
      | exact impl_SetAdd.mono _ _ _
      | exact impl_SetOk.mono _ _
      | exact laws_qxHas.mono _ _ _
      | exact laws_qxTexts.mono _ _ _
      | exact spec_DrawSetAdd.mono _ _
      | exact spec_SetAdd.mono _ _ _
      | exact spec_SetOk.mono _ _
      | exact LeO.none _
      | refine LeO.ite ?_ ?_
      | refine LeO.bind ?_ (fun _ => ?_)
    · intro y0 y1 y2 y3 y4
      unfold laws_FnSetAdd.l0
      repeat' first
      | (with_reducible exact ih0 _ _ _ _ _ _ _ _ _)
      | (with_reducible exact ih1 _ _ _ _ _)
      | (with_reducible exact ih2 _ _ _ _ _)
      | (with_reducible exact impl_SetAdd.mono _ _ _)
      | (with_reducible exact impl_SetOk.mono _ _)
      | (with_reducible exact laws_qxHas.mono _ _ _)
      | (with_reducible exact laws_qxTexts.mono _ _ _)
      | (with_reducible exact spec_DrawSetAdd.mono _ _)
      | (with_reducible exact spec_SetAdd.mono _ _ _)
      | (with_reducible exact spec_SetOk.mono _ _)
      | (with_reducible exact LeO.refl _)
      | (with_reducible exact LeO.none _)
      | (with_reducible refine LeO.ite ?_ ?_)
      | (with_reducible refine LeO.bind ?_ (fun _ => ?_))
      | exact ih0 _ _ _ _ _ _ _ _ _
      | exact ih1 _ _ _ _ _
      | exact ih2 _ _ _ _ _
      | exact impl_SetAdd.mono _ _ _
      | exact impl_SetOk.mono _ _
      | exact laws_qxHas.mono _ _ _
      | exact laws_qxTexts.mono _ _ _
      | exact spec_DrawSetAdd.mono _ _
      | exact spec_SetAdd.mono _ _ _
      | exact spec_SetOk.mono _ _
      | exact LeO.none _
      | refine LeO.ite ?_ ?_
      | refine LeO.bind ?_ (fun _ => ?_)
    · intro y0 y1 y2 y3 y4
      unfold laws_FnSetAdd.l1
      repeat' first
      | (with_reducible exact ih0 _ _ _ _ _ _ _ _ _)
      | (with_reducible exact ih1 _ _ _ _ _)
      | (with_reducible exact ih2 _ _ _ _ _)
      | (with_reducible exact impl_SetAdd.mono _ _ _)
      | (with_reducible exact impl_SetOk.mono _ _)
      | (with_reducible exact laws_qxHas.mono _ _ _)
      | (with_reducible exact laws_qxTexts.mono _ _ _)
      | (with_reducible exact spec_DrawSetAdd.mono _ _)
      | (with_reducible exact spec_SetAdd.mono _ _ _)
      | (with_reducible exact spec_SetOk.mono _ _)
      | (with_reducible exact LeO.refl _)
      | (with_reducible exact LeO.none _)
      | (with_reducible refine LeO.ite ?_ ?_)
      | (with_reducible refine LeO.bind ?_ (fun _ => ?_))
      | exact ih0 _ _ _ _ _ _ _ _ _
      | exact ih1 _ _ _ _ _
      | exact ih2 _ _ _ _ _
      | exact impl_SetAdd.mono _ _ _
      | exact impl_SetOk.mono _ _
      | exact laws_qxHas.mono _ _ _
      | exact laws_qxTexts.mono _ _ _
      | exact spec_DrawSetAdd.mono _ _
      | exact spec_SetAdd.mono _ _ _
      | exact spec_SetOk.mono _ _
      | exact LeO.none _
      | refine LeO.ite ?_ ?_
      | refine LeO.bind ?_ (fun _ => ?_)
theorem laws_FnSetAdd.mono : ∀ a0 k, LeO (laws_FnSetAdd.f k a0) (laws_FnSetAdd.f (k + 1) a0) := by
  intro a0 k
  obtain ⟨ih0, ih1, ih2⟩ := laws_FnSetAdd.mono_l k
  unfold laws_FnSetAdd.f
  repeat' first
      | (with_reducible exact ih0 _ _ _ _ _ _ _ _ _)
      | (with_reducible exact ih1 _ _ _ _ _)
      | (with_reducible exact ih2 _ _ _ _ _)
      | (with_reducible exact impl_SetAdd.mono _ _ _)
      | (with_reducible exact impl_SetOk.mono _ _)
      | (with_reducible exact laws_qxHas.mono _ _ _)
      | (with_reducible exact laws_qxTexts.mono _ _ _)
      | (with_reducible exact spec_DrawSetAdd.mono _ _)
      | (with_reducible exact spec_SetAdd.mono _ _ _)
      | (with_reducible exact spec_SetOk.mono _ _)
      | (with_reducible exact LeO.refl _)
      | (with_reducible exact LeO.none _)
      | (with_reducible refine LeO.ite ?_ ?_)
      | (with_reducible refine LeO.bind ?_ (fun _ => ?_))
      | exact ih0 _ _ _ _ _ _ _ _ _
      | exact ih1 _ _ _ _ _
      | exact ih2 _ _ _ _ _
      | exact impl_SetAdd.mono _ _ _
      | exact impl_SetOk.mono _ _
      | exact laws_qxHas.mono _ _ _
      | exact laws_qxTexts.mono _ _ _
      | exact spec_DrawSetAdd.mono _ _
      | exact spec_SetAdd.mono _ _ _
      | exact spec_SetOk.mono _ _
      | exact LeO.none _
      | refine LeO.ite ?_ ?_
      | refine LeO.bind ?_ (fun _ => ?_)
def spec_DrawFieldsDrop.f (k : Nat) (l0 : List Int) : Option ((List (S38)) × ByteArray) := (spec_l1Open.f l0).bind fun bt851 => ((spec_l11AnyFields.f k bt851.1 bt851.2).bind fun bt854 => ((spec_l11Text.f k bt851.1 bt854.2).bind fun bt858 => (some (bt854.1, bt858.1))))
theorem spec_DrawFieldsDrop.mono : ∀ a0 k, LeO (spec_DrawFieldsDrop.f k a0) (spec_DrawFieldsDrop.f (k + 1) a0) := by
  intro a0 k
  unfold spec_DrawFieldsDrop.f
  repeat' first
      | (with_reducible exact spec_l11AnyFields.mono _ _ _)
      | (with_reducible exact spec_l11Text.mono _ _ _)
      | (with_reducible exact LeO.refl _)
      | (with_reducible exact LeO.none _)
      | (with_reducible refine LeO.ite ?_ ?_)
      | (with_reducible refine LeO.bind ?_ (fun _ => ?_))
      | exact spec_l11AnyFields.mono _ _ _
      | exact spec_l11Text.mono _ _ _
      | exact LeO.none _
      | refine LeO.ite ?_ ?_
      | refine LeO.bind ?_ (fun _ => ?_)
def spec_FieldsDrop.f (k : Nat) (l0 : List (S38)) (a1 : ByteArray) : Option ((List (S38)) × Bool) := (spec_FieldsOk.f k l0).bind fun t860 => (if t860 = true then ((spec_l3At.f k l0 a1).bind fun bt861 => (if bt861.2 = true then ((some (([] : List (S38)) : List (S38))).bind fun y863 => (if 0 ≤ bt861.1 then (if bt861.1 ≤ (l0.length : Int) then ((some (l0.take (bt861.1 : Int).toNat : List (S38))).bind fun y866 => (if y863.length + y866.length < 4398046511104 then ((some (y863 ++ y866 : List (S38))).bind fun y870 => (if 0 ≤ (wrap64 (bt861.1 + 1)) then (if (wrap64 (bt861.1 + 1)) ≤ (l0.length : Int) then ((some (l0.drop ((wrap64 (bt861.1 + 1)) : Int).toNat : List (S38))).bind fun y873 => (if y870.length + y873.length < 4398046511104 then (some ((y870 ++ y873), true)) else (none))) else (none)) else (none))) else (none))) else (none)) else (none))) else ((some (([] : List (S38)) : List (S38))).bind fun y880 => (if y880.length + l0.length < 4398046511104 then (some ((y880 ++ l0), false)) else (none))))) else (some ((([] : List (S38))), false)))
theorem spec_FieldsDrop.mono : ∀ a0 a1 k, LeO (spec_FieldsDrop.f k a0 a1) (spec_FieldsDrop.f (k + 1) a0 a1) := by
  intro a0 a1 k
  unfold spec_FieldsDrop.f
  repeat' first
      | (with_reducible exact spec_FieldsOk.mono _ _)
      | (with_reducible exact spec_l3At.mono _ _ _)
      | (with_reducible exact LeO.refl _)
      | (with_reducible exact LeO.none _)
      | (with_reducible refine LeO.ite ?_ ?_)
      | (with_reducible refine LeO.bind ?_ (fun _ => ?_))
      | exact spec_FieldsOk.mono _ _
      | exact spec_l3At.mono _ _ _
      | exact LeO.none _
      | refine LeO.ite ?_ ?_
      | refine LeO.bind ?_ (fun _ => ?_)
def spec_FieldsGet.f (k : Nat) (l0 : List (S38)) (a1 : ByteArray) : Option (ByteArray × Bool) := (spec_l3At.f k l0 a1).bind fun bt889 => ((spec_FieldsOk.f k l0).bind fun t891 => (if t891 = true then (if bt889.2 = true then (if 0 ≤ bt889.1 then (if bt889.1 < (l0.length : Int) then (some ((rd_T38 l0 bt889.1).f1, true)) else (none)) else (none)) else (some ((⟨#[]⟩ : ByteArray), false))) else (some ((⟨#[]⟩ : ByteArray), false))))
theorem spec_FieldsGet.mono : ∀ a0 a1 k, LeO (spec_FieldsGet.f k a0 a1) (spec_FieldsGet.f (k + 1) a0 a1) := by
  intro a0 a1 k
  unfold spec_FieldsGet.f
  repeat' first
      | (with_reducible exact spec_FieldsOk.mono _ _)
      | (with_reducible exact spec_l3At.mono _ _ _)
      | (with_reducible exact LeO.refl _)
      | (with_reducible exact LeO.none _)
      | (with_reducible refine LeO.ite ?_ ?_)
      | (with_reducible refine LeO.bind ?_ (fun _ => ?_))
      | exact spec_FieldsOk.mono _ _
      | exact spec_l3At.mono _ _ _
      | exact LeO.none _
      | refine LeO.ite ?_ ?_
      | refine LeO.bind ?_ (fun _ => ?_)
def laws_FnFieldsDrop.j0 : Nat → List (S38) → ByteArray → List (S38) → Bool → List (S38) → Bool → ByteArray → Bool → ByteArray → Bool → Bool → Option (Bool)
  | 0, _, _, _, _, _, _, _, _, _, _, _ => none
  | k + 1, x3, x4, x5, x6, x7, x8, x9, x10, x11, x12, x73 => if x73 = true then (if (x6 == x8) = true then ((laws_qxFields.f k x5 x7).bind fun t911 => (if t911 = true then (if x9.toList = x11.toList then (some (x10 == x12)) else (some false)) else (some false))) else (some false)) else (if x6 = true then ((impl_FieldsGet.f k x5 x4).bind fun bt912 => ((impl_FieldsPut.f k x5 x4 x9).bind fun bt914 => (if x10 = true then (if bt912.2 = true then (some false) else (if bt914.2.1 = true then (if bt914.2.2 = true then ((laws_qxFields.f k bt914.1 x3).bind fun t919 => (some t919)) else (some false)) else (some false))) else (some false)))) else (if x10 = true then (some false) else ((laws_qxFields.f k x5 x3).bind fun t920 => (some t920))))
def laws_FnFieldsDrop.f (k : Nat) (l0 : List Int) : Option (Bool) := if (l0.length : Int) > 1048576 then (some true) else ((spec_DrawFieldsDrop.f k l0).bind fun bt893 => ((impl_FieldsDrop.f k bt893.1 bt893.2).bind fun bt897 => ((spec_FieldsDrop.f k bt893.1 bt893.2).bind fun bt901 => ((impl_FieldsGet.f k bt893.1 bt893.2).bind fun bt905 => ((spec_FieldsGet.f k bt893.1 bt893.2).bind fun bt907 => (if (bt897.2 != bt901.2) = true then (laws_FnFieldsDrop.j0 k bt893.1 bt893.2 bt897.1 bt897.2 bt901.1 bt901.2 bt905.1 bt905.2 bt907.1 bt907.2 true) else ((laws_qxFields.f k bt897.1 bt901.1).bind fun t909 => (if t909 = true then (if bt905.1.toList = bt907.1.toList then (if (bt905.2 != bt907.2) = true then (laws_FnFieldsDrop.j0 k bt893.1 bt893.2 bt897.1 bt897.2 bt901.1 bt901.2 bt905.1 bt905.2 bt907.1 bt907.2 true) else ((spec_FieldsOk.f k bt893.1).bind fun t910 => (laws_FnFieldsDrop.j0 k bt893.1 bt893.2 bt897.1 bt897.2 bt901.1 bt901.2 bt905.1 bt905.2 bt907.1 bt907.2 (!t910)))) else (laws_FnFieldsDrop.j0 k bt893.1 bt893.2 bt897.1 bt897.2 bt901.1 bt901.2 bt905.1 bt905.2 bt907.1 bt907.2 true)) else (laws_FnFieldsDrop.j0 k bt893.1 bt893.2 bt897.1 bt897.2 bt901.1 bt901.2 bt905.1 bt905.2 bt907.1 bt907.2 true)))))))))
theorem laws_FnFieldsDrop.mono_l : ∀ k, (∀ y0 y1 y2 y3 y4 y5 y6 y7 y8 y9 y10, LeO (laws_FnFieldsDrop.j0 k y0 y1 y2 y3 y4 y5 y6 y7 y8 y9 y10) (laws_FnFieldsDrop.j0 (k + 1) y0 y1 y2 y3 y4 y5 y6 y7 y8 y9 y10))
  | 0 => fun _ _ _ _ _ _ _ _ _ _ _ r h => by simp [laws_FnFieldsDrop.j0] at h
  | k + 1 => by
    have ih0 := laws_FnFieldsDrop.mono_l k
    · intro y0 y1 y2 y3 y4 y5 y6 y7 y8 y9 y10
      unfold laws_FnFieldsDrop.j0
      repeat' first
      | (with_reducible exact ih0 _ _ _ _ _ _ _ _ _ _ _)
      | (with_reducible exact impl_FieldsDrop.mono _ _ _)
      | (with_reducible exact impl_FieldsGet.mono _ _ _)
      | (with_reducible exact impl_FieldsPut.mono _ _ _ _)
      | (with_reducible exact laws_qxFields.mono _ _ _)
      | (with_reducible exact spec_DrawFieldsDrop.mono _ _)
      | (with_reducible exact spec_FieldsDrop.mono _ _ _)
      | (with_reducible exact spec_FieldsGet.mono _ _ _)
      | (with_reducible exact spec_FieldsOk.mono _ _)
      | (with_reducible exact LeO.refl _)
      | (with_reducible exact LeO.none _)
      | (with_reducible refine LeO.ite ?_ ?_)
      | (with_reducible refine LeO.bind ?_ (fun _ => ?_))
      | exact ih0 _ _ _ _ _ _ _ _ _ _ _
      | exact impl_FieldsDrop.mono _ _ _
      | exact impl_FieldsGet.mono _ _ _
      | exact impl_FieldsPut.mono _ _ _ _
      | exact laws_qxFields.mono _ _ _
      | exact spec_DrawFieldsDrop.mono _ _
      | exact spec_FieldsDrop.mono _ _ _
      | exact spec_FieldsGet.mono _ _ _
      | exact spec_FieldsOk.mono _ _
      | exact LeO.none _
      | refine LeO.ite ?_ ?_
      | refine LeO.bind ?_ (fun _ => ?_)
theorem laws_FnFieldsDrop.mono : ∀ a0 k, LeO (laws_FnFieldsDrop.f k a0) (laws_FnFieldsDrop.f (k + 1) a0) := by
  intro a0 k
  have ih0 := laws_FnFieldsDrop.mono_l k
  unfold laws_FnFieldsDrop.f
  repeat' first
      | (with_reducible exact ih0 _ _ _ _ _ _ _ _ _ _ _)
      | (with_reducible exact impl_FieldsDrop.mono _ _ _)
      | (with_reducible exact impl_FieldsGet.mono _ _ _)
      | (with_reducible exact impl_FieldsPut.mono _ _ _ _)
      | (with_reducible exact laws_qxFields.mono _ _ _)
      | (with_reducible exact spec_DrawFieldsDrop.mono _ _)
      | (with_reducible exact spec_FieldsDrop.mono _ _ _)
      | (with_reducible exact spec_FieldsGet.mono _ _ _)
      | (with_reducible exact spec_FieldsOk.mono _ _)
      | (with_reducible exact LeO.refl _)
      | (with_reducible exact LeO.none _)
      | (with_reducible refine LeO.ite ?_ ?_)
      | (with_reducible refine LeO.bind ?_ (fun _ => ?_))
      | exact ih0 _ _ _ _ _ _ _ _ _ _ _
      | exact impl_FieldsDrop.mono _ _ _
      | exact impl_FieldsGet.mono _ _ _
      | exact impl_FieldsPut.mono _ _ _ _
      | exact laws_qxFields.mono _ _ _
      | exact spec_DrawFieldsDrop.mono _ _
      | exact spec_FieldsDrop.mono _ _ _
      | exact spec_FieldsGet.mono _ _ _
      | exact spec_FieldsOk.mono _ _
      | exact LeO.none _
      | refine LeO.ite ?_ ?_
      | refine LeO.bind ?_ (fun _ => ?_)
def spec_DrawSetBoth.f (k : Nat) (l0 : List Int) : Option (List ByteArray × List ByteArray) := (spec_l1Open.f l0).bind fun bt921 => ((spec_l11AnySet.f k bt921.1 bt921.2).bind fun bt924 => ((spec_l11AnySet.f k bt921.1 bt924.2).bind fun bt928 => (some (bt924.1, bt928.1))))
theorem spec_DrawSetBoth.mono : ∀ a0 k, LeO (spec_DrawSetBoth.f k a0) (spec_DrawSetBoth.f (k + 1) a0) := by
  intro a0 k
  unfold spec_DrawSetBoth.f
  repeat' first
      | (with_reducible exact spec_l11AnySet.mono _ _ _)
      | (with_reducible exact LeO.refl _)
      | (with_reducible exact LeO.none _)
      | (with_reducible refine LeO.ite ?_ ?_)
      | (with_reducible refine LeO.bind ?_ (fun _ => ?_))
      | exact spec_l11AnySet.mono _ _ _
      | exact LeO.none _
      | refine LeO.ite ?_ ?_
      | refine LeO.bind ?_ (fun _ => ?_)
def slices_Index_string_string.l0 : Nat → List ByteArray → ByteArray → Int → Int → Option (Int)
  | 0, _, _, _, _ => none
  | k + 1, x0, x1, x7, x8 => if x8 < x7 then (if 0 ≤ x8 then (if x8 < (x0.length : Int) then (if x1.toList = (rdOf ByteArray.empty x0 x8).toList then (some x8) else (slices_Index_string_string.l0 k x0 x1 x7 (wrap64 (x8 + 1)))) else (none)) else (none)) else (some (-1))
def slices_Index_string_string.f (k : Nat) (l0 : List ByteArray) (a1 : ByteArray) : Option (Int) := slices_Index_string_string.l0 k l0 a1 (l0.length : Int) 0
theorem slices_Index_string_string.mono_l : ∀ k, (∀ y0 y1 y2 y3, LeO (slices_Index_string_string.l0 k y0 y1 y2 y3) (slices_Index_string_string.l0 (k + 1) y0 y1 y2 y3))
  | 0 => fun _ _ _ _ r h => by simp [slices_Index_string_string.l0] at h
  | k + 1 => by
    have ih0 := slices_Index_string_string.mono_l k
    · intro y0 y1 y2 y3
      unfold slices_Index_string_string.l0
      repeat' first
      | (with_reducible exact ih0 _ _ _ _)
      | (with_reducible exact LeO.refl _)
      | (with_reducible exact LeO.none _)
      | (with_reducible refine LeO.ite ?_ ?_)
      | (with_reducible refine LeO.bind ?_ (fun _ => ?_))
      | exact ih0 _ _ _ _
      | exact LeO.none _
      | refine LeO.ite ?_ ?_
      | refine LeO.bind ?_ (fun _ => ?_)
theorem slices_Index_string_string.mono : ∀ a0 a1 k, LeO (slices_Index_string_string.f k a0 a1) (slices_Index_string_string.f (k + 1) a0 a1) := by
  intro a0 a1 k
  have ih0 := slices_Index_string_string.mono_l k
  unfold slices_Index_string_string.f
  repeat' first
      | (with_reducible exact ih0 _ _ _ _)
      | (with_reducible exact LeO.refl _)
      | (with_reducible exact LeO.none _)
      | (with_reducible refine LeO.ite ?_ ?_)
      | (with_reducible refine LeO.bind ?_ (fun _ => ?_))
      | exact ih0 _ _ _ _
      | exact LeO.none _
      | refine LeO.ite ?_ ?_
      | refine LeO.bind ?_ (fun _ => ?_)
def slices_Contains_string_string.f (k : Nat) (l0 : List ByteArray) (a1 : ByteArray) : Option (Bool) := (slices_Index_string_string.f k l0 a1).bind fun t933 => (some (decide (t933 ≥ 0)))
theorem slices_Contains_string_string.mono : ∀ a0 a1 k, LeO (slices_Contains_string_string.f k a0 a1) (slices_Contains_string_string.f (k + 1) a0 a1) := by
  intro a0 a1 k
  unfold slices_Contains_string_string.f
  repeat' first
      | (with_reducible exact slices_Index_string_string.mono _ _ _)
      | (with_reducible exact LeO.refl _)
      | (with_reducible exact LeO.none _)
      | (with_reducible refine LeO.ite ?_ ?_)
      | (with_reducible refine LeO.bind ?_ (fun _ => ?_))
      | exact slices_Index_string_string.mono _ _ _
      | exact LeO.none _
      | refine LeO.ite ?_ ?_
      | refine LeO.bind ?_ (fun _ => ?_)
def impl_chosen.l0 : Nat → List ByteArray → Bool → List ByteArray → List ByteArray → Int → Int → Option (List ByteArray)
  | 0, _, _, _, _, _, _ => none
  | k + 1, x1, x2, x7, x11, x12, x13 => if x13 < x12 then (if 0 ≤ x13 then (if x13 < (x11.length : Int) then ((slices_Contains_string_string.f k x1 (rdOf ByteArray.empty x11 x13)).bind fun t938 => (if (t938 == x2) = true then (if x7.length < 8796093022208 then (impl_chosen.l0 k x1 x2 (x7 ++ [rdOf ByteArray.empty x11 x13]) x11 x12 (wrap64 (x13 + 1))) else (none)) else (impl_chosen.l0 k x1 x2 x7 x11 x12 (wrap64 (x13 + 1))))) else (none)) else (none)) else (some x7)
def impl_chosen.f (k : Nat) (l0 : List ByteArray) (l1 : List ByteArray) (a2 : Bool) : Option (List ByteArray) := impl_chosen.l0 k l1 a2 (([] : List ByteArray)) l0 (l0.length : Int) 0
theorem impl_chosen.mono_l : ∀ k, (∀ y0 y1 y2 y3 y4 y5, LeO (impl_chosen.l0 k y0 y1 y2 y3 y4 y5) (impl_chosen.l0 (k + 1) y0 y1 y2 y3 y4 y5))
  | 0 => fun _ _ _ _ _ _ r h => by simp [impl_chosen.l0] at h
  | k + 1 => by
    have ih0 := impl_chosen.mono_l k
    · intro y0 y1 y2 y3 y4 y5
      unfold impl_chosen.l0
      repeat' first
      | (with_reducible exact ih0 _ _ _ _ _ _)
      | (with_reducible exact slices_Contains_string_string.mono _ _ _)
      | (with_reducible exact LeO.refl _)
      | (with_reducible exact LeO.none _)
      | (with_reducible refine LeO.ite ?_ ?_)
      | (with_reducible refine LeO.bind ?_ (fun _ => ?_))
      | exact ih0 _ _ _ _ _ _
      | exact slices_Contains_string_string.mono _ _ _
      | exact LeO.none _
      | refine LeO.ite ?_ ?_
      | refine LeO.bind ?_ (fun _ => ?_)
theorem impl_chosen.mono : ∀ a0 a1 a2 k, LeO (impl_chosen.f k a0 a1 a2) (impl_chosen.f (k + 1) a0 a1 a2) := by
  intro a0 a1 a2 k
  have ih0 := impl_chosen.mono_l k
  unfold impl_chosen.f
  repeat' first
      | (with_reducible exact ih0 _ _ _ _ _ _)
      | (with_reducible exact slices_Contains_string_string.mono _ _ _)
      | (with_reducible exact LeO.refl _)
      | (with_reducible exact LeO.none _)
      | (with_reducible refine LeO.ite ?_ ?_)
      | (with_reducible refine LeO.bind ?_ (fun _ => ?_))
      | exact ih0 _ _ _ _ _ _
      | exact slices_Contains_string_string.mono _ _ _
      | exact LeO.none _
      | refine LeO.ite ?_ ?_
      | refine LeO.bind ?_ (fun _ => ?_)
def impl_SetBoth.f (k : Nat) (l0 : List ByteArray) (l1 : List ByteArray) : Option (List ByteArray) := (impl_SetOk.f k l0).bind fun t942 => (if t942 = true then ((impl_SetOk.f k l1).bind fun t943 => (if t943 = true then ((impl_chosen.f k l0 l1 true).bind fun t944 => (some t944)) else (some (([] : List ByteArray))))) else (some (([] : List ByteArray))))
theorem impl_SetBoth.mono : ∀ a0 a1 k, LeO (impl_SetBoth.f k a0 a1) (impl_SetBoth.f (k + 1) a0 a1) := by
  intro a0 a1 k
  unfold impl_SetBoth.f
  repeat' first
      | (with_reducible exact impl_SetOk.mono _ _)
      | (with_reducible exact impl_chosen.mono _ _ _ _)
      | (with_reducible exact LeO.refl _)
      | (with_reducible exact LeO.none _)
      | (with_reducible refine LeO.ite ?_ ?_)
      | (with_reducible refine LeO.bind ?_ (fun _ => ?_))
      | exact impl_SetOk.mono _ _
      | exact impl_chosen.mono _ _ _ _
      | exact LeO.none _
      | refine LeO.ite ?_ ?_
      | refine LeO.bind ?_ (fun _ => ?_)
def impl_SetLess.f (k : Nat) (l0 : List ByteArray) (l1 : List ByteArray) : Option (List ByteArray) := (impl_SetOk.f k l0).bind fun t953 => (if t953 = true then ((impl_SetOk.f k l1).bind fun t954 => (if t954 = true then ((impl_chosen.f k l0 l1 false).bind fun t955 => (some t955)) else (some (([] : List ByteArray))))) else (some (([] : List ByteArray))))
theorem impl_SetLess.mono : ∀ a0 a1 k, LeO (impl_SetLess.f k a0 a1) (impl_SetLess.f (k + 1) a0 a1) := by
  intro a0 a1 k
  unfold impl_SetLess.f
  repeat' first
      | (with_reducible exact impl_SetOk.mono _ _)
      | (with_reducible exact impl_chosen.mono _ _ _ _)
      | (with_reducible exact LeO.refl _)
      | (with_reducible exact LeO.none _)
      | (with_reducible refine LeO.ite ?_ ?_)
      | (with_reducible refine LeO.bind ?_ (fun _ => ?_))
      | exact impl_SetOk.mono _ _
      | exact impl_chosen.mono _ _ _ _
      | exact LeO.none _
      | refine LeO.ite ?_ ?_
      | refine LeO.bind ?_ (fun _ => ?_)
def spec_l2Has.l0 : Nat → List ByteArray → ByteArray → Int → Option (Bool)
  | 0, _, _, _ => none
  | k + 1, x0, x1, x5 => if x5 < (x0.length : Int) then (if 0 ≤ x5 then (if (rdOf ByteArray.empty x0 x5).toList = x1.toList then (some true) else (spec_l2Has.l0 k x0 x1 (wrap64 (x5 + 1)))) else (none)) else (some false)
def spec_l2Has.f (k : Nat) (l0 : List ByteArray) (a1 : ByteArray) : Option (Bool) := spec_l2Has.l0 k l0 a1 0
theorem spec_l2Has.mono_l : ∀ k, (∀ y0 y1 y2, LeO (spec_l2Has.l0 k y0 y1 y2) (spec_l2Has.l0 (k + 1) y0 y1 y2))
  | 0 => fun _ _ _ r h => by simp [spec_l2Has.l0] at h
  | k + 1 => by
    have ih0 := spec_l2Has.mono_l k
    · intro y0 y1 y2
      unfold spec_l2Has.l0
      repeat' first
      | (with_reducible exact ih0 _ _ _)
      | (with_reducible exact LeO.refl _)
      | (with_reducible exact LeO.none _)
      | (with_reducible refine LeO.ite ?_ ?_)
      | (with_reducible refine LeO.bind ?_ (fun _ => ?_))
      | exact ih0 _ _ _
      | exact LeO.none _
      | refine LeO.ite ?_ ?_
      | refine LeO.bind ?_ (fun _ => ?_)
theorem spec_l2Has.mono : ∀ a0 a1 k, LeO (spec_l2Has.f k a0 a1) (spec_l2Has.f (k + 1) a0 a1) := by
  intro a0 a1 k
  have ih0 := spec_l2Has.mono_l k
  unfold spec_l2Has.f
  repeat' first
      | (with_reducible exact ih0 _ _ _)
      | (with_reducible exact LeO.refl _)
      | (with_reducible exact LeO.none _)
      | (with_reducible refine LeO.ite ?_ ?_)
      | (with_reducible refine LeO.bind ?_ (fun _ => ?_))
      | exact ih0 _ _ _
      | exact LeO.none _
      | refine LeO.ite ?_ ?_
      | refine LeO.bind ?_ (fun _ => ?_)
mutual
def spec_SetBoth.l0 : Nat → List ByteArray → List ByteArray → List ByteArray → Int → Option (List ByteArray)
  | 0, _, _, _, _ => none
  | k + 1, x0, x1, x5, x6 => if x6 < (x0.length : Int) then ((spec_SetOk.f k x0).bind fun t968 => (if t968 = true then ((spec_SetOk.f k x1).bind fun t969 => (spec_SetBoth.j1 k x0 x1 x5 x6 t969)) else (spec_SetBoth.j1 k x0 x1 x5 x6 false))) else (spec_SetBoth.j1 k x0 x1 x5 x6 false)
def spec_SetBoth.j1 : Nat → List ByteArray → List ByteArray → List ByteArray → Int → Bool → Option (List ByteArray)
  | 0, _, _, _, _, _ => none
  | k + 1, x0, x1, x5, x6, x19 => if x19 = true then (if 0 ≤ x6 then (if x6 < (x0.length : Int) then ((spec_l2Has.f k x1 (rdOf ByteArray.empty x0 x6)).bind fun t971 => (if t971 = true then (if x5.length < 8796093022208 then (spec_SetBoth.l0 k x0 x1 (x5 ++ [rdOf ByteArray.empty x0 x6]) (wrap64 (x6 + 1))) else (none)) else (spec_SetBoth.l0 k x0 x1 x5 (wrap64 (x6 + 1))))) else (none)) else (none)) else (some x5)
end
def spec_SetBoth.f (k : Nat) (l0 : List ByteArray) (l1 : List ByteArray) : Option (List ByteArray) := spec_SetBoth.l0 k l0 l1 (([] : List ByteArray)) 0
theorem spec_SetBoth.mono_l : ∀ k, (∀ y0 y1 y2 y3, LeO (spec_SetBoth.l0 k y0 y1 y2 y3) (spec_SetBoth.l0 (k + 1) y0 y1 y2 y3)) ∧ (∀ y0 y1 y2 y3 y4, LeO (spec_SetBoth.j1 k y0 y1 y2 y3 y4) (spec_SetBoth.j1 (k + 1) y0 y1 y2 y3 y4))
  | 0 => ⟨fun _ _ _ _ r h => by simp [spec_SetBoth.l0] at h, fun _ _ _ _ _ r h => by simp [spec_SetBoth.j1] at h⟩
  | k + 1 => by
    obtain ⟨ih0, ih1⟩ := spec_SetBoth.mono_l k
    refine ⟨?_, ?_⟩
    · intro y0 y1 y2 y3
      unfold spec_SetBoth.l0
      repeat' first
      | (with_reducible exact ih0 _ _ _ _)
      | (with_reducible exact ih1 _ _ _ _ _)
      | (with_reducible exact spec_SetOk.mono _ _)
      | (with_reducible exact spec_l2Has.mono _ _ _)
      | (with_reducible exact LeO.refl _)
      | (with_reducible exact LeO.none _)
      | (with_reducible refine LeO.ite ?_ ?_)
      | (with_reducible refine LeO.bind ?_ (fun _ => ?_))
      | exact ih0 _ _ _ _
      | exact ih1 _ _ _ _ _
      | exact spec_SetOk.mono _ _
      | exact spec_l2Has.mono _ _ _
      | exact LeO.none _
      | refine LeO.ite ?_ ?_
      | refine LeO.bind ?_ (fun _ => ?_)
    · intro y0 y1 y2 y3 y4
      unfold spec_SetBoth.j1
      repeat' first
      | (with_reducible exact ih0 _ _ _ _)
      | (with_reducible exact ih1 _ _ _ _ _)
      | (with_reducible exact spec_SetOk.mono _ _)
      | (with_reducible exact spec_l2Has.mono _ _ _)
      | (with_reducible exact LeO.refl _)
      | (with_reducible exact LeO.none _)
      | (with_reducible refine LeO.ite ?_ ?_)
      | (with_reducible refine LeO.bind ?_ (fun _ => ?_))
      | exact ih0 _ _ _ _
      | exact ih1 _ _ _ _ _
      | exact spec_SetOk.mono _ _
      | exact spec_l2Has.mono _ _ _
      | exact LeO.none _
      | refine LeO.ite ?_ ?_
      | refine LeO.bind ?_ (fun _ => ?_)
theorem spec_SetBoth.mono : ∀ a0 a1 k, LeO (spec_SetBoth.f k a0 a1) (spec_SetBoth.f (k + 1) a0 a1) := by
  intro a0 a1 k
  obtain ⟨ih0, ih1⟩ := spec_SetBoth.mono_l k
  unfold spec_SetBoth.f
  repeat' first
      | (with_reducible exact ih0 _ _ _ _)
      | (with_reducible exact ih1 _ _ _ _ _)
      | (with_reducible exact spec_SetOk.mono _ _)
      | (with_reducible exact spec_l2Has.mono _ _ _)
      | (with_reducible exact LeO.refl _)
      | (with_reducible exact LeO.none _)
      | (with_reducible refine LeO.ite ?_ ?_)
      | (with_reducible refine LeO.bind ?_ (fun _ => ?_))
      | exact ih0 _ _ _ _
      | exact ih1 _ _ _ _ _
      | exact spec_SetOk.mono _ _
      | exact spec_l2Has.mono _ _ _
      | exact LeO.none _
      | refine LeO.ite ?_ ?_
      | refine LeO.bind ?_ (fun _ => ?_)
mutual
def spec_SetLess.l0 : Nat → List ByteArray → List ByteArray → List ByteArray → Int → Option (List ByteArray)
  | 0, _, _, _, _ => none
  | k + 1, x0, x1, x5, x6 => if x6 < (x0.length : Int) then ((spec_SetOk.f k x0).bind fun t979 => (if t979 = true then ((spec_SetOk.f k x1).bind fun t980 => (spec_SetLess.j1 k x0 x1 x5 x6 t980)) else (spec_SetLess.j1 k x0 x1 x5 x6 false))) else (spec_SetLess.j1 k x0 x1 x5 x6 false)
def spec_SetLess.j1 : Nat → List ByteArray → List ByteArray → List ByteArray → Int → Bool → Option (List ByteArray)
  | 0, _, _, _, _, _ => none
  | k + 1, x0, x1, x5, x6, x19 => if x19 = true then (if 0 ≤ x6 then (if x6 < (x0.length : Int) then ((spec_l2Has.f k x1 (rdOf ByteArray.empty x0 x6)).bind fun t982 => (if t982 = true then (spec_SetLess.l0 k x0 x1 x5 (wrap64 (x6 + 1))) else (if x5.length < 8796093022208 then (spec_SetLess.l0 k x0 x1 (x5 ++ [rdOf ByteArray.empty x0 x6]) (wrap64 (x6 + 1))) else (none)))) else (none)) else (none)) else (some x5)
end
def spec_SetLess.f (k : Nat) (l0 : List ByteArray) (l1 : List ByteArray) : Option (List ByteArray) := spec_SetLess.l0 k l0 l1 (([] : List ByteArray)) 0
theorem spec_SetLess.mono_l : ∀ k, (∀ y0 y1 y2 y3, LeO (spec_SetLess.l0 k y0 y1 y2 y3) (spec_SetLess.l0 (k + 1) y0 y1 y2 y3)) ∧ (∀ y0 y1 y2 y3 y4, LeO (spec_SetLess.j1 k y0 y1 y2 y3 y4) (spec_SetLess.j1 (k + 1) y0 y1 y2 y3 y4))
  | 0 => ⟨fun _ _ _ _ r h => by simp [spec_SetLess.l0] at h, fun _ _ _ _ _ r h => by simp [spec_SetLess.j1] at h⟩
  | k + 1 => by
    obtain ⟨ih0, ih1⟩ := spec_SetLess.mono_l k
    refine ⟨?_, ?_⟩
    · intro y0 y1 y2 y3
      unfold spec_SetLess.l0
      repeat' first
      | (with_reducible exact ih0 _ _ _ _)
      | (with_reducible exact ih1 _ _ _ _ _)
      | (with_reducible exact spec_SetOk.mono _ _)
      | (with_reducible exact spec_l2Has.mono _ _ _)
      | (with_reducible exact LeO.refl _)
      | (with_reducible exact LeO.none _)
      | (with_reducible refine LeO.ite ?_ ?_)
      | (with_reducible refine LeO.bind ?_ (fun _ => ?_))
      | exact ih0 _ _ _ _
      | exact ih1 _ _ _ _ _
      | exact spec_SetOk.mono _ _
      | exact spec_l2Has.mono _ _ _
      | exact LeO.none _
      | refine LeO.ite ?_ ?_
      | refine LeO.bind ?_ (fun _ => ?_)
    · intro y0 y1 y2 y3 y4
      unfold spec_SetLess.j1
      repeat' first
      | (with_reducible exact ih0 _ _ _ _)
      | (with_reducible exact ih1 _ _ _ _ _)
      | (with_reducible exact spec_SetOk.mono _ _)
      | (with_reducible exact spec_l2Has.mono _ _ _)
      | (with_reducible exact LeO.refl _)
      | (with_reducible exact LeO.none _)
      | (with_reducible refine LeO.ite ?_ ?_)
      | (with_reducible refine LeO.bind ?_ (fun _ => ?_))
      | exact ih0 _ _ _ _
      | exact ih1 _ _ _ _ _
      | exact spec_SetOk.mono _ _
      | exact spec_l2Has.mono _ _ _
      | exact LeO.none _
      | refine LeO.ite ?_ ?_
      | refine LeO.bind ?_ (fun _ => ?_)
theorem spec_SetLess.mono : ∀ a0 a1 k, LeO (spec_SetLess.f k a0 a1) (spec_SetLess.f (k + 1) a0 a1) := by
  intro a0 a1 k
  obtain ⟨ih0, ih1⟩ := spec_SetLess.mono_l k
  unfold spec_SetLess.f
  repeat' first
      | (with_reducible exact ih0 _ _ _ _)
      | (with_reducible exact ih1 _ _ _ _ _)
      | (with_reducible exact spec_SetOk.mono _ _)
      | (with_reducible exact spec_l2Has.mono _ _ _)
      | (with_reducible exact LeO.refl _)
      | (with_reducible exact LeO.none _)
      | (with_reducible refine LeO.ite ?_ ?_)
      | (with_reducible refine LeO.bind ?_ (fun _ => ?_))
      | exact ih0 _ _ _ _
      | exact ih1 _ _ _ _ _
      | exact spec_SetOk.mono _ _
      | exact spec_l2Has.mono _ _ _
      | exact LeO.none _
      | refine LeO.ite ?_ ?_
      | refine LeO.bind ?_ (fun _ => ?_)
mutual
def laws_FnSetBoth.j0 : Nat → List ByteArray → List ByteArray → List ByteArray → List ByteArray → List ByteArray → List ByteArray → Bool → Option (Bool)
  | 0, _, _, _, _, _, _, _ => none
  | k + 1, x3, x4, x5, x6, x7, x8, x62 => if x62 = true then ((spec_SetBoth.f k x3 x4).bind fun t1019 => ((laws_qxTexts.f k x5 t1019).bind fun t1022 => (if t1022 = true then ((spec_SetAny.f k x3 x4).bind fun t1023 => ((laws_qxTexts.f k x6 t1023).bind fun t1026 => (if t1026 = true then ((spec_SetLess.f k x3 x4).bind fun t1027 => ((laws_qxTexts.f k x7 t1027).bind fun t1030 => (some t1030))) else (some false)))) else (some false)))) else (laws_FnSetBoth.l0 k x3 x4 x5 x6 x7 x8 0)
def laws_FnSetBoth.l0 : Nat → List ByteArray → List ByteArray → List ByteArray → List ByteArray → List ByteArray → List ByteArray → Int → Option (Bool)
  | 0, _, _, _, _, _, _, _ => none
  | k + 1, x3, x4, x5, x6, x7, x8, x9 => if x9 < (x6.length : Int) then (if 0 ≤ x9 then ((laws_qxHas.f k x5 (rdOf ByteArray.empty x6 x9)).bind fun t1032 => (if t1032 = true then (laws_FnSetBoth.j2 k x3 x4 x5 x6 x7 x8 x9 (0 + 1)) else (laws_FnSetBoth.j2 k x3 x4 x5 x6 x7 x8 x9 0))) else (none)) else ((impl_SetBoth.f k x4 x3).bind fun t1041 => ((laws_qxTexts.f k t1041 x5).bind fun t1044 => (if t1044 = true then ((impl_SetAny.f k x4 x3).bind fun t1045 => ((laws_qxTexts.f k t1045 x6).bind fun t1048 => (if t1048 = true then (some ((x6.length : Int) == (wrap64 ((wrap64 ((x5.length : Int) + (x7.length : Int))) + (x8.length : Int))))) else (some false)))) else (some false))))
def laws_FnSetBoth.j2 : Nat → List ByteArray → List ByteArray → List ByteArray → List ByteArray → List ByteArray → List ByteArray → Int → Int → Option (Bool)
  | 0, _, _, _, _, _, _, _, _ => none
  | k + 1, x3, x4, x5, x6, x7, x8, x9, x10 => if 0 ≤ x9 then (if x9 < (x6.length : Int) then ((laws_qxHas.f k x7 (rdOf ByteArray.empty x6 x9)).bind fun t1034 => (if t1034 = true then (laws_FnSetBoth.j3 k x3 x4 x5 x6 x7 x8 x9 (wrap64 (x10 + 1))) else (laws_FnSetBoth.j3 k x3 x4 x5 x6 x7 x8 x9 x10))) else (none)) else (none)
def laws_FnSetBoth.j3 : Nat → List ByteArray → List ByteArray → List ByteArray → List ByteArray → List ByteArray → List ByteArray → Int → Int → Option (Bool)
  | 0, _, _, _, _, _, _, _, _ => none
  | k + 1, x3, x4, x5, x6, x7, x8, x9, x10 => if 0 ≤ x9 then (if x9 < (x6.length : Int) then ((laws_qxHas.f k x8 (rdOf ByteArray.empty x6 x9)).bind fun t1036 => (if t1036 = true then (if (wrap64 (x10 + 1)) = 1 then (if x9 > 0 then (if 0 ≤ (wrap64 (x9 - 1)) then (if (wrap64 (x9 - 1)) < (x6.length : Int) then (if ((Op.bytesLess ((rdOf ByteArray.empty x6 (wrap64 (x9 - 1))).toList) ((rdOf ByteArray.empty x6 x9).toList)) = true) then (laws_FnSetBoth.l0 k x3 x4 x5 x6 x7 x8 (wrap64 (x9 + 1))) else (some false)) else (none)) else (none)) else (laws_FnSetBoth.l0 k x3 x4 x5 x6 x7 x8 (wrap64 (x9 + 1)))) else (some false)) else (if x10 = 1 then (if x9 > 0 then (if 0 ≤ (wrap64 (x9 - 1)) then (if (wrap64 (x9 - 1)) < (x6.length : Int) then (if ((Op.bytesLess ((rdOf ByteArray.empty x6 (wrap64 (x9 - 1))).toList) ((rdOf ByteArray.empty x6 x9).toList)) = true) then (laws_FnSetBoth.l0 k x3 x4 x5 x6 x7 x8 (wrap64 (x9 + 1))) else (some false)) else (none)) else (none)) else (laws_FnSetBoth.l0 k x3 x4 x5 x6 x7 x8 (wrap64 (x9 + 1)))) else (some false)))) else (none)) else (none)
end
def laws_FnSetBoth.f (k : Nat) (l0 : List Int) : Option (Bool) := if (l0.length : Int) > 1048576 then (some true) else ((spec_DrawSetBoth.f k l0).bind fun bt987 => ((impl_SetBoth.f k bt987.1 bt987.2).bind fun t993 => ((impl_SetAny.f k bt987.1 bt987.2).bind fun t996 => ((impl_SetLess.f k bt987.1 bt987.2).bind fun t999 => ((impl_SetLess.f k bt987.2 bt987.1).bind fun t1002 => ((spec_SetBoth.f k bt987.1 bt987.2).bind fun t1005 => ((laws_qxTexts.f k t993 t1005).bind fun t1008 => (if t1008 = true then ((spec_SetAny.f k bt987.1 bt987.2).bind fun t1009 => ((laws_qxTexts.f k t996 t1009).bind fun t1012 => (if t1012 = true then ((spec_SetLess.f k bt987.1 bt987.2).bind fun t1013 => ((laws_qxTexts.f k t999 t1013).bind fun t1016 => (if t1016 = true then ((spec_SetOk.f k bt987.1).bind fun t1017 => (if t1017 = true then ((spec_SetOk.f k bt987.2).bind fun t1018 => (laws_FnSetBoth.j0 k bt987.1 bt987.2 t993 t996 t999 t1002 (!t1018))) else (laws_FnSetBoth.j0 k bt987.1 bt987.2 t993 t996 t999 t1002 true))) else (laws_FnSetBoth.j0 k bt987.1 bt987.2 t993 t996 t999 t1002 true)))) else (laws_FnSetBoth.j0 k bt987.1 bt987.2 t993 t996 t999 t1002 true)))) else (laws_FnSetBoth.j0 k bt987.1 bt987.2 t993 t996 t999 t1002 true)))))))))
theorem laws_FnSetBoth.mono_l : ∀ k, (∀ y0 y1 y2 y3 y4 y5 y6, LeO (laws_FnSetBoth.j0 k y0 y1 y2 y3 y4 y5 y6) (laws_FnSetBoth.j0 (k + 1) y0 y1 y2 y3 y4 y5 y6)) ∧ (∀ y0 y1 y2 y3 y4 y5 y6, LeO (laws_FnSetBoth.l0 k y0 y1 y2 y3 y4 y5 y6) (laws_FnSetBoth.l0 (k + 1) y0 y1 y2 y3 y4 y5 y6)) ∧ (∀ y0 y1 y2 y3 y4 y5 y6 y7, LeO (laws_FnSetBoth.j2 k y0 y1 y2 y3 y4 y5 y6 y7) (laws_FnSetBoth.j2 (k + 1) y0 y1 y2 y3 y4 y5 y6 y7)) ∧ (∀ y0 y1 y2 y3 y4 y5 y6 y7, LeO (laws_FnSetBoth.j3 k y0 y1 y2 y3 y4 y5 y6 y7) (laws_FnSetBoth.j3 (k + 1) y0 y1 y2 y3 y4 y5 y6 y7))
  | 0 => ⟨fun _ _ _ _ _ _ _ r h => by simp [laws_FnSetBoth.j0] at h, fun _ _ _ _ _ _ _ r h => by simp [laws_FnSetBoth.l0] at h, fun _ _ _ _ _ _ _ _ r h => by simp [laws_FnSetBoth.j2] at h, fun _ _ _ _ _ _ _ _ r h => by simp [laws_FnSetBoth.j3] at h⟩
  | k + 1 => by
    obtain ⟨ih0, ih1, ih2, ih3⟩ := laws_FnSetBoth.mono_l k
    refine ⟨?_, ?_, ?_, ?_⟩
    · intro y0 y1 y2 y3 y4 y5 y6
      unfold laws_FnSetBoth.j0
      repeat' first
      | (with_reducible exact ih0 _ _ _ _ _ _ _)
      | (with_reducible exact ih1 _ _ _ _ _ _ _)
      | (with_reducible exact ih2 _ _ _ _ _ _ _ _)
      | (with_reducible exact ih3 _ _ _ _ _ _ _ _)
      | (with_reducible exact impl_SetAny.mono _ _ _)
      | (with_reducible exact impl_SetBoth.mono _ _ _)
      | (with_reducible exact impl_SetLess.mono _ _ _)
      | (with_reducible exact laws_qxHas.mono _ _ _)
      | (with_reducible exact laws_qxTexts.mono _ _ _)
      | (with_reducible exact spec_DrawSetBoth.mono _ _)
      | (with_reducible exact spec_SetAny.mono _ _ _)
      | (with_reducible exact spec_SetBoth.mono _ _ _)
      | (with_reducible exact spec_SetLess.mono _ _ _)
      | (with_reducible exact spec_SetOk.mono _ _)
      | (with_reducible exact LeO.refl _)
      | (with_reducible exact LeO.none _)
      | (with_reducible refine LeO.ite ?_ ?_)
      | (with_reducible refine LeO.bind ?_ (fun _ => ?_))
      | exact ih0 _ _ _ _ _ _ _
      | exact ih1 _ _ _ _ _ _ _
      | exact ih2 _ _ _ _ _ _ _ _
      | exact ih3 _ _ _ _ _ _ _ _
      | exact impl_SetAny.mono _ _ _
      | exact impl_SetBoth.mono _ _ _
      | exact impl_SetLess.mono _ _ _
      | exact laws_qxHas.mono _ _ _
      | exact laws_qxTexts.mono _ _ _
      | exact spec_DrawSetBoth.mono _ _
      | exact spec_SetAny.mono _ _ _
      | exact spec_SetBoth.mono _ _ _
      | exact spec_SetLess.mono _ _ _
      | exact spec_SetOk.mono _ _
      | exact LeO.none _
      | refine LeO.ite ?_ ?_
      | refine LeO.bind ?_ (fun _ => ?_)
    · intro y0 y1 y2 y3 y4 y5 y6
      unfold laws_FnSetBoth.l0
      repeat' first
      | (with_reducible exact ih0 _ _ _ _ _ _ _)
      | (with_reducible exact ih1 _ _ _ _ _ _ _)
      | (with_reducible exact ih2 _ _ _ _ _ _ _ _)
      | (with_reducible exact ih3 _ _ _ _ _ _ _ _)
      | (with_reducible exact impl_SetAny.mono _ _ _)
      | (with_reducible exact impl_SetBoth.mono _ _ _)
      | (with_reducible exact impl_SetLess.mono _ _ _)
      | (with_reducible exact laws_qxHas.mono _ _ _)
      | (with_reducible exact laws_qxTexts.mono _ _ _)
      | (with_reducible exact spec_DrawSetBoth.mono _ _)
      | (with_reducible exact spec_SetAny.mono _ _ _)
      | (with_reducible exact spec_SetBoth.mono _ _ _)
      | (with_reducible exact spec_SetLess.mono _ _ _)
      | (with_reducible exact spec_SetOk.mono _ _)
      | (with_reducible exact LeO.refl _)
      | (with_reducible exact LeO.none _)
      | (with_reducible refine LeO.ite ?_ ?_)
      | (with_reducible refine LeO.bind ?_ (fun _ => ?_))
      | exact ih0 _ _ _ _ _ _ _
      | exact ih1 _ _ _ _ _ _ _
      | exact ih2 _ _ _ _ _ _ _ _
      | exact ih3 _ _ _ _ _ _ _ _
      | exact impl_SetAny.mono _ _ _
      | exact impl_SetBoth.mono _ _ _
      | exact impl_SetLess.mono _ _ _
      | exact laws_qxHas.mono _ _ _
      | exact laws_qxTexts.mono _ _ _
      | exact spec_DrawSetBoth.mono _ _
      | exact spec_SetAny.mono _ _ _
      | exact spec_SetBoth.mono _ _ _
      | exact spec_SetLess.mono _ _ _
      | exact spec_SetOk.mono _ _
      | exact LeO.none _
      | refine LeO.ite ?_ ?_
      | refine LeO.bind ?_ (fun _ => ?_)
    · intro y0 y1 y2 y3 y4 y5 y6 y7
      unfold laws_FnSetBoth.j2
      repeat' first
      | (with_reducible exact ih0 _ _ _ _ _ _ _)
      | (with_reducible exact ih1 _ _ _ _ _ _ _)
      | (with_reducible exact ih2 _ _ _ _ _ _ _ _)
      | (with_reducible exact ih3 _ _ _ _ _ _ _ _)
      | (with_reducible exact impl_SetAny.mono _ _ _)
      | (with_reducible exact impl_SetBoth.mono _ _ _)
      | (with_reducible exact impl_SetLess.mono _ _ _)
      | (with_reducible exact laws_qxHas.mono _ _ _)
      | (with_reducible exact laws_qxTexts.mono _ _ _)
      | (with_reducible exact spec_DrawSetBoth.mono _ _)
      | (with_reducible exact spec_SetAny.mono _ _ _)
      | (with_reducible exact spec_SetBoth.mono _ _ _)
      | (with_reducible exact spec_SetLess.mono _ _ _)
      | (with_reducible exact spec_SetOk.mono _ _)
      | (with_reducible exact LeO.refl _)
      | (with_reducible exact LeO.none _)
      | (with_reducible refine LeO.ite ?_ ?_)
      | (with_reducible refine LeO.bind ?_ (fun _ => ?_))
      | exact ih0 _ _ _ _ _ _ _
      | exact ih1 _ _ _ _ _ _ _
      | exact ih2 _ _ _ _ _ _ _ _
      | exact ih3 _ _ _ _ _ _ _ _
      | exact impl_SetAny.mono _ _ _
      | exact impl_SetBoth.mono _ _ _
      | exact impl_SetLess.mono _ _ _
      | exact laws_qxHas.mono _ _ _
      | exact laws_qxTexts.mono _ _ _
      | exact spec_DrawSetBoth.mono _ _
      | exact spec_SetAny.mono _ _ _
      | exact spec_SetBoth.mono _ _ _
      | exact spec_SetLess.mono _ _ _
      | exact spec_SetOk.mono _ _
      | exact LeO.none _
      | refine LeO.ite ?_ ?_
      | refine LeO.bind ?_ (fun _ => ?_)
    · intro y0 y1 y2 y3 y4 y5 y6 y7
      unfold laws_FnSetBoth.j3
      repeat' first
      | (with_reducible exact ih0 _ _ _ _ _ _ _)
      | (with_reducible exact ih1 _ _ _ _ _ _ _)
      | (with_reducible exact ih2 _ _ _ _ _ _ _ _)
      | (with_reducible exact ih3 _ _ _ _ _ _ _ _)
      | (with_reducible exact impl_SetAny.mono _ _ _)
      | (with_reducible exact impl_SetBoth.mono _ _ _)
      | (with_reducible exact impl_SetLess.mono _ _ _)
      | (with_reducible exact laws_qxHas.mono _ _ _)
      | (with_reducible exact laws_qxTexts.mono _ _ _)
      | (with_reducible exact spec_DrawSetBoth.mono _ _)
      | (with_reducible exact spec_SetAny.mono _ _ _)
      | (with_reducible exact spec_SetBoth.mono _ _ _)
      | (with_reducible exact spec_SetLess.mono _ _ _)
      | (with_reducible exact spec_SetOk.mono _ _)
      | (with_reducible exact LeO.refl _)
      | (with_reducible exact LeO.none _)
      | (with_reducible refine LeO.ite ?_ ?_)
      | (with_reducible refine LeO.bind ?_ (fun _ => ?_))
      | exact ih0 _ _ _ _ _ _ _
      | exact ih1 _ _ _ _ _ _ _
      | exact ih2 _ _ _ _ _ _ _ _
      | exact ih3 _ _ _ _ _ _ _ _
      | exact impl_SetAny.mono _ _ _
      | exact impl_SetBoth.mono _ _ _
      | exact impl_SetLess.mono _ _ _
      | exact laws_qxHas.mono _ _ _
      | exact laws_qxTexts.mono _ _ _
      | exact spec_DrawSetBoth.mono _ _
      | exact spec_SetAny.mono _ _ _
      | exact spec_SetBoth.mono _ _ _
      | exact spec_SetLess.mono _ _ _
      | exact spec_SetOk.mono _ _
      | exact LeO.none _
      | refine LeO.ite ?_ ?_
      | refine LeO.bind ?_ (fun _ => ?_)
theorem laws_FnSetBoth.mono : ∀ a0 k, LeO (laws_FnSetBoth.f k a0) (laws_FnSetBoth.f (k + 1) a0) := by
  intro a0 k
  obtain ⟨ih0, ih1, ih2, ih3⟩ := laws_FnSetBoth.mono_l k
  unfold laws_FnSetBoth.f
  repeat' first
      | (with_reducible exact ih0 _ _ _ _ _ _ _)
      | (with_reducible exact ih1 _ _ _ _ _ _ _)
      | (with_reducible exact ih2 _ _ _ _ _ _ _ _)
      | (with_reducible exact ih3 _ _ _ _ _ _ _ _)
      | (with_reducible exact impl_SetAny.mono _ _ _)
      | (with_reducible exact impl_SetBoth.mono _ _ _)
      | (with_reducible exact impl_SetLess.mono _ _ _)
      | (with_reducible exact laws_qxHas.mono _ _ _)
      | (with_reducible exact laws_qxTexts.mono _ _ _)
      | (with_reducible exact spec_DrawSetBoth.mono _ _)
      | (with_reducible exact spec_SetAny.mono _ _ _)
      | (with_reducible exact spec_SetBoth.mono _ _ _)
      | (with_reducible exact spec_SetLess.mono _ _ _)
      | (with_reducible exact spec_SetOk.mono _ _)
      | (with_reducible exact LeO.refl _)
      | (with_reducible exact LeO.none _)
      | (with_reducible refine LeO.ite ?_ ?_)
      | (with_reducible refine LeO.bind ?_ (fun _ => ?_))
      | exact ih0 _ _ _ _ _ _ _
      | exact ih1 _ _ _ _ _ _ _
      | exact ih2 _ _ _ _ _ _ _ _
      | exact ih3 _ _ _ _ _ _ _ _
      | exact impl_SetAny.mono _ _ _
      | exact impl_SetBoth.mono _ _ _
      | exact impl_SetLess.mono _ _ _
      | exact laws_qxHas.mono _ _ _
      | exact laws_qxTexts.mono _ _ _
      | exact spec_DrawSetBoth.mono _ _
      | exact spec_SetAny.mono _ _ _
      | exact spec_SetBoth.mono _ _ _
      | exact spec_SetLess.mono _ _ _
      | exact spec_SetOk.mono _ _
      | exact LeO.none _
      | refine LeO.ite ?_ ?_
      | refine LeO.bind ?_ (fun _ => ?_)
end Go.Proofs.Ytegelpeegbngiaa.P
namespace Go.Proofs.Ytegelpeegbngiaa.P
open Go.RowKit Go.Proofs.YtegelpeegbngiaaW.PrintWords Go.Proofs.YtegelpeegbngiaaW.PrintLast Go.Proofs.YtegelpeegbngiaaW.PrintMore
attribute [local go_sem] max2_int min2_int max_two min_two max_three min_three max_four min_four   -- for this text's walks alone
set_option linter.unusedVariables false
set_option linter.unusedSimpArgs false
set_option maxHeartbeats 8000000 in
set_option maxRecDepth 100000 in
theorem spec_l2Texts.calls (k : Nat) (A0 : Option Addr) (c0 : Nat) (l0 : List ByteArray) (r : Bool) (w : World) (hr0 : Kd.C Kd.string w A0 l0.length l0) (hc0 : l0.length ≤ c0) (h : spec_l2Texts.f k l0 = some r) :
    Calls Try.prog 51 #[.slice A0 l0.length c0] w fun e w' => e = .returned (.bool r) ∧ Drawn0 w w' := by
  have HR0 := Aside0.mk hr0
  have HC0 := Aside0.mk hc0
  clear hr0 hc0
  have H : (spec_l2Texts.l0 k l0 0) = some r := h
  clear h
  have H' := Aside0.mk H
  clear H
  go_enter Try.func51, Try.ntmps51
  go_wp2
  go_loopg [3] k (fun kq v3 w' => ∃ (x3_1 : Int), v3 = .int .i64 x3_1 ∧ Aside0 (spec_l2Texts.l0 kq l0 x3_1 = some r) ∧ Aside0 (kq ≤ k) ∧ Drawn0 w w')
  case atStart => exact ⟨(0), (by first | rfl | (simp; done) | (simp [*]; done)), H', ⟨Nat.le_refl _⟩, by repeat (first | exact Drawn0.refl _ | apply Drawn0.step)⟩
  case round =>
    clear H'
    obtain ⟨x3_1, rfl, HA, HK1, ⟨m1, rfl⟩⟩ := hrel
    cases gk with
    | zero => exact absurd HA.out (by simp [spec_l2Texts.l0])
    | succ k1 =>
      have H := HA.out
      clear HA
      simp only [spec_l2Texts.l0] at H
      by_cases c2 : x3_1 < (l0.length : Int)
      · rw [if_pos c2] at H
        have c2b0 : decide (x3_1 < (l0.length : Int)) = true := decide_eq_true c2
        clear c2
        by_cases c3 : 0 ≤ x3_1
        · rw [if_pos c3] at H
          have c3b0 : decide (0 ≤ x3_1) = true := decide_eq_true c3
          clear c3
          by_cases c4 : ((rdOf ByteArray.empty l0 x3_1).size : Int) > 40
          · rw [if_pos c4] at H
            have c4b0 : decide (40 < ((rdOf ByteArray.empty l0 x3_1).size : Int)) = true := decide_eq_true c4
            have c4b1 : decide (40 < (rdOf ByteArray.empty l0 x3_1).size) = true := decide_eq_true (by omega)
            clear c4
            obtain rfl := Option.some.inj H
            have p102 : 0 ≤ (x3_1 : Int) := of_decide_eq_true (by first | (with_reducible assumption) | assumption)
            have q102 : x3_1 < (l0.length : Int) := of_decide_eq_true (by first | (with_reducible assumption) | assumption)
            obtain ⟨ad102, e102, hx102_0⟩ := Kd.at_string HR0.out x3_1 p102 q102
            cases e102
            replace p102 := eq_true p102
            replace q102 := eq_true q102
            go_wp2
            go_ret
            exact ⟨by first | rfl | (simp; done) | (simp [*]; done), by repeat (first | exact Drawn0.refl _ | apply Drawn0.step)⟩
          · rw [if_neg c4] at H
            have c4b0 : decide (40 < ((rdOf ByteArray.empty l0 x3_1).size : Int)) = false := decide_eq_false c4
            have c4b1 : decide (40 < (rdOf ByteArray.empty l0 x3_1).size) = false := decide_eq_false (by omega)
            clear c4
            have H' := Aside0.mk H
            clear H
            have p102 : 0 ≤ (x3_1 : Int) := of_decide_eq_true (by first | (with_reducible assumption) | assumption)
            have q102 : x3_1 < (l0.length : Int) := of_decide_eq_true (by first | (with_reducible assumption) | assumption)
            obtain ⟨ad102, e102, hx102_0⟩ := Kd.at_string HR0.out x3_1 p102 q102
            cases e102
            replace p102 := eq_true p102
            replace q102 := eq_true q102
            go_wp2
            go_roundg k1
            case measure => have := HK1.out; omega
            case rel => exact ⟨(wrap64 (x3_1 + 1)), (by first | rfl | (simp; done) | (simp [*]; done)), H', ⟨by have := HK1.out; omega⟩, by repeat (first | exact Drawn0.refl _ | apply Drawn0.step)⟩
        · rw [if_neg c3] at H
          exact absurd H (by simp)
      · rw [if_neg c2] at H
        have c2b0 : decide (x3_1 < (l0.length : Int)) = false := decide_eq_false c2
        clear c2
        obtain rfl := Option.some.inj H
        go_wp2
        go_ret
        exact ⟨by first | rfl | (simp; done) | (simp [*]; done), by repeat (first | exact Drawn0.refl _ | apply Drawn0.step)⟩
end Go.Proofs.Ytegelpeegbngiaa.P
namespace Go.Proofs.Ytegelpeegbngiaa.P
open Go.RowKit Go.Proofs.YtegelpeegbngiaaW.PrintWords Go.Proofs.YtegelpeegbngiaaW.PrintLast Go.Proofs.YtegelpeegbngiaaW.PrintMore
attribute [local go_sem] max2_int min2_int max_two min_two max_three min_three max_four min_four   -- for this text's walks alone
set_option linter.unusedVariables false
set_option linter.unusedSimpArgs false
set_option maxHeartbeats 8000000 in
set_option maxRecDepth 100000 in
theorem spec_SetOk.calls (k : Nat) (A0 : Option Addr) (c0 : Nat) (l0 : List ByteArray) (r : Bool) (w : World) (hr0 : Kd.C Kd.string w A0 l0.length l0) (hc0 : l0.length ≤ c0) (h : spec_SetOk.f k l0 = some r) :
  Calls Try.prog 37 #[.slice A0 l0.length c0] w fun e w' => e = .returned (.bool r) ∧ Drawn0 w w' := by
 have HR0 := Aside0.mk hr0
 have HC0 := Aside0.mk hc0
 clear hr0 hc0
 have H : (spec_SetOk.l0 k l0 1) = some r := h
 clear h
 have H' := Aside0.mk H
 clear H
 go_enter Try.func37, Try.ntmps37
 go_wp2
 repeat (go_quiet (fail); try go_wp2)
 go_loopg [3] k (fun kq v3 w' => ∃ (x3_1 : Int), v3 = .int .i64 x3_1 ∧ Aside0 (spec_SetOk.l0 kq l0 x3_1 = some r) ∧ Aside0 (kq ≤ k) ∧ Drawn0 w w')
 case atStart => exact ⟨(1), (by first | rfl | (simp; done) | (simp [*]; done)), H', ⟨Nat.le_refl _⟩, by repeat (first | exact Drawn0.refl _ | apply Drawn0.step)⟩
 case round =>
  clear H'
  obtain ⟨x3_1, rfl, HA, HK1, ⟨m1, rfl⟩⟩ := hrel
  cases gk with
  | zero => exact absurd HA.out (by simp [spec_SetOk.l0])
  | succ k1 =>
   have H := HA.out
   clear HA
   simp only [spec_SetOk.l0] at H
   by_cases c2 : x3_1 < (l0.length : Int)
   ·rw [if_pos c2] at H
    have c2b0 : decide (x3_1 < (l0.length : Int)) = true := decide_eq_true c2
    clear c2
    obtain ⟨ji3, hji3⟩ : ∃ j_ : Int, (wrap64 (x3_1 - 1)) = j_ := ⟨_, rfl⟩
    replace H : (if 0 ≤ (ji3) then (if (ji3) < (l0.length : Int) then (if 0 ≤ x3_1 then (if ((Op.bytesLess ((rdOf ByteArray.empty l0 (ji3)).toList) ((rdOf ByteArray.empty l0 x3_1).toList)) = true) then (spec_SetOk.l0 k1 l0 (wrap64 (x3_1 + 1))) else (some false)) else (none)) else (none)) else (none)) = some r := by first | (rw [hji3] at H; exact H) | (simp only [hji3] at H ⊢; exact H)
    have hji3w : (IntKind.i64.wrap (x3_1 - 1)) = ji3 := (i64_w _).trans hji3
    by_cases c4 : 0 ≤ (ji3)
    ·rw [if_pos c4] at H
     have c4b0 : decide (0 ≤ (ji3)) = true := decide_eq_true c4
     clear c4
     by_cases c5 : (ji3) < (l0.length : Int)
     ·rw [if_pos c5] at H
      have c5b0 : decide ((ji3) < (l0.length : Int)) = true := decide_eq_true c5
      clear c5
      by_cases c6 : 0 ≤ x3_1
      ·rw [if_pos c6] at H
       have c6b0 : decide (0 ≤ x3_1) = true := decide_eq_true c6
       clear c6
       by_cases c7 : ((Op.bytesLess ((rdOf ByteArray.empty l0 (ji3)).toList) ((rdOf ByteArray.empty l0 x3_1).toList)) = true)
       ·rw [if_pos c7] at H
        have c7b0 : (Op.bytesLess ((rdOf ByteArray.empty l0 (ji3)).toList) ((rdOf ByteArray.empty l0 x3_1).toList)) = true := c7
        clear c7
        have H' := Aside0.mk H
        clear H
        have p103 : 0 ≤ ((ji3) : Int) := of_decide_eq_true (by first | (with_reducible assumption) | assumption)
        have q103 : (ji3) < (l0.length : Int) := of_decide_eq_true (by first | (with_reducible assumption) | assumption)
        obtain ⟨ad103, e103, hx103_0⟩ := Kd.at_string HR0.out (ji3) p103 q103
        cases e103
        replace p103 := eq_true p103
        replace q103 := eq_true q103
        have p104 : 0 ≤ (x3_1 : Int) := of_decide_eq_true (by first | (with_reducible assumption) | assumption)
        have q104 : x3_1 < (l0.length : Int) := of_decide_eq_true (by first | (with_reducible assumption) | assumption)
        obtain ⟨ad104, e104, hx104_0⟩ := Kd.at_string HR0.out x3_1 p104 q104
        obtain rfl : ad103 = ad104 := (by injection e104)
        replace p104 := eq_true p104
        replace q104 := eq_true q104
        go_wp2
        repeat (go_quiet (fail); try go_wp2)
        go_roundg k1
        case measure => have := HK1.out; omega
        case rel => exact ⟨(wrap64 (x3_1 + 1)), (by first | rfl | (simp; done) | (simp [*]; done)), H', ⟨by have := HK1.out; omega⟩, by repeat (first | exact Drawn0.refl _ | apply Drawn0.step)⟩
       ·rw [if_neg c7] at H
        have c7b0 : (Op.bytesLess ((rdOf ByteArray.empty l0 (ji3)).toList) ((rdOf ByteArray.empty l0 x3_1).toList)) = false := by simpa using c7
        clear c7
        obtain rfl := Option.some.inj H
        have p103 : 0 ≤ ((ji3) : Int) := of_decide_eq_true (by first | (with_reducible assumption) | assumption)
        have q103 : (ji3) < (l0.length : Int) := of_decide_eq_true (by first | (with_reducible assumption) | assumption)
        obtain ⟨ad103, e103, hx103_0⟩ := Kd.at_string HR0.out (ji3) p103 q103
        cases e103
        replace p103 := eq_true p103
        replace q103 := eq_true q103
        have p104 : 0 ≤ (x3_1 : Int) := of_decide_eq_true (by first | (with_reducible assumption) | assumption)
        have q104 : x3_1 < (l0.length : Int) := of_decide_eq_true (by first | (with_reducible assumption) | assumption)
        obtain ⟨ad104, e104, hx104_0⟩ := Kd.at_string HR0.out x3_1 p104 q104
        obtain rfl : ad103 = ad104 := (by injection e104)
        replace p104 := eq_true p104
        replace q104 := eq_true q104
        go_wp2
        repeat (go_quiet (fail); try go_wp2)
        go_ret
        exact ⟨by first | rfl | (simp; done) | (simp only [← hji3] <;> (first | rfl | simp)) | (simp [*]; done), by repeat (first | exact Drawn0.refl _ | apply Drawn0.step)⟩
      ·rw [if_neg c6] at H
       exact absurd H (by simp)
     ·rw [if_neg c5] at H
      exact absurd H (by simp)
    ·rw [if_neg c4] at H
     exact absurd H (by simp)
   ·rw [if_neg c2] at H
    have c2b0 : decide (x3_1 < (l0.length : Int)) = false := decide_eq_false c2
    clear c2
    replace H := Option.bind_eq_some_iff.mp H
    obtain ⟨t105, A80, H⟩ := H
    replace H : (some t105) = some r := H
    have A8 := Aside0.mk A80
    clear A80
    obtain rfl := Option.some.inj H
    go_wp2_with (first | (go_at_call 51; (with_reducible refine (spec_l2Texts.calls k1 _ _ l0 t105 _ ?side1 ?side2 A8.out).mono ?_); (case side1 => repeat (first | exact HR0.out | (with_reducible refine Kd.C_alloc ?_ _) | (with_reducible refine Kd.C_drewN ?_ _) | (with_reducible refine Kd.C_drew ?_))); (case side2 => exact HC0.out); rintro e w' ⟨rfl, ⟨nd, rfl⟩⟩; (try first | exact ⟨rfl, _, World.drewN_drewN _ _ _⟩ | exact ⟨rfl, _, Eq.trans (World.drewN_drewN _ _ _) (congrArg (World.drewN _) (Nat.add_assoc _ _ _))⟩)))
    repeat (go_quiet (first | (go_at_call 51; (with_reducible refine (spec_l2Texts.calls k1 _ _ l0 t105 _ ?side1 ?side2 A8.out).mono ?_); (case side1 => repeat (first | exact HR0.out | (with_reducible refine Kd.C_alloc ?_ _) | (with_reducible refine Kd.C_drewN ?_ _) | (with_reducible refine Kd.C_drew ?_))); (case side2 => exact HC0.out); rintro e w' ⟨rfl, ⟨nd, rfl⟩⟩; (try first | exact ⟨rfl, _, World.drewN_drewN _ _ _⟩ | exact ⟨rfl, _, Eq.trans (World.drewN_drewN _ _ _) (congrArg (World.drewN _) (Nat.add_assoc _ _ _))⟩))); try go_wp2_with (first | (go_at_call 51; (with_reducible refine (spec_l2Texts.calls k1 _ _ l0 t105 _ ?side1 ?side2 A8.out).mono ?_); (case side1 => repeat (first | exact HR0.out | (with_reducible refine Kd.C_alloc ?_ _) | (with_reducible refine Kd.C_drewN ?_ _) | (with_reducible refine Kd.C_drew ?_))); (case side2 => exact HC0.out); rintro e w' ⟨rfl, ⟨nd, rfl⟩⟩; (try first | exact ⟨rfl, _, World.drewN_drewN _ _ _⟩ | exact ⟨rfl, _, Eq.trans (World.drewN_drewN _ _ _) (congrArg (World.drewN _) (Nat.add_assoc _ _ _))⟩))))
    go_ret
    exact ⟨by first | rfl | (simp; done) | (simp [*]; done), by repeat (first | exact Drawn0.refl _ | apply Drawn0.step)⟩
end Go.Proofs.Ytegelpeegbngiaa.P
namespace Go.Proofs.Ytegelpeegbngiaa.P
open Go.RowKit Go.Proofs.YtegelpeegbngiaaW.PrintWords Go.Proofs.YtegelpeegbngiaaW.PrintLast Go.Proofs.YtegelpeegbngiaaW.PrintMore
attribute [local go_sem] max2_int min2_int max_two min_two max_three min_three max_four min_four   -- for this text's walks alone
set_option linter.unusedVariables false
set_option linter.unusedSimpArgs false
set_option maxHeartbeats 8000000 in
set_option maxRecDepth 100000 in
theorem spec_l2Copy.calls (A0 : Option Addr) (c0 : Nat) (l0 : List ByteArray) (r : List ByteArray) (w : World) (hr0 : Kd.C Kd.string w A0 l0.length l0) (hc0 : l0.length ≤ c0) (h : spec_l2Copy.f l0 = some r) :
    Calls Try.prog 47 #[.slice A0 l0.length c0] w fun e w' => ∃ v0_ : Value, e = .returned (v0_) ∧ Kd.R Kd.string 9 w' w.heap.size (fun _ => True) v0_ r ∧ Below w.heap.size w w' := by
  have HR0 := Aside0.mk hr0
  have HC0 := Aside0.mk hc0
  clear hr0 hc0
  have HB := Aside0.mk (Below.refl w.heap.size w)
  have H : ((some (([] : List ByteArray) : List ByteArray)).bind fun y106 => (if y106.length + l0.length < 8796093022208 then (some (y106 ++ l0)) else (none))) = some r := h
  clear h
  obtain ⟨y106, hy106⟩ : ∃ y_ : List ByteArray, y_ = (([] : List ByteArray)) := ⟨_, rfl⟩
  replace H : (if y106.length + l0.length < 8796093022208 then (some (y106 ++ l0)) else (none)) = some r := by first | (rw [hy106]; with_reducible exact H) | (have H2_ := (Option.bind_some _ _).symm.trans H; rw [hy106]; with_reducible exact H2_) | (have H2_ := (Option.bind_some _ _).symm.trans H; with_reducible exact H2_) | with_reducible exact H | (rw [hy106]; exact H) | exact H
  have Ny106 := Aside0.mk hy106
  clear hy106
  by_cases c2 : y106.length + l0.length < 8796093022208
  · rw [if_pos c2] at H
    have LMc2 := Aside0.mk c2
    clear c2
    obtain ⟨y109, hy109⟩ : ∃ y_ : List ByteArray, y_ = (y106 ++ l0) := ⟨_, rfl⟩
    replace H : (some y109) = some r := by first | (rw [hy109]; with_reducible exact H) | (have H2_ := (Option.bind_some _ _).symm.trans H; rw [hy109]; with_reducible exact H2_) | (have H2_ := (Option.bind_some _ _).symm.trans H; with_reducible exact H2_) | with_reducible exact H | (rw [hy109]; exact H) | exact H
    have Ny109 := Aside0.mk hy109
    clear hy109
    obtain rfl := Option.some.inj H
    go_enter Try.func47, Try.ntmps47
    go_wp2_with (first | ((with_reducible refine gate_dst (N := 3) rfl ?_); refine Kd.R_lit Kd.string _ 9 ?hg (N := 3) ?hd (xs := ([] : List ByteArray)) (inner := []) (ok := fun _ => True) (okp := fun _ => True) ?hr ?hp (fun _ hk => hk) trivial (Below.refl _ _) (Nat.le_refl _) (by simp) ?_; (case hd => rfl); (case hg => rfl); (case hr => first | (go_simp; done) | (go_simp; rfl)); (case hp => exact (Reps.none _ _)); intro v107 w3 ho4 hb hg_ hnew_; clear hg_ hnew_; (first | rw [← Ny106.out] at ho4 | (simp only [Int.reduceToNat] at ho4; rw [← Ny106.out] at ho4)); have n0_ := Aside0.mk (Kd.R_lower ho4 (below_size (by repeat (first | (with_reducible first | exact HB.out | apply below_alloc | apply pw_below_drewN | apply below_drew1) | exact HB.out | exact Below.refl _ _)))); have n1_ := Aside0.mk (below_step (by repeat (first | (with_reducible first | exact HB.out | apply below_alloc | apply pw_below_drewN | apply below_drew1) | exact HB.out | exact Below.refl _ _)) hb); clear HB; have HO108 := n0_; have HB := n1_; clear n0_ n1_; clear hb ho4) | ((with_reducible refine gate_builtin (b := .append) (xs := #[.tmp 3, .tmp 4]) rfl ?_); at_builtin; refine Kd.R_append_rows Kd.string (w0 := w) w.heap.size rfl (.tmp 3) (.tmp 4) 22 9 (.string ⟨#[]⟩) 16 rfl Try.underlying22 info9 rfl (by decide) (by omega) v107 y106 l0 _ _ _ (fun _ => True) (fun _ => False) rfl rfl ?aO ?aR (fun _ _ h => h) (fun _ h => h.elim) ?aF ?aB ?aS ?aL ?_; (case aR => repeat (first | exact (Kd.C_below HR0.out HB.out) | (with_reducible refine Kd.C_alloc ?_ _) | (with_reducible refine Kd.C_drewN ?_ _) | (with_reducible refine Kd.C_drew ?_))); (case aB => exact (by repeat (first | (with_reducible first | exact HB.out | apply below_alloc | apply pw_below_drewN | apply below_drew1) | exact HB.out | exact Below.refl _ _))); (case aF => exact (fun _ _ => trivial)); (case aO => exact (by (with_reducible repeat (first | apply Kd.R_alloc | apply Kd.R_drewN | apply Kd.R_drew)); exact HO108.out)); (case aS => exact (below_size (by repeat (first | (with_reducible first | exact HB.out | apply below_alloc | apply pw_below_drewN | apply below_drew1) | exact HB.out | exact Below.refl _ _)))); (case aL => have := LMc2.out; omega); intro v110 w5 ho hb hg hat; rw [← Ny109.out] at ho; have n0_ := Aside0.mk (hb); have n1_ := Aside0.mk (ho); clear HB; clear HO108; have HB := n0_; have HO111 := n1_; clear n0_ n1_; clear ho hb hg hat))
    go_ret
    exact ⟨_, by first | rfl | (simp [errW_none, errW_some] <;> rfl) | (simp [*, errW_none, errW_some] <;> rfl), by (with_reducible repeat (first | apply Kd.R_alloc | apply Kd.R_drewN | apply Kd.R_drew)); exact HO111.out, by repeat (first | (with_reducible first | exact HB.out | apply below_alloc | apply pw_below_drewN | apply below_drew1) | exact HB.out | exact Below.refl _ _)⟩
  · rw [if_neg c2] at H
    exact absurd H (by simp)
end Go.Proofs.Ytegelpeegbngiaa.P
