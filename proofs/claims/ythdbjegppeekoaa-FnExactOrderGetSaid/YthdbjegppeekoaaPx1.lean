-- Written by wip/px.py of this session, over the kit's print.py. Not trusted: Lean checks it.
import Derived.Test.YthdbjegppeekoaaPx0
namespace Go.Proofs.Ythdbjegppeekoaa.P
open Go.RowKit Go.Proofs.YthdbjegppeekoaaW.PrintWords Go.Proofs.YthdbjegppeekoaaW.PrintLast Go.Proofs.YthdbjegppeekoaaW.PrintMore
attribute [local go_sem] max2_int min2_int max_two min_two max_three min_three max_four min_four   -- for this text's walks alone
set_option linter.unusedVariables false
set_option linter.unusedSimpArgs false

/-! ### spec_l1In: function 13 -/
def spec_l1In.f (a0 : Int) (a1 : Int) (a2 : Int) : Option (Bool) := if a0 ≥ a1 then (some (decide (a0 ≤ a2))) else (some false)

/-! ### spec_l1Figures: function 14 -/
mutual
def spec_l1Figures.l0 : Nat → ByteArray → Int → Int → Option (Int)
  | 0, _, _, _ => none
  | k + 1, x0, x3, x4 => if x4 < (x0.size : Int) then (if 0 ≤ x4 then (if (bt x0 x4) < 48 then (spec_l1Figures.j1 k x0 x3 x4 true) else (spec_l1Figures.j1 k x0 x3 x4 (decide ((bt x0 x4) > 57)))) else (none)) else ((spec_l1In.f (x0.size : Int) 1 10).bind fun t101 => (if t101 = true then (if (x0.size : Int) > 1 then (if 0 < (x0.size : Int) then (if (bt x0 0) = 48 then (some (-1)) else (some x3)) else (none)) else (some x3)) else (some (-1))))
def spec_l1Figures.j1 : Nat → ByteArray → Int → Int → Bool → Option (Int)
  | 0, _, _, _, _ => none
  | k + 1, x0, x3, x4, x20 => if x20 = true then (some (-1)) else (if x4 < 10 then (if 0 ≤ x4 then (if x4 < (x0.size : Int) then (spec_l1Figures.l0 k x0 (wrap64 ((wrap64 (x3 * 10)) + (((bt x0 x4) - 48) % 256))) (wrap64 (x4 + 1))) else (none)) else (none)) else (spec_l1Figures.l0 k x0 x3 (wrap64 (x4 + 1))))
end
def spec_l1Figures.f (k : Nat) (a0 : ByteArray) : Option (Int) := spec_l1Figures.l0 k a0 0 0
theorem spec_l1Figures.mono_l : ∀ k, (∀ y0 y1 y2, LeO (spec_l1Figures.l0 k y0 y1 y2) (spec_l1Figures.l0 (k + 1) y0 y1 y2)) ∧ (∀ y0 y1 y2 y3, LeO (spec_l1Figures.j1 k y0 y1 y2 y3) (spec_l1Figures.j1 (k + 1) y0 y1 y2 y3))
  | 0 => ⟨fun _ _ _ r h => by simp [spec_l1Figures.l0] at h, fun _ _ _ _ r h => by simp [spec_l1Figures.j1] at h⟩
  | k + 1 => by
    obtain ⟨ih0, ih1⟩ := spec_l1Figures.mono_l k
    refine ⟨?_, ?_⟩
    · intro y0 y1 y2
      unfold spec_l1Figures.l0
      repeat' first
      | (with_reducible first | exact ih0 _ _ _ | exact ih1 _ _ _ _ | exact LeO.refl _ | exact LeO.none _ | refine LeO.ite ?_ ?_ | refine LeO.bind ?_ (fun _ => ?_))
    · intro y0 y1 y2 y3
      unfold spec_l1Figures.j1
      repeat' first
      | (with_reducible first | exact ih0 _ _ _ | exact ih1 _ _ _ _ | exact LeO.refl _ | exact LeO.none _ | refine LeO.ite ?_ ?_ | refine LeO.bind ?_ (fun _ => ?_))
theorem spec_l1Figures.mono : ∀ a0 k, LeO (spec_l1Figures.f k a0) (spec_l1Figures.f (k + 1) a0) := by
  intro a0 k
  obtain ⟨ih0, ih1⟩ := spec_l1Figures.mono_l k
  unfold spec_l1Figures.f
  repeat' first
      | (with_reducible first | exact ih0 _ _ _ | exact ih1 _ _ _ _ | exact LeO.refl _ | exact LeO.none _ | refine LeO.ite ?_ ?_ | refine LeO.bind ?_ (fun _ => ?_))

/-! ### spec_l1Head: function 9 -/
mutual
def spec_l1Head.j1 : Nat → ByteArray → Int → Int → Int → Int → Option (Int × ByteArray × Int)
  | 0, _, _, _, _, _ => none
  | k + 1, x0, x1, x2, x3, x11 => if (x0.size : Int) = 0 then (some (0, (⟨#[]⟩ : ByteArray), 0)) else (if 0 < (x0.size : Int) then (if (bt x0 0) = x1 then (if x11 < (x0.size : Int) then (if x11 = 1 then (spec_l1Head.j2 k x0 x2 x3 x11 true) else (if 0 ≤ x11 then (if (bt x0 x11) = 13 then (if (wrap64 (x11 + 1)) < (x0.size : Int) then (if 0 ≤ (wrap64 (x11 + 1)) then (spec_l1Head.j2 k x0 x2 x3 x11 ((bt x0 (wrap64 (x11 + 1))) != 10)) else (none)) else (spec_l1Head.j2 k x0 x2 x3 x11 false)) else (spec_l1Head.j2 k x0 x2 x3 x11 true)) else (none))) else (if (wrap64 (x11 + 1)) < (x0.size : Int) then (if 0 ≤ (wrap64 (x11 + 1)) then (spec_l1Head.j2 k x0 x2 x3 x11 ((bt x0 (wrap64 (x11 + 1))) != 10)) else (none)) else (spec_l1Head.j2 k x0 x2 x3 x11 false))) else (spec_l1Head.j2 k x0 x2 x3 x11 true)) else (none))
def spec_l1Head.j2 : Nat → ByteArray → Int → Int → Int → Bool → Option (Int × ByteArray × Int)
  | 0, _, _, _, _, _ => none
  | k + 1, x0, x2, x3, x11, x70 => if x70 = true then (some (0, (⟨#[]⟩ : ByteArray), (-1))) else (if x11 > 1 then (if 1 ≤ x11 then (if x11 ≤ (x0.size : Int) then ((spec_l1Figures.f k (x0.extract 1 (x11 : Int).toNat)).bind fun t102 => ((spec_l1In.f t102 x2 x3).bind fun t103 => (spec_l1Head.j3 k x0 x11 (!t103)))) else (none)) else (none)) else (spec_l1Head.j3 k x0 x11 false))
def spec_l1Head.j3 : Nat → ByteArray → Int → Bool → Option (Int × ByteArray × Int)
  | 0, _, _, _ => none
  | k + 1, x0, x11, x82 => if x82 = true then (some (0, (⟨#[]⟩ : ByteArray), (-1))) else (if (wrap64 (x11 + 1)) ≥ (x0.size : Int) then (some (0, (⟨#[]⟩ : ByteArray), 0)) else (if 1 ≤ x11 then (if x11 ≤ (x0.size : Int) then ((spec_l1Figures.f k (x0.extract 1 (x11 : Int).toNat)).bind fun t104 => (if 0 ≤ (wrap64 (x11 + 2)) then (if (wrap64 (x11 + 2)) ≤ (x0.size : Int) then (some (t104, x0.extract ((wrap64 (x11 + 2)) : Int).toNat x0.size, 1)) else (none)) else (none))) else (none)) else (none)))
def spec_l1Head.l0 : Nat → ByteArray → Int → Int → Int → Int → Option (Int × ByteArray × Int)
  | 0, _, _, _, _, _ => none
  | k + 1, x0, x1, x2, x3, x11 => if x11 < (x0.size : Int) then (if 0 ≤ x11 then (if (bt x0 x11) ≥ 48 then (if (bt x0 x11) ≤ 57 then (if x11 < 4 then (spec_l1Head.l0 k x0 x1 x2 x3 (wrap64 (x11 + 1))) else (spec_l1Head.j1 k x0 x1 x2 x3 x11)) else (spec_l1Head.j1 k x0 x1 x2 x3 x11)) else (spec_l1Head.j1 k x0 x1 x2 x3 x11)) else (none)) else (spec_l1Head.j1 k x0 x1 x2 x3 x11)
end
def spec_l1Head.f (k : Nat) (a0 : ByteArray) (a1 : Int) (a2 : Int) (a3 : Int) : Option (Int × ByteArray × Int) := spec_l1Head.l0 k a0 a1 a2 a3 1
theorem spec_l1Head.mono_l : ∀ k, (∀ y0 y1 y2 y3 y4, LeO (spec_l1Head.j1 k y0 y1 y2 y3 y4) (spec_l1Head.j1 (k + 1) y0 y1 y2 y3 y4)) ∧ (∀ y0 y1 y2 y3 y4, LeO (spec_l1Head.j2 k y0 y1 y2 y3 y4) (spec_l1Head.j2 (k + 1) y0 y1 y2 y3 y4)) ∧ (∀ y0 y1 y2, LeO (spec_l1Head.j3 k y0 y1 y2) (spec_l1Head.j3 (k + 1) y0 y1 y2)) ∧ (∀ y0 y1 y2 y3 y4, LeO (spec_l1Head.l0 k y0 y1 y2 y3 y4) (spec_l1Head.l0 (k + 1) y0 y1 y2 y3 y4))
  | 0 => ⟨fun _ _ _ _ _ r h => by simp [spec_l1Head.j1] at h, fun _ _ _ _ _ r h => by simp [spec_l1Head.j2] at h, fun _ _ _ r h => by simp [spec_l1Head.j3] at h, fun _ _ _ _ _ r h => by simp [spec_l1Head.l0] at h⟩
  | k + 1 => by
    obtain ⟨ih0, ih1, ih2, ih3⟩ := spec_l1Head.mono_l k
    refine ⟨?_, ?_, ?_, ?_⟩
    · intro y0 y1 y2 y3 y4
      unfold spec_l1Head.j1
      repeat' first
      | (with_reducible first | exact ih0 _ _ _ _ _ | exact ih1 _ _ _ _ _ | exact ih2 _ _ _ | exact ih3 _ _ _ _ _ | exact spec_l1Figures.mono _ _ | exact LeO.refl _ | exact LeO.none _ | refine LeO.ite ?_ ?_ | refine LeO.bind ?_ (fun _ => ?_))
    · intro y0 y1 y2 y3 y4
      unfold spec_l1Head.j2
      repeat' first
      | (with_reducible first | exact ih0 _ _ _ _ _ | exact ih1 _ _ _ _ _ | exact ih2 _ _ _ | exact ih3 _ _ _ _ _ | exact spec_l1Figures.mono _ _ | exact LeO.refl _ | exact LeO.none _ | refine LeO.ite ?_ ?_ | refine LeO.bind ?_ (fun _ => ?_))
    · intro y0 y1 y2
      unfold spec_l1Head.j3
      repeat' first
      | (with_reducible first | exact ih0 _ _ _ _ _ | exact ih1 _ _ _ _ _ | exact ih2 _ _ _ | exact ih3 _ _ _ _ _ | exact spec_l1Figures.mono _ _ | exact LeO.refl _ | exact LeO.none _ | refine LeO.ite ?_ ?_ | refine LeO.bind ?_ (fun _ => ?_))
    · intro y0 y1 y2 y3 y4
      unfold spec_l1Head.l0
      repeat' first
      | (with_reducible first | exact ih0 _ _ _ _ _ | exact ih1 _ _ _ _ _ | exact ih2 _ _ _ | exact ih3 _ _ _ _ _ | exact spec_l1Figures.mono _ _ | exact LeO.refl _ | exact LeO.none _ | refine LeO.ite ?_ ?_ | refine LeO.bind ?_ (fun _ => ?_))
theorem spec_l1Head.mono : ∀ a0 a1 a2 a3 k, LeO (spec_l1Head.f k a0 a1 a2 a3) (spec_l1Head.f (k + 1) a0 a1 a2 a3) := by
  intro a0 a1 a2 a3 k
  obtain ⟨ih0, ih1, ih2, ih3⟩ := spec_l1Head.mono_l k
  unfold spec_l1Head.f
  repeat' first
      | (with_reducible first | exact ih0 _ _ _ _ _ | exact ih1 _ _ _ _ _ | exact ih2 _ _ _ | exact ih3 _ _ _ _ _ | exact spec_l1Figures.mono _ _ | exact LeO.refl _ | exact LeO.none _ | refine LeO.ite ?_ ?_ | refine LeO.bind ?_ (fun _ => ?_))

/-! ### spec_OrderGet: function 4 -/
mutual
def spec_OrderGet.l0 : Nat → ByteArray → Int → ByteArray → List ByteArray → Int → Option (List ByteArray × Int)
  | 0, _, _, _, _, _ => none
  | k + 1, x0, x4, x5, x7, x8 => if x8 < x4 then ((spec_l1Head.f k x5 36 0 40).bind fun bt114 => (if bt114.2.2 < 1 then (some ((([] : List ByteArray)), bt114.2.2)) else (if (bt114.2.1.size : Int) > bt114.1 then (if 0 ≤ bt114.1 then (if bt114.1 < (bt114.2.1.size : Int) then (if (bt bt114.2.1 bt114.1) = 13 then (if (bt114.2.1.size : Int) > (wrap64 (bt114.1 + 1)) then (if 0 ≤ (wrap64 (bt114.1 + 1)) then (if (wrap64 (bt114.1 + 1)) < (bt114.2.1.size : Int) then (spec_OrderGet.j1 k x0 x4 x7 x8 bt114.1 bt114.2.1 ((bt bt114.2.1 (wrap64 (bt114.1 + 1))) != 10)) else (none)) else (none)) else (spec_OrderGet.j1 k x0 x4 x7 x8 bt114.1 bt114.2.1 false)) else (spec_OrderGet.j1 k x0 x4 x7 x8 bt114.1 bt114.2.1 true)) else (none)) else (none)) else (if (bt114.2.1.size : Int) > (wrap64 (bt114.1 + 1)) then (if 0 ≤ (wrap64 (bt114.1 + 1)) then (if (wrap64 (bt114.1 + 1)) < (bt114.2.1.size : Int) then (spec_OrderGet.j1 k x0 x4 x7 x8 bt114.1 bt114.2.1 ((bt bt114.2.1 (wrap64 (bt114.1 + 1))) != 10)) else (none)) else (none)) else (spec_OrderGet.j1 k x0 x4 x7 x8 bt114.1 bt114.2.1 false))))) else (some (x7, wrap64 ((x0.size : Int) - (x5.size : Int))))
def spec_OrderGet.j1 : Nat → ByteArray → Int → List ByteArray → Int → Int → ByteArray → Bool → Option (List ByteArray × Int)
  | 0, _, _, _, _, _, _, _ => none
  | k + 1, x0, x4, x7, x8, x9, x10, x61 => if x61 = true then (some ((([] : List ByteArray)), (-1))) else (if (x10.size : Int) < (wrap64 (x9 + 2)) then (some ((([] : List ByteArray)), 0)) else (if 0 ≤ x9 then (if x9 ≤ (x10.size : Int) then (if x7.length < 8796093022208 then (if 0 ≤ (wrap64 (x9 + 2)) then (if (wrap64 (x9 + 2)) ≤ (x10.size : Int) then (spec_OrderGet.l0 k x0 x4 (x10.extract ((wrap64 (x9 + 2)) : Int).toNat x10.size) (x7 ++ [x10.extract 0 (x9 : Int).toNat]) (wrap64 (x8 + 1))) else (none)) else (none)) else (none)) else (none)) else (none)))
end
def spec_OrderGet.f (k : Nat) (a0 : ByteArray) : Option (List ByteArray × Int) := (spec_l1Head.f k a0 42 1 8).bind fun bt105 => (if bt105.2.2 < 1 then (some ((([] : List ByteArray)), bt105.2.2)) else (spec_OrderGet.l0 k a0 bt105.1 bt105.2.1 (([] : List ByteArray)) 0))
theorem spec_OrderGet.mono_l : ∀ k, (∀ y0 y1 y2 y3 y4, LeO (spec_OrderGet.l0 k y0 y1 y2 y3 y4) (spec_OrderGet.l0 (k + 1) y0 y1 y2 y3 y4)) ∧ (∀ y0 y1 y2 y3 y4 y5 y6, LeO (spec_OrderGet.j1 k y0 y1 y2 y3 y4 y5 y6) (spec_OrderGet.j1 (k + 1) y0 y1 y2 y3 y4 y5 y6))
  | 0 => ⟨fun _ _ _ _ _ r h => by simp [spec_OrderGet.l0] at h, fun _ _ _ _ _ _ _ r h => by simp [spec_OrderGet.j1] at h⟩
  | k + 1 => by
    obtain ⟨ih0, ih1⟩ := spec_OrderGet.mono_l k
    refine ⟨?_, ?_⟩
    · intro y0 y1 y2 y3 y4
      unfold spec_OrderGet.l0
      repeat' first
      | (with_reducible first | exact ih0 _ _ _ _ _ | exact ih1 _ _ _ _ _ _ _ | exact spec_l1Head.mono _ _ _ _ _ | exact LeO.refl _ | exact LeO.none _ | refine LeO.ite ?_ ?_ | refine LeO.bind ?_ (fun _ => ?_))
    · intro y0 y1 y2 y3 y4 y5 y6
      unfold spec_OrderGet.j1
      repeat' first
      | (with_reducible first | exact ih0 _ _ _ _ _ | exact ih1 _ _ _ _ _ _ _ | exact spec_l1Head.mono _ _ _ _ _ | exact LeO.refl _ | exact LeO.none _ | refine LeO.ite ?_ ?_ | refine LeO.bind ?_ (fun _ => ?_))
theorem spec_OrderGet.mono : ∀ a0 k, LeO (spec_OrderGet.f k a0) (spec_OrderGet.f (k + 1) a0) := by
  intro a0 k
  obtain ⟨ih0, ih1⟩ := spec_OrderGet.mono_l k
  unfold spec_OrderGet.f
  repeat' first
      | (with_reducible first | exact ih0 _ _ _ _ _ | exact ih1 _ _ _ _ _ _ _ | exact spec_l1Head.mono _ _ _ _ _ | exact LeO.refl _ | exact LeO.none _ | refine LeO.ite ?_ ?_ | refine LeO.bind ?_ (fun _ => ?_))

/-- A state of type 32 at block g of W; what its slices lead to came in by w0. -/
def IsS32 (w0 W : World) (g : Nat) (f0 : ByteArray) (f1 : Int) (f2 : Bool) (f3 : Bool) : Prop := W.heap[g]? = some (.cells #[.string f0, .int .i64 f1, .bool f2, .bool f3] 32 (0, 0)) ∧ w0.heap.size ≤ g
theorem IsS32.grown {w0 W : World} {g : Nat} {f0 : ByteArray} {f1 : Int} {f2 : Bool} {f3 : Bool} {W1 : World} {row : Option Nat} (h : IsS32 w0 W g f0 f1 f2 f3) (hw : W.grownBy W1 row) (hne : some g ≠ row) : IsS32 w0 W1 g f0 f1 f2 f3 := by
  obtain ⟨hb, hg⟩ := h
  exact ⟨blk_grown hb hw hne, hg⟩
theorem IsS32.own_neN {w0 W : World} {g : Nat} {f0 : ByteArray} {f1 : Int} {f2 : Bool} {f3 : Bool} {α : Type} {d : Kd α} {e : Nat} {base : Nat} {ok : Nat → Prop} {v : Value} {xs : List α} (h : IsS32 w0 W g f0 f1 f2 f3) (ho : Kd.N d e W base ok v xs) (ht : e ≠ 32) : some g ≠ v.ownBlock := by
  obtain ⟨hb, hg⟩ := h
  exact Kd.N_ne ho hb ht
theorem IsS32.fresh {w0 W : World} {g : Nat} {f0 : ByteArray} {f1 : Int} {f2 : Bool} {f3 : Bool} (h : IsS32 w0 W g f0 f1 f2 f3) : ∀ k, W.heap.size ≤ k → k ≠ g := by
  obtain ⟨hb, hg⟩ := h
  exact Kd.freshB hb
theorem IsS32.kept {w0 W : World} {g : Nat} {f0 : ByteArray} {f1 : Int} {f2 : Bool} {f3 : Bool} {W1 : World} {S : Nat → Prop} (h : IsS32 w0 W g f0 f1 f2 f3) (hk : Kept W W1 S) (hne : ¬ S g) : IsS32 w0 W1 g f0 f1 f2 f3 := by
  obtain ⟨hb, hg⟩ := h
  exact ⟨blk_kept hb hk hne, hg⟩
theorem IsS32.below {w0 W : World} {g : Nat} {f0 : ByteArray} {f1 : Int} {f2 : Bool} {f3 : Bool} {W1 : World} (h : IsS32 w0 W g f0 f1 f2 f3) (hw : Below W.heap.size W W1) : IsS32 w0 W1 g f0 f1 f2 f3 := h.grown (grown_of_below hw none) (by simp)
theorem IsS32.alloc {w0 W : World} {g : Nat} {f0 : ByteArray} {f1 : Int} {f2 : Bool} {f3 : Bool} (h : IsS32 w0 W g f0 f1 f2 f3) (o : Obj) : IsS32 w0 (W.alloc o) g f0 f1 f2 f3 := h.below (below_alloc (Below.refl _ _) o)
theorem IsS32.drewN {w0 W : World} {g : Nat} {f0 : ByteArray} {f1 : Int} {f2 : Bool} {f3 : Bool} (h : IsS32 w0 W g f0 f1 f2 f3) (m : Nat) : IsS32 w0 (W.drewN m) g f0 f1 f2 f3 := h
theorem IsS32.drew {w0 W : World} {g : Nat} {f0 : ByteArray} {f1 : Int} {f2 : Bool} {f3 : Bool} (h : IsS32 w0 W g f0 f1 f2 f3) : IsS32 w0 W.drew g f0 f1 f2 f3 := h
theorem IsS32.at_ {w0 W : World} {g : Nat} {f0 : ByteArray} {f1 : Int} {f2 : Bool} {f3 : Bool} {w' : World} {m : Nat} (hq : W.drewN m = w') (h : IsS32 w0 W g f0 f1 f2 f3) : IsS32 w0 w' g f0 f1 f2 f3 := by subst hq; exact IsS32.drewN h m
theorem IsS32.apart {w0 W : World} {g : Nat} {f0 : ByteArray} {f1 : Int} {f2 : Bool} {f3 : Bool} {α : Type} {d : Kd α} {e : Nat} {base : Nat} {ok : Nat → Prop} {v : Value} {xs : List α} (h : IsS32 w0 W g f0 f1 f2 f3) (ho : d.R e W base ok v xs) (ht : ∀ q, q ∈ e :: d.E → q ≠ 32) : d.R e W base (fun k => ok k ∧ k ≠ g) v xs := by
  obtain ⟨hb, hg⟩ := h
  exact Kd.R_types ho hb ht
theorem IsS32.own_ne {w0 W : World} {g : Nat} {f0 : ByteArray} {f1 : Int} {f2 : Bool} {f3 : Bool} {α : Type} {d : Kd α} {e : Nat} {base : Nat} {ok : Nat → Prop} {v : Value} {xs : List α} (h : IsS32 w0 W g f0 f1 f2 f3) (ho : d.R e W base ok v xs) (ht : e ≠ 32) : some g ≠ v.ownBlock := by
  obtain ⟨hb, hg⟩ := h
  exact Kd.R_ne ho hb ht
theorem IsS32.apartQ {w0 W : World} {g : Nat} {f0 : ByteArray} {f1 : Int} {f2 : Bool} {f3 : Bool} {α : Type} {d : Kd α} {e : Nat} {base : Nat} {ok : Nat → Prop} {v : Value} {xs : List α} (h : IsS32 w0 W g f0 f1 f2 f3) (ho : d.Q e W base ok v xs) (ht : ∀ q, q ∈ e :: d.E → q ≠ 32) : d.Q e W base (fun k => ok k ∧ k ≠ g) v xs := by
  obtain ⟨hb, hg⟩ := h
  exact Kd.Q_types ho hb ht
theorem IsS32.own_neQ {w0 W : World} {g : Nat} {f0 : ByteArray} {f1 : Int} {f2 : Bool} {f3 : Bool} {α : Type} {d : Kd α} {e : Nat} {base : Nat} {ok : Nat → Prop} {v : Value} {xs : List α} (h : IsS32 w0 W g f0 f1 f2 f3) (ho : d.Q e W base ok v xs) (ht : e ≠ 32) : some g ≠ v.ownBlock := by
  obtain ⟨hb, hg⟩ := h
  exact Kd.Q_ne ho hb ht
theorem IsS32.apartS {w0 W : World} {g : Nat} {f0 : ByteArray} {f1 : Int} {f2 : Bool} {f3 : Bool} {α : Type} {d : Kd α} {e : Nat} {base : Nat} {ok : Nat → Prop} {v : Value} {xs : List α} (h : IsS32 w0 W g f0 f1 f2 f3) (ho : d.S e W base ok v xs) (ht : ∀ q, q ∈ e :: d.E → q ≠ 32) : d.S e W base (fun k => ok k ∧ k ≠ g) v xs := by
  obtain ⟨hb, hg⟩ := h
  exact Kd.S_types ho hb ht
theorem IsS32.own_neS {w0 W : World} {g : Nat} {f0 : ByteArray} {f1 : Int} {f2 : Bool} {f3 : Bool} {α : Type} {d : Kd α} {e : Nat} {base : Nat} {ok : Nat → Prop} {v : Value} {xs : List α} (h : IsS32 w0 W g f0 f1 f2 f3) (ho : d.S e W base ok v xs) (ht : e ≠ 32) : some g ≠ v.ownBlock := by
  obtain ⟨hb, hg⟩ := h
  exact Kd.S_ne ho hb ht
theorem IsS32.lt {w0 W : World} {g : Nat} {f0 : ByteArray} {f1 : Int} {f2 : Bool} {f3 : Bool} (h : IsS32 w0 W g f0 f1 f2 f3) : g < W.heap.size := by
  obtain ⟨hb, hg⟩ := h
  exact blk_lt hb
theorem IsS32.ge {w0 W : World} {g : Nat} {f0 : ByteArray} {f1 : Int} {f2 : Bool} {f3 : Bool} (h : IsS32 w0 W g f0 f1 f2 f3) : w0.heap.size ≤ g := by
  obtain ⟨hb, hg⟩ := h
  exact hg
theorem IsS32.ne_blk {w0 W : World} {g : Nat} {f0 : ByteArray} {f1 : Int} {f2 : Bool} {f3 : Bool} {a : Nat} {cs : Array Value} {t : TypeId} {fr : Nat × Nat} (h : IsS32 w0 W g f0 f1 f2 f3) (hb2 : W.heap[a]? = some (.cells cs t fr)) (ht : t ≠ 32) : g ≠ a := by
  obtain ⟨hb, hg⟩ := h
  rintro rfl
  rw [hb] at hb2
  injection hb2 with hb2
  injection hb2 with _ ht2
  exact ht ht2.symm
theorem IsS32.far {w0 W : World} {g : Nat} {f0 : ByteArray} {f1 : Int} {f2 : Bool} {f3 : Bool} {p : Addr} (h : IsS32 w0 W g f0 f1 f2 f3) (hne : g ≠ p.block) (u : Value) : IsS32 w0 (W.setCell p u) g f0 f1 f2 f3 := by
  obtain ⟨hb, hg⟩ := h
  exact ⟨blk_far hb hne u, hg⟩
theorem cellS32_0 {W : World} {g : Nat} {f0 : ByteArray} {f1 : Int} {f2 : Bool} {f3 : Bool} (h : W.heap[g]? = some (.cells #[.string f0, .int .i64 f1, .bool f2, .bool f3] 32 (0, 0))) : W.cell? ⟨g, 0, none⟩ = some (.string f0) := (blk_cell h 0).trans rfl
theorem IsS32.set_0 {w0 W : World} {g : Nat} {f0 : ByteArray} {f1 : Int} {f2 : Bool} {f3 : Bool} (h : IsS32 w0 W g f0 f1 f2 f3) (x : ByteArray) : IsS32 w0 (W.setCell ⟨g, 0, none⟩ (.string x)) g x f1 f2 f3 := by
  obtain ⟨hb, hg⟩ := h
  exact ⟨by simpa using blk_set hb 0 (.string x), hg⟩
theorem cellS32_1 {W : World} {g : Nat} {f0 : ByteArray} {f1 : Int} {f2 : Bool} {f3 : Bool} (h : W.heap[g]? = some (.cells #[.string f0, .int .i64 f1, .bool f2, .bool f3] 32 (0, 0))) : W.cell? ⟨g, 1, none⟩ = some (.int .i64 f1) := (blk_cell h 1).trans rfl
theorem IsS32.set_1 {w0 W : World} {g : Nat} {f0 : ByteArray} {f1 : Int} {f2 : Bool} {f3 : Bool} (h : IsS32 w0 W g f0 f1 f2 f3) (x : Int) : IsS32 w0 (W.setCell ⟨g, 1, none⟩ (.int .i64 x)) g f0 x f2 f3 := by
  obtain ⟨hb, hg⟩ := h
  exact ⟨by simpa using blk_set hb 1 (.int .i64 x), hg⟩
theorem cellS32_2 {W : World} {g : Nat} {f0 : ByteArray} {f1 : Int} {f2 : Bool} {f3 : Bool} (h : W.heap[g]? = some (.cells #[.string f0, .int .i64 f1, .bool f2, .bool f3] 32 (0, 0))) : W.cell? ⟨g, 2, none⟩ = some (.bool f2) := (blk_cell h 2).trans rfl
theorem IsS32.set_2 {w0 W : World} {g : Nat} {f0 : ByteArray} {f1 : Int} {f2 : Bool} {f3 : Bool} (h : IsS32 w0 W g f0 f1 f2 f3) (x : Bool) : IsS32 w0 (W.setCell ⟨g, 2, none⟩ (.bool x)) g f0 f1 x f3 := by
  obtain ⟨hb, hg⟩ := h
  exact ⟨by simpa using blk_set hb 2 (.bool x), hg⟩
theorem cellS32_3 {W : World} {g : Nat} {f0 : ByteArray} {f1 : Int} {f2 : Bool} {f3 : Bool} (h : W.heap[g]? = some (.cells #[.string f0, .int .i64 f1, .bool f2, .bool f3] 32 (0, 0))) : W.cell? ⟨g, 3, none⟩ = some (.bool f3) := (blk_cell h 3).trans rfl
theorem IsS32.set_3 {w0 W : World} {g : Nat} {f0 : ByteArray} {f1 : Int} {f2 : Bool} {f3 : Bool} (h : IsS32 w0 W g f0 f1 f2 f3) (x : Bool) : IsS32 w0 (W.setCell ⟨g, 3, none⟩ (.bool x)) g f0 f1 f2 x := by
  obtain ⟨hb, hg⟩ := h
  exact ⟨by simpa using blk_set hb 3 (.bool x), hg⟩
theorem IsS32.new (w0 W : World) (f0 : ByteArray) (f1 : Int) (f2 : Bool) (f3 : Bool) (hB : Below w0.heap.size w0 W) : IsS32 w0 (W.alloc (.cells #[.string f0, .int .i64 f1, .bool f2, .bool f3] 32)) W.heap.size f0 f1 f2 f3 := ⟨by simpa using heap_alloc_new W _, hB.size⟩

/-! ### impl_wire_byte: function 11 -/
def impl_wire_byte.j0 : Nat → Int → Bool → ByteArray → Int → Bool → Bool → Option (ByteArray × Int × Bool × Bool)
  | 0, _, _, _, _, _, _ => none
  | k + 1, x1, x11, x1000, x1001, x1002, x1003 => if x11 = true then (some (x1000, x1001, x1002, x1003)) else (if x1001 = (x1000.size : Int) then (some (x1000, x1001, true, x1003)) else (if 0 ≤ x1001 then (if x1001 < (x1000.size : Int) then (if (bt x1000 x1001) = x1 then (some (x1000, wrap64 (x1001 + 1), x1002, x1003)) else (some (x1000, x1001, x1002, true))) else (none)) else (none)))
def impl_wire_byte.f (k : Nat) (s0_0 : ByteArray) (s0_1 : Int) (s0_2 : Bool) (s0_3 : Bool) (a1 : Int) : Option (ByteArray × Int × Bool × Bool) := if s0_2 = true then (impl_wire_byte.j0 k a1 true s0_0 s0_1 s0_2 s0_3) else (impl_wire_byte.j0 k a1 s0_3 s0_0 s0_1 s0_2 s0_3)
theorem impl_wire_byte.mono_l : ∀ k, (∀ y0 y1 y2 y3 y4 y5, LeO (impl_wire_byte.j0 k y0 y1 y2 y3 y4 y5) (impl_wire_byte.j0 (k + 1) y0 y1 y2 y3 y4 y5))
  | 0 => fun _ _ _ _ _ _ r h => by simp [impl_wire_byte.j0] at h
  | k + 1 => by
    have ih0 := impl_wire_byte.mono_l k
    · intro y0 y1 y2 y3 y4 y5
      unfold impl_wire_byte.j0
      repeat' first
      | (with_reducible first | exact ih0 _ _ _ _ _ _ | exact LeO.refl _ | exact LeO.none _ | refine LeO.ite ?_ ?_ | refine LeO.bind ?_ (fun _ => ?_))
theorem impl_wire_byte.mono : ∀ a0 a1 a2 a3 a4 k, LeO (impl_wire_byte.f k a0 a1 a2 a3 a4) (impl_wire_byte.f (k + 1) a0 a1 a2 a3 a4) := by
  intro a0 a1 a2 a3 a4 k
  have ih0 := impl_wire_byte.mono_l k
  unfold impl_wire_byte.f
  repeat' first
      | (with_reducible first | exact ih0 _ _ _ _ _ _ | exact LeO.refl _ | exact LeO.none _ | refine LeO.ite ?_ ?_ | refine LeO.bind ?_ (fun _ => ?_))

/-! ### impl_within: function 15 -/
def impl_within.f (a0 : Int) (a1 : Int) (a2 : Int) : Option (Bool) := if a0 ≥ a1 then (some (decide (a0 ≤ a2))) else (some false)

/-! ### impl_wire_number: function 10 -/
mutual
def impl_wire_number.j4 : Nat → Int → Int → ByteArray → Int → Bool → Bool → Option (Int × ByteArray × Int × Bool × Bool)
  | 0, _, _, _, _, _, _ => none
  | k + 1, x9, x10, x1000, x1001, x1002, x1003 => if x1001 = x10 then (impl_wire_number.j5 k x9 (!x1002) x1000 x1001 x1002 x1003) else (impl_wire_number.j5 k x9 false x1000 x1001 x1002 x1003)
def impl_wire_number.j5 : Nat → Int → Bool → ByteArray → Int → Bool → Bool → Option (Int × ByteArray × Int × Bool × Bool)
  | 0, _, _, _, _, _, _ => none
  | k + 1, x9, x105, x1000, x1001, x1002, x1003 => if x105 = true then ((impl_wire_byte.f k x1000 x1001 x1002 true 13).bind fun bt134 => ((impl_wire_byte.f k bt134.1 bt134.2.1 bt134.2.2.1 bt134.2.2.2 10).bind fun bt138 => (some (x9, bt138.1, bt138.2.1, bt138.2.2.1, bt138.2.2.2)))) else ((impl_wire_byte.f k x1000 x1001 x1002 x1003 13).bind fun bt142 => ((impl_wire_byte.f k bt142.1 bt142.2.1 bt142.2.2.1 bt142.2.2.2 10).bind fun bt146 => (some (x9, bt146.1, bt146.2.1, bt146.2.2.1, bt146.2.2.2))))
def impl_wire_number.l0 : Nat → Int → Int → Int → Int → ByteArray → Int → Bool → Bool → Option (Int × ByteArray × Int × Bool × Bool)
  | 0, _, _, _, _, _, _, _, _ => none
  | k + 1, x2, x3, x9, x10, x1000, x1001, x1002, x1003 => if x1002 = true then (impl_wire_number.j1 k x2 x3 x9 x10 false x1000 x1001 x1002 x1003) else (impl_wire_number.j1 k x2 x3 x9 x10 (!x1003) x1000 x1001 x1002 x1003)
def impl_wire_number.j1 : Nat → Int → Int → Int → Int → Bool → ByteArray → Int → Bool → Bool → Option (Int × ByteArray × Int × Bool × Bool)
  | 0, _, _, _, _, _, _, _, _, _ => none
  | k + 1, x2, x3, x9, x10, x30, x1000, x1001, x1002, x1003 => if x30 = true then (if x1001 = (x1000.size : Int) then (impl_wire_number.j4 k x9 x10 x1000 x1001 true x1003) else (if 0 ≤ x1001 then (if x1001 < (x1000.size : Int) then (if (bt x1000 x1001) < 48 then (impl_wire_number.j2 k x2 x3 x9 x10 (bt x1000 x1001) true x1000 x1001 x1002 x1003) else (impl_wire_number.j2 k x2 x3 x9 x10 (bt x1000 x1001) (decide ((bt x1000 x1001) > 57)) x1000 x1001 x1002 x1003)) else (none)) else (none))) else (impl_wire_number.j4 k x9 x10 x1000 x1001 x1002 x1003)
def impl_wire_number.j2 : Nat → Int → Int → Int → Int → Int → Bool → ByteArray → Int → Bool → Bool → Option (Int × ByteArray × Int × Bool × Bool)
  | 0, _, _, _, _, _, _, _, _, _, _ => none
  | k + 1, x2, x3, x9, x10, x11, x58, x1000, x1001, x1002, x1003 => if x58 = true then (impl_wire_number.j4 k x9 x10 x1000 x1001 x1002 x1003) else (if x1001 > x10 then (impl_wire_number.j3 k x2 x3 x9 x10 x11 (x9 == 0) x1000 x1001 x1002 x1003) else (impl_wire_number.j3 k x2 x3 x9 x10 x11 false x1000 x1001 x1002 x1003))
def impl_wire_number.j3 : Nat → Int → Int → Int → Int → Int → Bool → ByteArray → Int → Bool → Bool → Option (Int × ByteArray × Int × Bool × Bool)
  | 0, _, _, _, _, _, _, _, _, _, _ => none
  | k + 1, x2, x3, x9, x10, x11, x68, x1000, x1001, x1002, x1003 => if x68 = true then (impl_wire_number.j4 k x9 x10 x1000 x1001 x1002 true) else ((impl_within.f (wrap64 ((wrap64 (10 * x9)) + ((x11 - 48) % 256))) x2 x3).bind fun t133 => (if t133 = true then (impl_wire_number.l0 k x2 x3 (wrap64 ((wrap64 (10 * x9)) + ((x11 - 48) % 256))) x10 x1000 (wrap64 (x1001 + 1)) x1002 x1003) else (impl_wire_number.l0 k x2 x3 (wrap64 ((wrap64 (10 * x9)) + ((x11 - 48) % 256))) x10 x1000 (wrap64 (x1001 + 1)) x1002 true)))
end
def impl_wire_number.f (k : Nat) (s0_0 : ByteArray) (s0_1 : Int) (s0_2 : Bool) (s0_3 : Bool) (a1 : Int) (a2 : Int) (a3 : Int) : Option (Int × ByteArray × Int × Bool × Bool) := (impl_wire_byte.f k s0_0 s0_1 s0_2 s0_3 a1).bind fun bt129 => (impl_wire_number.l0 k a2 a3 0 bt129.2.1 bt129.1 bt129.2.1 bt129.2.2.1 bt129.2.2.2)
theorem impl_wire_number.mono_l : ∀ k, (∀ y0 y1 y2 y3 y4 y5, LeO (impl_wire_number.j4 k y0 y1 y2 y3 y4 y5) (impl_wire_number.j4 (k + 1) y0 y1 y2 y3 y4 y5)) ∧ (∀ y0 y1 y2 y3 y4 y5, LeO (impl_wire_number.j5 k y0 y1 y2 y3 y4 y5) (impl_wire_number.j5 (k + 1) y0 y1 y2 y3 y4 y5)) ∧ (∀ y0 y1 y2 y3 y4 y5 y6 y7, LeO (impl_wire_number.l0 k y0 y1 y2 y3 y4 y5 y6 y7) (impl_wire_number.l0 (k + 1) y0 y1 y2 y3 y4 y5 y6 y7)) ∧ (∀ y0 y1 y2 y3 y4 y5 y6 y7 y8, LeO (impl_wire_number.j1 k y0 y1 y2 y3 y4 y5 y6 y7 y8) (impl_wire_number.j1 (k + 1) y0 y1 y2 y3 y4 y5 y6 y7 y8)) ∧ (∀ y0 y1 y2 y3 y4 y5 y6 y7 y8 y9, LeO (impl_wire_number.j2 k y0 y1 y2 y3 y4 y5 y6 y7 y8 y9) (impl_wire_number.j2 (k + 1) y0 y1 y2 y3 y4 y5 y6 y7 y8 y9)) ∧ (∀ y0 y1 y2 y3 y4 y5 y6 y7 y8 y9, LeO (impl_wire_number.j3 k y0 y1 y2 y3 y4 y5 y6 y7 y8 y9) (impl_wire_number.j3 (k + 1) y0 y1 y2 y3 y4 y5 y6 y7 y8 y9))
  | 0 => ⟨fun _ _ _ _ _ _ r h => by simp [impl_wire_number.j4] at h, fun _ _ _ _ _ _ r h => by simp [impl_wire_number.j5] at h, fun _ _ _ _ _ _ _ _ r h => by simp [impl_wire_number.l0] at h, fun _ _ _ _ _ _ _ _ _ r h => by simp [impl_wire_number.j1] at h, fun _ _ _ _ _ _ _ _ _ _ r h => by simp [impl_wire_number.j2] at h, fun _ _ _ _ _ _ _ _ _ _ r h => by simp [impl_wire_number.j3] at h⟩
  | k + 1 => by
    obtain ⟨ih0, ih1, ih2, ih3, ih4, ih5⟩ := impl_wire_number.mono_l k
    refine ⟨?_, ?_, ?_, ?_, ?_, ?_⟩
    · intro y0 y1 y2 y3 y4 y5
      unfold impl_wire_number.j4
      repeat' first
      | (with_reducible first | exact ih0 _ _ _ _ _ _ | exact ih1 _ _ _ _ _ _ | exact ih2 _ _ _ _ _ _ _ _ | exact ih3 _ _ _ _ _ _ _ _ _ | exact ih4 _ _ _ _ _ _ _ _ _ _ | exact ih5 _ _ _ _ _ _ _ _ _ _ | exact impl_wire_byte.mono _ _ _ _ _ _ | exact LeO.refl _ | exact LeO.none _ | refine LeO.ite ?_ ?_ | refine LeO.bind ?_ (fun _ => ?_))
    · intro y0 y1 y2 y3 y4 y5
      unfold impl_wire_number.j5
      repeat' first
      | (with_reducible first | exact ih0 _ _ _ _ _ _ | exact ih1 _ _ _ _ _ _ | exact ih2 _ _ _ _ _ _ _ _ | exact ih3 _ _ _ _ _ _ _ _ _ | exact ih4 _ _ _ _ _ _ _ _ _ _ | exact ih5 _ _ _ _ _ _ _ _ _ _ | exact impl_wire_byte.mono _ _ _ _ _ _ | exact LeO.refl _ | exact LeO.none _ | refine LeO.ite ?_ ?_ | refine LeO.bind ?_ (fun _ => ?_))
    · intro y0 y1 y2 y3 y4 y5 y6 y7
      unfold impl_wire_number.l0
      repeat' first
      | (with_reducible first | exact ih0 _ _ _ _ _ _ | exact ih1 _ _ _ _ _ _ | exact ih2 _ _ _ _ _ _ _ _ | exact ih3 _ _ _ _ _ _ _ _ _ | exact ih4 _ _ _ _ _ _ _ _ _ _ | exact ih5 _ _ _ _ _ _ _ _ _ _ | exact impl_wire_byte.mono _ _ _ _ _ _ | exact LeO.refl _ | exact LeO.none _ | refine LeO.ite ?_ ?_ | refine LeO.bind ?_ (fun _ => ?_))
    · intro y0 y1 y2 y3 y4 y5 y6 y7 y8
      unfold impl_wire_number.j1
      repeat' first
      | (with_reducible first | exact ih0 _ _ _ _ _ _ | exact ih1 _ _ _ _ _ _ | exact ih2 _ _ _ _ _ _ _ _ | exact ih3 _ _ _ _ _ _ _ _ _ | exact ih4 _ _ _ _ _ _ _ _ _ _ | exact ih5 _ _ _ _ _ _ _ _ _ _ | exact impl_wire_byte.mono _ _ _ _ _ _ | exact LeO.refl _ | exact LeO.none _ | refine LeO.ite ?_ ?_ | refine LeO.bind ?_ (fun _ => ?_))
    · intro y0 y1 y2 y3 y4 y5 y6 y7 y8 y9
      unfold impl_wire_number.j2
      repeat' first
      | (with_reducible first | exact ih0 _ _ _ _ _ _ | exact ih1 _ _ _ _ _ _ | exact ih2 _ _ _ _ _ _ _ _ | exact ih3 _ _ _ _ _ _ _ _ _ | exact ih4 _ _ _ _ _ _ _ _ _ _ | exact ih5 _ _ _ _ _ _ _ _ _ _ | exact impl_wire_byte.mono _ _ _ _ _ _ | exact LeO.refl _ | exact LeO.none _ | refine LeO.ite ?_ ?_ | refine LeO.bind ?_ (fun _ => ?_))
    · intro y0 y1 y2 y3 y4 y5 y6 y7 y8 y9
      unfold impl_wire_number.j3
      repeat' first
      | (with_reducible first | exact ih0 _ _ _ _ _ _ | exact ih1 _ _ _ _ _ _ | exact ih2 _ _ _ _ _ _ _ _ | exact ih3 _ _ _ _ _ _ _ _ _ | exact ih4 _ _ _ _ _ _ _ _ _ _ | exact ih5 _ _ _ _ _ _ _ _ _ _ | exact impl_wire_byte.mono _ _ _ _ _ _ | exact LeO.refl _ | exact LeO.none _ | refine LeO.ite ?_ ?_ | refine LeO.bind ?_ (fun _ => ?_))
theorem impl_wire_number.mono : ∀ a0 a1 a2 a3 a4 a5 a6 k, LeO (impl_wire_number.f k a0 a1 a2 a3 a4 a5 a6) (impl_wire_number.f (k + 1) a0 a1 a2 a3 a4 a5 a6) := by
  intro a0 a1 a2 a3 a4 a5 a6 k
  obtain ⟨ih0, ih1, ih2, ih3, ih4, ih5⟩ := impl_wire_number.mono_l k
  unfold impl_wire_number.f
  repeat' first
      | (with_reducible first | exact ih0 _ _ _ _ _ _ | exact ih1 _ _ _ _ _ _ | exact ih2 _ _ _ _ _ _ _ _ | exact ih3 _ _ _ _ _ _ _ _ _ | exact ih4 _ _ _ _ _ _ _ _ _ _ | exact ih5 _ _ _ _ _ _ _ _ _ _ | exact impl_wire_byte.mono _ _ _ _ _ _ | exact LeO.refl _ | exact LeO.none _ | refine LeO.ite ?_ ?_ | refine LeO.bind ?_ (fun _ => ?_))

/-! ### impl_OrderGet: function 5 -/
mutual
def impl_OrderGet.j3 : Nat → List ByteArray → ByteArray → Int → Bool → Bool → Option (List ByteArray × Int)
  | 0, _, _, _, _, _ => none
  | k + 1, x6, x2000, x2001, x2002, x2003 => if x2003 = true then (some ((([] : List ByteArray)), (-1))) else (if x2002 = true then (some ((([] : List ByteArray)), 0)) else (some (x6, x2001)))
def impl_OrderGet.l0 : Nat → ByteArray → Int → List ByteArray → Int → ByteArray → Int → Bool → Bool → Option (List ByteArray × Int)
  | 0, _, _, _, _, _, _, _, _ => none
  | k + 1, x0, x5, x6, x7, x2000, x2001, x2002, x2003 => if x7 < x5 then (if x2002 = true then (impl_OrderGet.j1 k x0 x5 x6 x7 false x2000 x2001 x2002 x2003) else (impl_OrderGet.j1 k x0 x5 x6 x7 (!x2003) x2000 x2001 x2002 x2003)) else (impl_OrderGet.j1 k x0 x5 x6 x7 false x2000 x2001 x2002 x2003)
def impl_OrderGet.j1 : Nat → ByteArray → Int → List ByteArray → Int → Bool → ByteArray → Int → Bool → Bool → Option (List ByteArray × Int)
  | 0, _, _, _, _, _, _, _, _, _ => none
  | k + 1, x0, x5, x6, x7, x31, x2000, x2001, x2002, x2003 => if x31 = true then ((impl_wire_number.f k x2000 x2001 x2002 x2003 36 0 40).bind fun bt158 => (if bt158.2.2.2.1 = true then (impl_OrderGet.j2 k x0 x5 x6 x7 bt158.1 true bt158.2.1 bt158.2.2.1 bt158.2.2.2.1 bt158.2.2.2.2) else (impl_OrderGet.j2 k x0 x5 x6 x7 bt158.1 bt158.2.2.2.2 bt158.2.1 bt158.2.2.1 bt158.2.2.2.1 bt158.2.2.2.2))) else (impl_OrderGet.j3 k x6 x2000 x2001 x2002 x2003)
def impl_OrderGet.j2 : Nat → ByteArray → Int → List ByteArray → Int → Int → Bool → ByteArray → Int → Bool → Bool → Option (List ByteArray × Int)
  | 0, _, _, _, _, _, _, _, _, _, _ => none
  | k + 1, x0, x5, x6, x7, x8, x45, x2000, x2001, x2002, x2003 => if x45 = true then (impl_OrderGet.j3 k x6 x2000 x2001 x2002 x2003) else (if (wrap64 ((x0.size : Int) - x2001)) < x8 then (impl_OrderGet.j3 k x6 x2000 x2001 true x2003) else (if 0 ≤ x2001 then (if x2001 ≤ (wrap64 (x2001 + x8)) then (if (wrap64 (x2001 + x8)) ≤ (x0.size : Int) then (if x6.length < 8796093022208 then ((impl_wire_byte.f k x2000 (wrap64 (x2001 + x8)) x2002 x2003 13).bind fun bt166 => ((impl_wire_byte.f k bt166.1 bt166.2.1 bt166.2.2.1 bt166.2.2.2 10).bind fun bt170 => (impl_OrderGet.l0 k x0 x5 (x6 ++ [x0.extract (x2001 : Int).toNat ((wrap64 (x2001 + x8)) : Int).toNat]) (wrap64 (x7 + 1)) bt170.1 bt170.2.1 bt170.2.2.1 bt170.2.2.2))) else (none)) else (none)) else (none)) else (none)))
end
def impl_OrderGet.f (k : Nat) (a0 : ByteArray) : Option (List ByteArray × Int) := (impl_wire_number.f k a0 0 false false 42 1 8).bind fun bt150 => (impl_OrderGet.l0 k a0 bt150.1 (([] : List ByteArray)) 0 bt150.2.1 bt150.2.2.1 bt150.2.2.2.1 bt150.2.2.2.2)
theorem impl_OrderGet.mono_l : ∀ k, (∀ y0 y1 y2 y3 y4, LeO (impl_OrderGet.j3 k y0 y1 y2 y3 y4) (impl_OrderGet.j3 (k + 1) y0 y1 y2 y3 y4)) ∧ (∀ y0 y1 y2 y3 y4 y5 y6 y7, LeO (impl_OrderGet.l0 k y0 y1 y2 y3 y4 y5 y6 y7) (impl_OrderGet.l0 (k + 1) y0 y1 y2 y3 y4 y5 y6 y7)) ∧ (∀ y0 y1 y2 y3 y4 y5 y6 y7 y8, LeO (impl_OrderGet.j1 k y0 y1 y2 y3 y4 y5 y6 y7 y8) (impl_OrderGet.j1 (k + 1) y0 y1 y2 y3 y4 y5 y6 y7 y8)) ∧ (∀ y0 y1 y2 y3 y4 y5 y6 y7 y8 y9, LeO (impl_OrderGet.j2 k y0 y1 y2 y3 y4 y5 y6 y7 y8 y9) (impl_OrderGet.j2 (k + 1) y0 y1 y2 y3 y4 y5 y6 y7 y8 y9))
  | 0 => ⟨fun _ _ _ _ _ r h => by simp [impl_OrderGet.j3] at h, fun _ _ _ _ _ _ _ _ r h => by simp [impl_OrderGet.l0] at h, fun _ _ _ _ _ _ _ _ _ r h => by simp [impl_OrderGet.j1] at h, fun _ _ _ _ _ _ _ _ _ _ r h => by simp [impl_OrderGet.j2] at h⟩
  | k + 1 => by
    obtain ⟨ih0, ih1, ih2, ih3⟩ := impl_OrderGet.mono_l k
    refine ⟨?_, ?_, ?_, ?_⟩
    · intro y0 y1 y2 y3 y4
      unfold impl_OrderGet.j3
      repeat' first
      | (with_reducible first | exact ih0 _ _ _ _ _ | exact ih1 _ _ _ _ _ _ _ _ | exact ih2 _ _ _ _ _ _ _ _ _ | exact ih3 _ _ _ _ _ _ _ _ _ _ | exact impl_wire_byte.mono _ _ _ _ _ _ | exact impl_wire_number.mono _ _ _ _ _ _ _ _ | exact LeO.refl _ | exact LeO.none _ | refine LeO.ite ?_ ?_ | refine LeO.bind ?_ (fun _ => ?_))
    · intro y0 y1 y2 y3 y4 y5 y6 y7
      unfold impl_OrderGet.l0
      repeat' first
      | (with_reducible first | exact ih0 _ _ _ _ _ | exact ih1 _ _ _ _ _ _ _ _ | exact ih2 _ _ _ _ _ _ _ _ _ | exact ih3 _ _ _ _ _ _ _ _ _ _ | exact impl_wire_byte.mono _ _ _ _ _ _ | exact impl_wire_number.mono _ _ _ _ _ _ _ _ | exact LeO.refl _ | exact LeO.none _ | refine LeO.ite ?_ ?_ | refine LeO.bind ?_ (fun _ => ?_))
    · intro y0 y1 y2 y3 y4 y5 y6 y7 y8
      unfold impl_OrderGet.j1
      repeat' first
      | (with_reducible first | exact ih0 _ _ _ _ _ | exact ih1 _ _ _ _ _ _ _ _ | exact ih2 _ _ _ _ _ _ _ _ _ | exact ih3 _ _ _ _ _ _ _ _ _ _ | exact impl_wire_byte.mono _ _ _ _ _ _ | exact impl_wire_number.mono _ _ _ _ _ _ _ _ | exact LeO.refl _ | exact LeO.none _ | refine LeO.ite ?_ ?_ | refine LeO.bind ?_ (fun _ => ?_))
    · intro y0 y1 y2 y3 y4 y5 y6 y7 y8 y9
      unfold impl_OrderGet.j2
      repeat' first
      | (with_reducible first | exact ih0 _ _ _ _ _ | exact ih1 _ _ _ _ _ _ _ _ | exact ih2 _ _ _ _ _ _ _ _ _ | exact ih3 _ _ _ _ _ _ _ _ _ _ | exact impl_wire_byte.mono _ _ _ _ _ _ | exact impl_wire_number.mono _ _ _ _ _ _ _ _ | exact LeO.refl _ | exact LeO.none _ | refine LeO.ite ?_ ?_ | refine LeO.bind ?_ (fun _ => ?_))
theorem impl_OrderGet.mono : ∀ a0 k, LeO (impl_OrderGet.f k a0) (impl_OrderGet.f (k + 1) a0) := by
  intro a0 k
  obtain ⟨ih0, ih1, ih2, ih3⟩ := impl_OrderGet.mono_l k
  unfold impl_OrderGet.f
  repeat' first
      | (with_reducible first | exact ih0 _ _ _ _ _ | exact ih1 _ _ _ _ _ _ _ _ | exact ih2 _ _ _ _ _ _ _ _ _ | exact ih3 _ _ _ _ _ _ _ _ _ _ | exact impl_wire_byte.mono _ _ _ _ _ _ | exact impl_wire_number.mono _ _ _ _ _ _ _ _ | exact LeO.refl _ | exact LeO.none _ | refine LeO.ite ?_ ?_ | refine LeO.bind ?_ (fun _ => ?_))

/-! ### laws_eqStringS: function 6 -/
def laws_eqStringS.l0 : Nat → List ByteArray → List ByteArray → Int → Option (Bool)
  | 0, _, _, _ => none
  | k + 1, x0, x1, x5 => if x5 < (x0.length : Int) then (if 0 ≤ x5 then (if x5 < (x1.length : Int) then (if (rdOf ByteArray.empty x0 x5).toList = (rdOf ByteArray.empty x1 x5).toList then (laws_eqStringS.l0 k x0 x1 (wrap64 (x5 + 1))) else (some false)) else (none)) else (none)) else (some true)
def laws_eqStringS.f (k : Nat) (l0 : List ByteArray) (l1 : List ByteArray) : Option (Bool) := if (l0.length : Int) = (l1.length : Int) then (laws_eqStringS.l0 k l0 l1 0) else (some false)
theorem laws_eqStringS.mono_l : ∀ k, (∀ y0 y1 y2, LeO (laws_eqStringS.l0 k y0 y1 y2) (laws_eqStringS.l0 (k + 1) y0 y1 y2))
  | 0 => fun _ _ _ r h => by simp [laws_eqStringS.l0] at h
  | k + 1 => by
    have ih0 := laws_eqStringS.mono_l k
    · intro y0 y1 y2
      unfold laws_eqStringS.l0
      repeat' first
      | (with_reducible first | exact ih0 _ _ _ | exact LeO.refl _ | exact LeO.none _ | refine LeO.ite ?_ ?_ | refine LeO.bind ?_ (fun _ => ?_))
theorem laws_eqStringS.mono : ∀ a0 a1 k, LeO (laws_eqStringS.f k a0 a1) (laws_eqStringS.f (k + 1) a0 a1) := by
  intro a0 a1 k
  have ih0 := laws_eqStringS.mono_l k
  unfold laws_eqStringS.f
  repeat' first
      | (with_reducible first | exact ih0 _ _ _ | exact LeO.refl _ | exact LeO.none _ | refine LeO.ite ?_ ?_ | refine LeO.bind ?_ (fun _ => ?_))

/-! ### laws_markText: function 12 -/
def laws_markText.l0 : Nat → Int → ByteArray → Option (ByteArray)
  | 0, _, _ => none
  | k + 1, x0, x3 => if x0 > 0 then ((some (([(wrap64 (48 + (Int.tmod x0 10))) % 256] : List Int) : List Int)).bind fun y152 => (if (strOfNums y152).size + x3.size ≤ 9223372036854775807 then (laws_markText.l0 k (wrap64 (Int.tdiv x0 10)) ((strOfNums y152) ++ x3)) else (none))) else (if 1 + x3.size ≤ 9223372036854775807 then (some ((⟨#[109]⟩ : ByteArray) ++ x3)) else (none))
def laws_markText.f (k : Nat) (a0 : Int) : Option (ByteArray) := if a0 ≤ 0 then (some (⟨#[109, 48]⟩ : ByteArray)) else (laws_markText.l0 k a0 (⟨#[]⟩ : ByteArray))
theorem laws_markText.mono_l : ∀ k, (∀ y0 y1, LeO (laws_markText.l0 k y0 y1) (laws_markText.l0 (k + 1) y0 y1))
  | 0 => fun _ _ r h => by simp [laws_markText.l0] at h
  | k + 1 => by
    have ih0 := laws_markText.mono_l k
    · intro y0 y1
      unfold laws_markText.l0
      repeat' first
      | (with_reducible first | exact ih0 _ _ | exact LeO.refl _ | exact LeO.none _ | refine LeO.ite ?_ ?_ | refine LeO.bind ?_ (fun _ => ?_))
theorem laws_markText.mono : ∀ a0 k, LeO (laws_markText.f k a0) (laws_markText.f (k + 1) a0) := by
  intro a0 k
  have ih0 := laws_markText.mono_l k
  unfold laws_markText.f
  repeat' first
      | (with_reducible first | exact ih0 _ _ | exact LeO.refl _ | exact LeO.none _ | refine LeO.ite ?_ ?_ | refine LeO.bind ?_ (fun _ => ?_))

/-! ### laws_markStringS: function 7 -/
def laws_markStringS.l0 : Nat → List ByteArray → Int → Int → Option (Int × List ByteArray)
  | 0, _, _, _ => none
  | k + 1, x0, x1, x5 => if x5 < (x0.length : Int) then ((laws_markText.f k x1).bind fun t155 => (if 0 ≤ x5 then (laws_markStringS.l0 k (x0.set (x5 : Int).toNat t155) (wrap64 (x1 + 1)) (wrap64 (x5 + 1))) else (none))) else (some (x1, x0))
def laws_markStringS.f (k : Nat) (l0 : List ByteArray) (a1 : Int) : Option (Int × List ByteArray) := laws_markStringS.l0 k l0 a1 0
theorem laws_markStringS.mono_l : ∀ k, (∀ y0 y1 y2, LeO (laws_markStringS.l0 k y0 y1 y2) (laws_markStringS.l0 (k + 1) y0 y1 y2))
  | 0 => fun _ _ _ r h => by simp [laws_markStringS.l0] at h
  | k + 1 => by
    have ih0 := laws_markStringS.mono_l k
    · intro y0 y1 y2
      unfold laws_markStringS.l0
      repeat' first
      | (with_reducible first | exact ih0 _ _ _ | exact laws_markText.mono _ _ | exact LeO.refl _ | exact LeO.none _ | refine LeO.ite ?_ ?_ | refine LeO.bind ?_ (fun _ => ?_))
theorem laws_markStringS.mono : ∀ a0 a1 k, LeO (laws_markStringS.f k a0 a1) (laws_markStringS.f (k + 1) a0 a1) := by
  intro a0 a1 k
  have ih0 := laws_markStringS.mono_l k
  unfold laws_markStringS.f
  repeat' first
      | (with_reducible first | exact ih0 _ _ _ | exact laws_markText.mono _ _ | exact LeO.refl _ | exact LeO.none _ | refine LeO.ite ?_ ?_ | refine LeO.bind ?_ (fun _ => ?_))

/-! ### laws_heldStringS: function 8 -/
def laws_heldStringS.l0 : Nat → List ByteArray → Int → Int → Option (Int)
  | 0, _, _, _ => none
  | k + 1, x0, x1, x5 => if x5 < (x0.length : Int) then (if 0 ≤ x5 then ((laws_markText.f k x1).bind fun t158 => (if (rdOf ByteArray.empty x0 x5).toList = t158.toList then (laws_heldStringS.l0 k x0 (wrap64 (x1 + 1)) (wrap64 (x5 + 1))) else (some (-1)))) else (none)) else (some x1)
def laws_heldStringS.f (k : Nat) (l0 : List ByteArray) (a1 : Int) : Option (Int) := laws_heldStringS.l0 k l0 a1 0
theorem laws_heldStringS.mono_l : ∀ k, (∀ y0 y1 y2, LeO (laws_heldStringS.l0 k y0 y1 y2) (laws_heldStringS.l0 (k + 1) y0 y1 y2))
  | 0 => fun _ _ _ r h => by simp [laws_heldStringS.l0] at h
  | k + 1 => by
    have ih0 := laws_heldStringS.mono_l k
    · intro y0 y1 y2
      unfold laws_heldStringS.l0
      repeat' first
      | (with_reducible first | exact ih0 _ _ _ | exact laws_markText.mono _ _ | exact LeO.refl _ | exact LeO.none _ | refine LeO.ite ?_ ?_ | refine LeO.bind ?_ (fun _ => ?_))
theorem laws_heldStringS.mono : ∀ a0 a1 k, LeO (laws_heldStringS.f k a0 a1) (laws_heldStringS.f (k + 1) a0 a1) := by
  intro a0 a1 k
  have ih0 := laws_heldStringS.mono_l k
  unfold laws_heldStringS.f
  repeat' first
      | (with_reducible first | exact ih0 _ _ _ | exact laws_markText.mono _ _ | exact LeO.refl _ | exact LeO.none _ | refine LeO.ite ?_ ?_ | refine LeO.bind ?_ (fun _ => ?_))

/-! ### laws_FnExactOrderGet: function 3 -/
mutual
def laws_FnExactOrderGet.j0 : Nat → ByteArray → List ByteArray → Int → List ByteArray → Bool → Option (Bool)
  | 0, _, _, _, _, _ => none
  | k + 1, x0, x3, x4, x5, x32 => if x32 = true then (some false) else ((laws_markStringS.f k x5 1).bind fun bt168 => ((laws_heldStringS.f k bt168.2 1).bind fun t170 => (if t170 < 0 then (some false) else (if t170 = bt168.1 then ((impl_OrderGet.f k x0).bind fun bt171 => ((laws_eqStringS.f k bt171.1 x3).bind fun t175 => (if t175 = true then (laws_FnExactOrderGet.j1 k bt168.2 bt168.1 (bt171.2 != x4)) else (laws_FnExactOrderGet.j1 k bt168.2 bt168.1 true)))) else (some false)))))
def laws_FnExactOrderGet.j1 : Nat → List ByteArray → Int → Bool → Option (Bool)
  | 0, _, _, _ => none
  | k + 1, x5, x7, x57 => if x57 = true then (some false) else ((laws_heldStringS.f k x5 1).bind fun t176 => (if t176 < 0 then (some false) else (if t176 = x7 then (some true) else (some false))))
end
def laws_FnExactOrderGet.f (k : Nat) (a0 : ByteArray) : Option (Bool) := if (a0.size : Int) > 1048576 then (some true) else ((spec_OrderGet.f k a0).bind fun bt159 => ((impl_OrderGet.f k a0).bind fun bt163 => ((laws_eqStringS.f k bt163.1 bt159.1).bind fun t167 => (if t167 = true then (laws_FnExactOrderGet.j0 k a0 bt159.1 bt159.2 bt163.1 (bt163.2 != bt159.2)) else (laws_FnExactOrderGet.j0 k a0 bt159.1 bt159.2 bt163.1 true)))))
theorem laws_FnExactOrderGet.mono_l : ∀ k, (∀ y0 y1 y2 y3 y4, LeO (laws_FnExactOrderGet.j0 k y0 y1 y2 y3 y4) (laws_FnExactOrderGet.j0 (k + 1) y0 y1 y2 y3 y4)) ∧ (∀ y0 y1 y2, LeO (laws_FnExactOrderGet.j1 k y0 y1 y2) (laws_FnExactOrderGet.j1 (k + 1) y0 y1 y2))
  | 0 => ⟨fun _ _ _ _ _ r h => by simp [laws_FnExactOrderGet.j0] at h, fun _ _ _ r h => by simp [laws_FnExactOrderGet.j1] at h⟩
  | k + 1 => by
    obtain ⟨ih0, ih1⟩ := laws_FnExactOrderGet.mono_l k
    refine ⟨?_, ?_⟩
    · intro y0 y1 y2 y3 y4
      unfold laws_FnExactOrderGet.j0
      repeat' first
      | (with_reducible first | exact ih0 _ _ _ _ _ | exact ih1 _ _ _ | exact impl_OrderGet.mono _ _ | exact laws_eqStringS.mono _ _ _ | exact laws_heldStringS.mono _ _ _ | exact laws_markStringS.mono _ _ _ | exact spec_OrderGet.mono _ _ | exact LeO.refl _ | exact LeO.none _ | refine LeO.ite ?_ ?_ | refine LeO.bind ?_ (fun _ => ?_))
    · intro y0 y1 y2
      unfold laws_FnExactOrderGet.j1
      repeat' first
      | (with_reducible first | exact ih0 _ _ _ _ _ | exact ih1 _ _ _ | exact impl_OrderGet.mono _ _ | exact laws_eqStringS.mono _ _ _ | exact laws_heldStringS.mono _ _ _ | exact laws_markStringS.mono _ _ _ | exact spec_OrderGet.mono _ _ | exact LeO.refl _ | exact LeO.none _ | refine LeO.ite ?_ ?_ | refine LeO.bind ?_ (fun _ => ?_))
theorem laws_FnExactOrderGet.mono : ∀ a0 k, LeO (laws_FnExactOrderGet.f k a0) (laws_FnExactOrderGet.f (k + 1) a0) := by
  intro a0 k
  obtain ⟨ih0, ih1⟩ := laws_FnExactOrderGet.mono_l k
  unfold laws_FnExactOrderGet.f
  repeat' first
      | (with_reducible first | exact ih0 _ _ _ _ _ | exact ih1 _ _ _ | exact impl_OrderGet.mono _ _ | exact laws_eqStringS.mono _ _ _ | exact laws_heldStringS.mono _ _ _ | exact laws_markStringS.mono _ _ _ | exact spec_OrderGet.mono _ _ | exact LeO.refl _ | exact LeO.none _ | refine LeO.ite ?_ ?_ | refine LeO.bind ?_ (fun _ => ?_))

end Go.Proofs.Ythdbjegppeekoaa.P
