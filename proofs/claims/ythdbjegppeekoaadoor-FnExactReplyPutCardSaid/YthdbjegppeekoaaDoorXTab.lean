import Derived.Test.YthdbjegppeekoaaDoorXDel
import Derived.Test.YthdbjegppeekoaaDoorXShelf
import Derived.Lib.LaidTab
import Derived.Lib.AppendIntMem
/- What the library's tables are, and that a call of the program's own keeps them. -/
namespace Go.Proofs.YthdbjegppeekoaaDoor.X
open Go.RowKit

/-- The table of the powers of ten reads as its initialiser lays it. -/
def Tab (w : World) : Prop := Go.Lib.TabIs Tryd.prog w "internal/strconv.uint64pow10" .u64 Go.Lib.pow10Tab
/-- A variable of an error's type holds one, or nil. -/
def Err (g : Nat) (w : World) : Prop := ∃ ev, w.cell? ⟨g, 0, none⟩ = some ev ∧ (ev = .nilIface ∨ ∃ te pe, ev = .iface te pe)
def Tabs (w : World) : Prop := Tab w ∧ Err 0 w ∧ Err 1 w
theorem Tab.keep {w w' : World} (h : Tab w) (hb : Below w.heap.size w w') : Tab w' := by
  unfold Tab Go.Lib.TabIs World.var? at *
  cases hg : Tryd.prog.globalNamed "internal/strconv.uint64pow10" with
  | none => simp [hg] at h
  | some g =>
    simp only [hg, Option.bind_some] at h ⊢
    have hlt : g < w.heap.size := by
      rcases Nat.lt_or_ge g w.heap.size with h' | h'
      · exact h'
      · rw [Array.getElem?_eq_none h'] at h; simp at h
    rw [hb.block g hlt]
    exact h
theorem Err.keep {g : Nat} {w w' : World} (h : Err g w) (hb : Below w.heap.size w w') : Err g w' := by
  obtain ⟨ev, h1, h2⟩ := h
  refine ⟨ev, ?_, h2⟩
  unfold World.cell? at *
  have hlt : g < w.heap.size := by
    rcases Nat.lt_or_ge g w.heap.size with h' | h'
    · exact h'
    · have : w.heap[g]? = none := Array.getElem?_eq_none h'
      simp only [this] at h1
      cases h1
  simp only [hb.block g hlt]
  exact h1
theorem Tabs.keep {w w' : World} (h : Tabs w) (hb : Below w.heap.size w w') : Tabs w' := ⟨h.1.keep hb, h.2.1.keep hb, h.2.2.keep hb⟩
theorem below_grow (w : World) (k : Nat) (os : Array Obj) : Below w.heap.size w (Go.Sort.grow (w.drewN k) os) := Go.Lib.below_grow _ w (Nat.le_refl _) k os

end Go.Proofs.YthdbjegppeekoaaDoor.X
