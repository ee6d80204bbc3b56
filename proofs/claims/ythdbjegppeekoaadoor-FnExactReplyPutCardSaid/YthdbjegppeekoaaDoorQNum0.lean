
import Derived.Test.YthdbjegppeekoaaDoorQEv
/- Plain lemmas: a number within bounds, a place, on both sides. -/
namespace Go.Proofs.YthdbjegppeekoaaDoor.Q
open Go.RowKit Go.Proofs.YthdbjegppeekoaaDoorW.PrintWords Go.Proofs.YthdbjegppeekoaaDoorW.PrintLast Go.Proofs.YthdbjegppeekoaaDoor.P

def inB (n low high : Int) : Bool := decide (low ≤ n) && decide (n ≤ high)
def placeB (n : Int) : Bool := inB n (-1000000000) 1000000000
theorem inB_iff {n low high : Int} : inB n low high = true ↔ low ≤ n ∧ n ≤ high := by simp [inB]
theorem inB_false {n low high : Int} : inB n low high = false ↔ ¬ (low ≤ n ∧ n ≤ high) := by rw [← inB_iff]; simp
theorem place_bd {n : Int} (h : placeB n = true) : -1000000000 ≤ n ∧ n ≤ 1000000000 := inB_iff.1 h

end Go.Proofs.YthdbjegppeekoaaDoor.Q
