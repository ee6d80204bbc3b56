import Derived.Test.YtcdiokflmambiaaPx1
import Derived.Test.YtcdiokflmambiaaQList
/- Plain lemmas: a list copied, on both sides. -/
namespace Go.Proofs.Ytcdiokflmambiaa.Q
open Go.RowKit Go.Proofs.YtcdiokflmambiaaW.PrintWords Go.Proofs.YtcdiokflmambiaaW.PrintLast Go.Proofs.Ytcdiokflmambiaa.P

theorem textsB_le {l : List ByteArray} {m : Int} (h : textsB l m = true) : (l.length : Int) ≤ m ∧ ∀ s ∈ l, s.size ≤ 40 := by
  simp only [textsB, Bool.and_eq_true, decide_eq_true_eq, List.all_eq_true] at h
  exact ⟨h.2, h.1⟩
theorem l2Copy_ev (l : List ByteArray) (h : l.length < 8796093022208) : Ev (fun _ => spec_l2Copy.f l) l := by
  unfold spec_l2Copy.f
  refine Ev.bind (ret _) (pos ?_ (ret' rfl))
  simpa using h
theorem copied_ev (l : List ByteArray) (h : l.length < 8796093022208) : Ev (fun _ => impl_copied.f l) l := by
  unfold impl_copied.f
  refine Ev.bind (ret _) (pos ?_ (ret' rfl))
  simpa using h
end Go.Proofs.Ytcdiokflmambiaa.Q
