import Derived.Test.YthdbjegppeekoaaPx1
import Derived.Test.YthdbjegppeekoaaQHeadO
import Derived.Test.YthdbjegppeekoaaQList
import Derived.Test.YthdbjegppeekoaaQMark
/- Plain law: OrderGet of the program and of the reference give the same, and share nothing. -/
namespace Go.Proofs.Ythdbjegppeekoaa.Q
open Go.RowKit Go.Proofs.YthdbjegppeekoaaW.PrintWords Go.Proofs.YthdbjegppeekoaaW.PrintLast Go.Proofs.Ythdbjegppeekoaa.P

theorem FnExactOrderGet_pure (a : ByteArray) (_ha : a.size ≤ 140737488351232) : ∃ k, laws_FnExactOrderGet.f k a = some true := by
  refine exists_of (r := true) ?_
  unfold laws_FnExactOrderGet.f
  refine both (fun _ => ret _) (fun h => ?_)
  have hS := spec_OrderGet_ev a (by omega)
  have hI := impl_OrderGet_ev a (by omega)
  have hr := orderM_len a
  generalize orderM a = r at hS hI hr
  obtain ⟨r1, r2⟩ := r
  dsimp only at hr
  have hE := eqStringS_same r1 (by unfold maxLen; omega)
  have hm := markStringS_ev r1 1 (by omega) (by omega)
  have hh := heldStringS_ev 1 r1.length (by omega) (by omega)
  repeat' first
    | exact ret _
    | exact ret' rfl
    | dsimp only
    | refine Ev.bind (hS) ?_
    | refine Ev.bind (hI) ?_
    | refine Ev.bind (hE) ?_
    | refine Ev.bind (hm) ?_
    | refine Ev.bind (hh) ?_
    | refine Ev.step (g := fun k => laws_FnExactOrderGet.j0 k _ _ _ _ _) (fun k => by rw [laws_FnExactOrderGet.j0]) ?_
    | refine Ev.step (g := fun k => laws_FnExactOrderGet.j1 k _ _ _) (fun k => by rw [laws_FnExactOrderGet.j1]) ?_
    | refine pos rfl ?_
    | refine neg (by decide) ?_
    | refine pos (by omega) ?_
    | refine neg (by omega) ?_
    | refine neg (by simp) ?_
end Go.Proofs.Ythdbjegppeekoaa.Q
