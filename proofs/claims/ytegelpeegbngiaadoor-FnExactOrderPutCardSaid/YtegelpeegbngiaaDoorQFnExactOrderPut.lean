import Derived.Test.YtegelpeegbngiaaDoorPx1
import Derived.Test.YtegelpeegbngiaaDoorQOrderPut
/- Plain law: OrderPut of the program and of the reference give the same. -/
namespace Go.Proofs.YtegelpeegbngiaaDoor.Q
open Go.RowKit Go.Proofs.YtegelpeegbngiaaDoorW.PrintWords Go.Proofs.YtegelpeegbngiaaDoorW.PrintLast Go.Proofs.YtegelpeegbngiaaDoor.P

theorem FnExactOrderPut_pure (l : List ByteArray) (hl : l.length ≤ maxLen) (hs : ∀ s ∈ l, s.size ≤ maxLen) : ∃ k, laws_FnExactOrderPut.f k l = some true := by
  refine exists_of (r := true) ?_
  unfold laws_FnExactOrderPut.f
  obtain ⟨v, hv, h1, h2, h3⟩ := szStringS_ev l hl hs 1048576 (by omega) (by omega)
  refine Ev.bind hv (both (fun _ => ret _) (fun h => ?_))
  obtain ⟨h4, h5⟩ := h3 (by omega)
  have hT := toStringS_ev l (by omega)
  have hS := spec_OrderPut_ev l hl
  have hI := impl_OrderPut_ev l hl
  have hE := eqStringS_same l hl
  exact Ev.bind hT (Ev.bind hS (Ev.bind hT (Ev.bind hI (pos rfl (Ev.bind hT (Ev.bind hE (pos rfl (ret _))))))))

end Go.Proofs.YtegelpeegbngiaaDoor.Q
