import Derived.Test.YtegelpeegbngiaaDoorPx1
import Derived.Test.YtegelpeegbngiaaDoorQInt
/- Plain law: IntGet of the program and of the reference give the same. -/
namespace Go.Proofs.YtegelpeegbngiaaDoor.Q
open Go.RowKit Go.Proofs.YtegelpeegbngiaaDoorW.PrintWords Go.Proofs.YtegelpeegbngiaaDoorW.PrintLast Go.Proofs.YtegelpeegbngiaaDoor.P

theorem FnExactIntGet_pure (s : ByteArray) (_ : s.size ≤ maxLen) : ∃ k, laws_FnExactIntGet.f k s = some true := by
  refine exists_of (r := true) ?_
  unfold laws_FnExactIntGet.f
  refine both (fun _ => ret _) (fun h => ?_)
  have hs : s.size ≤ 1048576 := by omega
  refine Ev.bind (spec_IntGet_ev s hs) (Ev.bind (val (impl_IntGet_eq s hs)) ?_)
  rw [ig_same]
  exact pos rfl (neg (by simp) (ret _))


end Go.Proofs.YtegelpeegbngiaaDoor.Q
