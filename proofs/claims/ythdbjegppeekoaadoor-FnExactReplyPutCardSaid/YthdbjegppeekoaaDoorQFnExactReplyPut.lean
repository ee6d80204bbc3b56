import Derived.Test.YthdbjegppeekoaaDoorPx1
import Derived.Test.YthdbjegppeekoaaDoorQPutT
/- Plain law: ReplyPut of the program and of the reference give the same, and the argument reads as it did. -/
namespace Go.Proofs.YthdbjegppeekoaaDoor.Q
open Go.RowKit Go.Proofs.YthdbjegppeekoaaDoorW.PrintWords Go.Proofs.YthdbjegppeekoaaDoorW.PrintLast Go.Proofs.YthdbjegppeekoaaDoor.P

theorem FnExactReplyPut_pure (x : S25) (hx : OkT x) : ∃ k, laws_FnExactReplyPut.f k x.f0 x.f1 x.f2 x.f3 x.f4 = some true := by
  refine exists_of (r := true) ?_
  unfold laws_FnExactReplyPut.f
  refine Ev.bind (szT_ev x hx 1048576 (by omega) (by omega)) (both (fun _ => ret _) (fun h => ?_))
  have hz : szT x ≤ 1048576 := by
    unfold subM at h
    split at h
    · rename_i h2
      exact Int.ofNat_le.1 h2
    · exact absurd (by decide) h
  have hT := toT_ev x hz
  have hn := num_cv x hx
  have hr : szR (cvT x) ≤ 1048576 := by rw [szR_cv]; exact hz
  have hS := spec_put (cvT x) hn hr
  have hI := impl_put (cvT x) hn hr
  have hE := eqT_same (cvT x) hr
  exact Ev.bind hT (Ev.bind hS (Ev.bind hT (Ev.bind hI (pos rfl (Ev.bind hT (Ev.bind hE (pos rfl (ret _))))))))
end Go.Proofs.YthdbjegppeekoaaDoor.Q
