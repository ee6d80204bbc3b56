import Derived.Test.YtaoeibfegfkdjaaPx1
import Derived.Test.YtaoeibfegfkdjaaQRange
/- Plain lemmas: ListTrim on both sides is ListRange. -/
namespace Go.Proofs.Ytaoeibfegfkdjaa.Q
open Go.RowKit Go.Proofs.YtaoeibfegfkdjaaW.PrintWords Go.Proofs.YtaoeibfegfkdjaaW.PrintLast Go.Proofs.Ytaoeibfegfkdjaa.P

theorem impl_ListTrim_ev (l : List ByteArray) (hl : l.length ≤ maxLen) (a b : Int) : Ev (fun k => impl_ListTrim.f k l a b) (rangeM l a b) := by
  unfold impl_ListTrim.f
  exact Ev.bind (impl_ListRange_ev l hl a b) (ret _)
theorem spec_ListTrim_ev (l : List ByteArray) (hl : l.length ≤ maxLen) (a b : Int) : Ev (fun k => spec_ListTrim.f k l a b) (rangeM l a b) := by
  unfold spec_ListTrim.f
  exact Ev.bind (spec_ListRange_ev l hl a b) (ret _)
end Go.Proofs.Ytaoeibfegfkdjaa.Q
