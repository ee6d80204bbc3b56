import Derived.Test.YtaoeibfegfkdjaaPx1
import Derived.Test.YtaoeibfegfkdjaaQEv
/- The constants: nothing is left to compute. -/
namespace Go.Proofs.Ytaoeibfegfkdjaa.Q
open Go.Proofs.Ytaoeibfegfkdjaa.P
theorem FnExactConstants_pure : laws_FnExactConstants.f = some true := rfl
end Go.Proofs.Ytaoeibfegfkdjaa.Q
