
/- The laws' own calls: same, changed. -/
import Derived.Test.YtabngibognlmoaaDk4
namespace Go.Proofs.Ytabngibognlmoaa.Q
open Go.Maps Go.WideShapes Go.WideMaps Go.RowKit Go.Proofs.YtabngibognlmoaaW.PrintWords Go.Proofs.YtabngibognlmoaaW.PrintLast Go.Proofs.YtabngibognlmoaaW.PrintMore
set_option linter.unusedVariables false
set_option linter.unusedSimpArgs false
set_option maxHeartbeats 10000000
set_option maxRecDepth 100000
/-! same -/
/-! changed -/
def OkA (a : S40) : Prop := a.f1.size ≤ BM ∧ a.f2.size ≤ BM ∧ a.f3.size ≤ BM
end Go.Proofs.Ytabngibognlmoaa.Q