/- The closed example that every statement of the line holds: the program's functions at one matrix. No condition. -/
import Derived.Test.YthjmfbmffchicaaKRf5
namespace Go.Proofs.Ythjmfbmffchicaa.Pure
open Go.RowKit Go.Proofs.Ythjmfbmffchicaa.V Go.Proofs.YthjmfbmffchicaaW.PrintWords Go.Proofs.YthjmfbmffchicaaW.PrintLast
set_option maxRecDepth 100000 in
theorem alive_ev : Ev (fun k => l5alive.f k) true :=
  Ev.of l5alive.mono (k := 100) (by decide +kernel)
end Go.Proofs.Ythjmfbmffchicaa.Pure
