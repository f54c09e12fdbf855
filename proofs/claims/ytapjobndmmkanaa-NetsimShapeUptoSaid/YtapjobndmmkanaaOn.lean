/- The number of nodes of a net (for seats that have no text Cq; others skip this one). -/
import Derived.Test.YtapjobndmmkanaaQr
import Derived.Test.YtapjobndmmkanaaDb
import Derived.Test.YtapjobndmmkanaaBa
import Derived.Test.YtapjobndmmkanaaTy
import Derived.Test.YtapjobndmmkanaaDa
import Derived.Test.YtapjobndmmkanaaSa
set_option linter.unusedVariables false
set_option linter.unusedSimpArgs false
set_option maxRecDepth 100000
set_option maxHeartbeats 4000000
namespace Go.Proofs.Ytapjobndmmkanaa
open Go Go.RowKit
end Go.Proofs.Ytapjobndmmkanaa
