/- The reference's assignments, memories, shapes; equal diagrams. -/
import Derived.Test.YtgfnpfchdlcoeaaQ
import Derived.Test.YtgfnpfchdlcoeaaCq
set_option linter.unusedVariables false
set_option linter.unusedSimpArgs false
namespace Go.Proofs.Ytgfnpfchdlcoeaa
open Go Go.RowKit
/-! ### Memories -/
end Go.Proofs.Ytgfnpfchdlcoeaa
