/- The library's sort, laid at this program. -/
import Derived.Test.YtapjobndmmkanaaProg
import Derived.Shelf.Sort.Plain
import Derived.Shelf.Lays
import Derived.Shelf.Bodies
namespace Go.Proofs.Ytapjobndmmkanaa
open Go.Shelf
end Go.Proofs.Ytapjobndmmkanaa
