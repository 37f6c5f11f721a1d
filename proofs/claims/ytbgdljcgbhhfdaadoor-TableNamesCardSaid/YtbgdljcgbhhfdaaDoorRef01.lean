/- The reference of layer 1: its functions answer as those of package spell do, at every string. -/
import Derived.Test.YtbgdljcgbhhfdaaDoorSpPlain
namespace Go.Proofs.YtbgdljcgbhhfdaaDoor
open Go.RowKit

end Go.Proofs.YtbgdljcgbhhfdaaDoor
