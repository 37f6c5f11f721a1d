/- The byte classes of package spell: what each small function answers, at every byte. -/
import Derived.Test.YtohcehjpdmhjlaaDoorSpPlain
namespace Go.Proofs.YtohcehjpdmhjlaaDoor
open Go.RowKit

end Go.Proofs.YtohcehjpdmhjlaaDoor
