/- spell.spelled: whether a text's first byte and all behind it obey a rule each; at any two rules. -/
import Derived.Test.YtohcehjpdmhjlaaDoorSpBytes
namespace Go.Proofs.YtohcehjpdmhjlaaDoor
open Go.RowKit

end Go.Proofs.YtohcehjpdmhjlaaDoor
