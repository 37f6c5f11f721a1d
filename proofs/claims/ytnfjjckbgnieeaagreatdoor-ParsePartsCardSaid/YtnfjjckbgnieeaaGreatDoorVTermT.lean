/- term.Text: the text of every atom whose names have at most 300 bytes. -/
import Derived.Test.YtnfjjckbgnieeaaGreatDoorVTermN
import Derived.Lib.Join
namespace Go.Proofs.YtnfjjckbgnieeaaGreatDoor
open Go.RowKit

end Go.Proofs.YtnfjjckbgnieeaaGreatDoor
