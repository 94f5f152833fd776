/-
  Contracts of the walks below.
-/
import Derived.Test.YtjghnghceeijeaaGreatDoorDb8
import Derived.Test.YtjghnghceeijeaaGreatDoorRows
import Derived.ProofKit
import Derived.LaidMore
import Derived.OpenShut
import Derived.Stop.Joined
import Derived.Carry
import Derived.Lib.LaidTab
import Derived.Deep.RegionHeld2
import Derived.Laws.CopyOwn
import Derived.Defers
import Derived.Recover
import Derived.Laws.IdiomStrings
import Derived.Laws.ResultCell
set_option maxRecDepth 100000
set_option maxHeartbeats 4000000
set_option linter.unusedVariables false
set_option linter.unusedSimpArgs false
namespace Go.Proofs.YtjghnghceeijeaaGreatDoor
namespace Nm
open Go.ChangeShapes Go.WideShapes Go.ChangeAt Go.WideMaps Go.WideElems Go.RowKit
theorem laidOut : laidOutB Tryz.prog = true := by kernel_rfl
theorem gDigits : Tryz.prog.globalNamed "zermelo/num.digits" = some 0 := by kernel_rfl
theorem tDigits : (Tryz.prog.globals[0]?).map (·.type) = some 168 := by kernel_rfl
theorem uDigits : Tryz.prog.underlying 168 = some (.array 36 5) := by kernel_rfl
theorem uByte : Tryz.prog.underlying 5 = some (.int .u8) := by kernel_rfl
def tabZ : List Int := [48, 49, 50, 51, 52, 53, 54, 55, 56, 57, 97, 98, 99, 100, 101, 102, 103, 104, 105, 106, 107, 108, 109, 110, 111, 112, 113, 114, 115, 116, 117, 118, 119, 120, 121, 122]
end Nm
end Go.Proofs.YtjghnghceeijeaaGreatDoor
