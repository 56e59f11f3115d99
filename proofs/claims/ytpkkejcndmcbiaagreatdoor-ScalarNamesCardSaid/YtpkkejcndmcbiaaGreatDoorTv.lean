/- The walks through the reference's code points (provostref01: Is, Bytes, number, One, Next). -/
import Derived.Test.YtpkkejcndmcbiaaGreatDoorTu
import Derived.Test.YtpkkejcndmcbiaaGreatDoorSb
import Derived.IntWalk
import Derived.LoopTactic
import Derived.Deep.LoopGhost
import Derived.Deep.QuietTactic
import Derived.BigQuiet
import Derived.Deep.RegionHeld3
import Derived.Outline
import Derived.Test.YtpkkejcndmcbiaaGreatDoorTb
set_option linter.unusedSimpArgs false
set_option linter.unusedVariables false
namespace Go.Proofs.YtpkkejcndmcbiaaGreatDoor
open Go.RowKit
end Go.Proofs.YtpkkejcndmcbiaaGreatDoor
