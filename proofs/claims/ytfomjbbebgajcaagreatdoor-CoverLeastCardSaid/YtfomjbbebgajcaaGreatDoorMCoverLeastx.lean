-- Printed by a program of this session's own (wip/mkprint.py): contracts of the functions that a law uses. Not trusted: Lean checks it.
import Derived.Test.YtfomjbbebgajcaaGreatDoorMCoverLeastx0
import Derived.Test.YtfomjbbebgajcaaGreatDoorMCoverLeastx7
import Derived.Test.YtfomjbbebgajcaaGreatDoorMCoverLeastx8
import Derived.Test.YtfomjbbebgajcaaGreatDoorMCoverLeastx9
import Derived.Test.YtfomjbbebgajcaaGreatDoorMCoverLeastx10
import Derived.Test.YtfomjbbebgajcaaGreatDoorMCoverLeastx11
import Derived.Test.YtfomjbbebgajcaaGreatDoorMCoverLeastx12
import Derived.Test.YtfomjbbebgajcaaGreatDoorMCoverLeastx13
import Derived.Test.YtfomjbbebgajcaaGreatDoorMCoverLeastx14
import Derived.Test.YtfomjbbebgajcaaGreatDoorMCoverLeastx15
import Derived.Test.YtfomjbbebgajcaaGreatDoorMCoverLeastx16
import Derived.Test.YtfomjbbebgajcaaGreatDoorMCoverLeastx17
namespace Go.Proofs.YtfomjbbebgajcaaGreatDoor.MCoverLeast
open Go.RowKit Go.Proofs.YtfomjbbebgajcaaGreatDoor.Giv Go.Proofs.YtfomjbbebgajcaaGreatDoorW.PrintWords Go.Proofs.YtfomjbbebgajcaaGreatDoorW.PrintLast Go.Proofs.YtfomjbbebgajcaaGreatDoorW.PrintMore
open Go.Proofs.YtfomjbbebgajcaaGreatDoorW.PrintWords renaming below_alloc → ba, below_drew1 → bd, pw_below_drewN → bn
open Go.Proofs.YtfomjbbebgajcaaGreatDoorW.PrintWords.Aside0 renaming mk → am
open Go.Proofs.YtfomjbbebgajcaaGreatDoorW.PrintWords.Kd renaming R_alloc → ra, R_drewN → rn, R_drew → rd
attribute [local go_sem] max2_int min2_int max_two min_two max_three min_three max_four min_four   -- for this text's walks alone
set_option linter.unusedVariables false
set_option linter.unusedSimpArgs false

end Go.Proofs.YtfomjbbebgajcaaGreatDoor.MCoverLeast
