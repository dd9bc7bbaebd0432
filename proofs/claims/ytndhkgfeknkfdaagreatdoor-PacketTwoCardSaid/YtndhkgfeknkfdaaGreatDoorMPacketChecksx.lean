-- Printed by a program of this session's own (wip/mkprint.py): contracts of the functions that a law uses. Not trusted: Lean checks it.
import Derived.Test.YtndhkgfeknkfdaaGreatDoorMPacketChecksx0
import Derived.Test.YtndhkgfeknkfdaaGreatDoorMPacketChecksx1
import Derived.Test.YtndhkgfeknkfdaaGreatDoorMPacketChecksx2
import Derived.Test.YtndhkgfeknkfdaaGreatDoorMPacketChecksx3
import Derived.Test.YtndhkgfeknkfdaaGreatDoorMPacketChecksx11
namespace Go.Proofs.YtndhkgfeknkfdaaGreatDoor.MPacketChecks
open Go.RowKit Go.Proofs.YtndhkgfeknkfdaaGreatDoorW.PrintWords Go.Proofs.YtndhkgfeknkfdaaGreatDoorW.PrintLast Go.Proofs.YtndhkgfeknkfdaaGreatDoorW.PrintMore
attribute [local go_sem] max2_int min2_int max_two min_two max_three min_three max_four min_four   -- for this text's walks alone
set_option linter.unusedVariables false
set_option linter.unusedSimpArgs false

end Go.Proofs.YtndhkgfeknkfdaaGreatDoor.MPacketChecks
