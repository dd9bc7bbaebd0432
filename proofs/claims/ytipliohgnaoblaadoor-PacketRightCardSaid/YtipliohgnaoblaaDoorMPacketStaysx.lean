-- Printed by a program of this session's own (wip/mkprint.py): contracts of the functions that a law uses. Not trusted: Lean checks it.
import Derived.Test.YtipliohgnaoblaaDoorMPacketStaysx0
import Derived.Test.YtipliohgnaoblaaDoorMPacketStaysx1
import Derived.Test.YtipliohgnaoblaaDoorMPacketStaysx2
import Derived.Test.YtipliohgnaoblaaDoorMPacketStaysx3
import Derived.Test.YtipliohgnaoblaaDoorMPacketStaysx4
namespace Go.Proofs.YtipliohgnaoblaaDoor.MPacketStays
open Go.RowKit Go.Proofs.YtipliohgnaoblaaDoor.Giv Go.Proofs.YtipliohgnaoblaaDoorW.PrintWords Go.Proofs.YtipliohgnaoblaaDoorW.PrintLast Go.Proofs.YtipliohgnaoblaaDoorW.PrintMore
attribute [local go_sem] max2_int min2_int max_two min_two max_three min_three max_four min_four   -- for this text's walks alone
set_option linter.unusedVariables false
set_option linter.unusedSimpArgs false

end Go.Proofs.YtipliohgnaoblaaDoor.MPacketStays
