-- Printed by a program of this session's own (wip/mkprint.py): contracts of the functions that a law uses. Not trusted: Lean checks it.
import Derived.Test.YtamelcgamlcliaaMCoverTopicsx0
import Derived.Test.YtamelcgamlcliaaMCoverTopicsx1
import Derived.Test.YtamelcgamlcliaaMCoverTopicsx2
import Derived.Test.YtamelcgamlcliaaMCoverTopicsx3
import Derived.Test.YtamelcgamlcliaaMCoverTopicsx4
import Derived.Test.YtamelcgamlcliaaMCoverTopicsx5
namespace Go.Proofs.Ytamelcgamlcliaa.MCoverTopics
open Go.RowKit Go.Proofs.Ytamelcgamlcliaa.Giv Go.Proofs.YtamelcgamlcliaaW.PrintWords Go.Proofs.YtamelcgamlcliaaW.PrintLast Go.Proofs.YtamelcgamlcliaaW.PrintMore
attribute [local go_sem] max2_int min2_int max_two min_two max_three min_three max_four min_four   -- for this text's walks alone
set_option linter.unusedVariables false
set_option linter.unusedSimpArgs false

end Go.Proofs.Ytamelcgamlcliaa.MCoverTopics
