-- Out of the words that the kit's print laid for this seat: those that this claim uses (taken out by wip/tools/prune2.py). Not trusted: Lean checks it.
import Derived.Test.YthlhlgomnjeenabPImageSamex0
import Derived.Test.YthlhlgomnjeenabPImageSamex1
import Derived.Test.YthlhlgomnjeenabPImageSamex2
import Derived.Test.YthlhlgomnjeenabPImageSamex3
import Derived.Test.YthlhlgomnjeenabPImageSamex4
import Derived.Test.YthlhlgomnjeenabPImageSamex5
namespace Go.Proofs.Ythlhlgomnjeenab.PImageSame
open Go.RowKit Go.Proofs.YthlhlgomnjeenabW.PrintWords Go.Proofs.YthlhlgomnjeenabW.PrintLast Go.Proofs.YthlhlgomnjeenabW.PrintMore
attribute [local go_sem] max2_int min2_int max_two min_two max_three min_three max_four min_four   -- for this text's walks alone
set_option linter.unusedVariables false
set_option linter.unusedSimpArgs false

end Go.Proofs.Ythlhlgomnjeenab.PImageSame
