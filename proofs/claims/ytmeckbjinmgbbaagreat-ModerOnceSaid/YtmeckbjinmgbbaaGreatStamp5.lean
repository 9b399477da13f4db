/- stamp: the document's answer, read. -/
import Derived.Test.YtmeckbjinmgbbaaGreatStamp4
set_option linter.unusedVariables false
set_option linter.unusedSimpArgs false

namespace Go.Proofs.YtmeckbjinmgbbaaGreat
open Go.X
end Go.Proofs.YtmeckbjinmgbbaaGreat