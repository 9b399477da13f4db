/- stamp: the document's answer, read. -/
import Derived.Test.YtmeckbjinmgbbaaStamp4
set_option linter.unusedVariables false
set_option linter.unusedSimpArgs false

namespace Go.Proofs.Ytmeckbjinmgbbaa
open Go.X
end Go.Proofs.Ytmeckbjinmgbbaa