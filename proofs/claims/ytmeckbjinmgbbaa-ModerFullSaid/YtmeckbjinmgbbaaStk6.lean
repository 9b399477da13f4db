/- Layer 23: a strike counts once. -/
import Derived.Test.YtmeckbjinmgbbaaStk5
set_option linter.unusedVariables false
set_option linter.unusedSimpArgs false

namespace Go.Proofs.Ytmeckbjinmgbbaa
open Go.X
end Go.Proofs.Ytmeckbjinmgbbaa