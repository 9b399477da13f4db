/- Who judges: appeals. -/
import Derived.Test.YtmeckbjinmgbbaaGreatMod5
set_option linter.unusedVariables false
set_option linter.unusedSimpArgs false

namespace Go.Proofs.YtmeckbjinmgbbaaGreat
open Go.X

end Go.Proofs.YtmeckbjinmgbbaaGreat