/- Who judges: appeals. -/
import Derived.Test.YtmeckbjinmgbbaaMod5
set_option linter.unusedVariables false
set_option linter.unusedSimpArgs false

namespace Go.Proofs.Ytmeckbjinmgbbaa
open Go.X

end Go.Proofs.Ytmeckbjinmgbbaa