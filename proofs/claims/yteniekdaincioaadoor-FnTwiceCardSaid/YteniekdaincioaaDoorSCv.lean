/- Contracts: what the functions of this part return, for arguments as each contract says. -/
import Derived.Test.YteniekdaincioaaDoorEvD
import Derived.Test.YteniekdaincioaaDoorEvTab
import Derived.Test.YteniekdaincioaaDoorSTy
import Derived.Test.YteniekdaincioaaDoorSKb
import Derived.Test.YteniekdaincioaaDoorSRo
import Derived.Test.YteniekdaincioaaDoorSCu
import Derived.Test.YteniekdaincioaaDoorSCq
set_option linter.constructorNameAsVariable false
set_option linter.unusedVariables false
set_option linter.unusedSimpArgs false
set_option linter.unusedVariables false
set_option maxHeartbeats 4000000
set_option maxRecDepth 20000
set_option linter.unusedSimpArgs false
set_option linter.constructorNameAsVariable false
namespace Go.Proofs.YteniekdaincioaaDoor.Ev
open Go Go.Proofs
attribute [local irreducible] RO Fn IntKind.wrap TriL

end Go.Proofs.YteniekdaincioaaDoor.Ev
