/-
  The walks: Right.
-/
import Derived.Test.YtahkbpiinbepcaaGreatR05
import Derived.Test.YtahkbpiinbepcaaGreatT05
import Derived.Test.YtahkbpiinbepcaaGreatV05
import Derived.Test.YtahkbpiinbepcaaGreatK05
import Derived.Test.YtahkbpiinbepcaaGreatE05
import Derived.Test.YtahkbpiinbepcaaGreatProg
import Derived.KernelRfl
set_option linter.unusedVariables false
set_option linter.unusedSimpArgs false
set_option linter.unusedSectionVars false
set_option maxRecDepth 10000
namespace Cv
open Go Go.Proofs

end Cv
