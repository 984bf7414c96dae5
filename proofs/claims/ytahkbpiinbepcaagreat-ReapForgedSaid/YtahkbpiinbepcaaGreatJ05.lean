/-
  The walks: SortStableFunc.
-/
import Derived.Test.YtahkbpiinbepcaaGreatD05
import Derived.Test.YtahkbpiinbepcaaGreatI05
import Derived.Test.YtahkbpiinbepcaaGreatProg
import Derived.KernelRfl
set_option linter.unusedVariables false
set_option linter.unusedSimpArgs false
set_option linter.unusedSectionVars false
set_option maxRecDepth 10000
namespace Cv
open Go Go.Proofs


end Cv
