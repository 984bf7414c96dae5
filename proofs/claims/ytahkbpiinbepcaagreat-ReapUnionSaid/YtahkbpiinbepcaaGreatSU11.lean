/-
  The walks: the reference of names.
-/
import Derived.Test.YtahkbpiinbepcaaGreatOa11
import Derived.Test.YtahkbpiinbepcaaGreatD06
import Derived.Test.YtahkbpiinbepcaaGreatProg
import Derived.KernelRfl
set_option linter.unusedVariables false
set_option linter.unusedSimpArgs false
set_option linter.unusedSectionVars false
set_option maxRecDepth 10000
namespace Cv
open Go Go.Proofs
/-! ## the reference's reader of names: plain -/
end Cv
set_option maxRecDepth 10000
namespace Cv
open Go Go.Proofs
end Cv
set_option maxRecDepth 10000
namespace Cv
open Go Go.Proofs
end Cv
