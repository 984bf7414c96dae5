/-
  The walks: bytes read, as the document tells it.
-/
import Derived.Test.YtcilkdnbbebjgaaGreatF06
import Derived.Test.YtcilkdnbbebjgaaGreatProg
import Derived.KernelRfl
set_option linter.unusedVariables false
set_option linter.unusedSimpArgs false
set_option linter.unusedSectionVars false
set_option maxRecDepth 10000
namespace Cv
open Go Go.Proofs

end Cv
