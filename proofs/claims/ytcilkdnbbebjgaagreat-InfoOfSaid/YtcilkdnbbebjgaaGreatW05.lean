/-
  The walks: Right.
-/
import Derived.Test.YtcilkdnbbebjgaaGreatR05
import Derived.Test.YtcilkdnbbebjgaaGreatT05
import Derived.Test.YtcilkdnbbebjgaaGreatV05
import Derived.Test.YtcilkdnbbebjgaaGreatK05
import Derived.Test.YtcilkdnbbebjgaaGreatE05
import Derived.Test.YtcilkdnbbebjgaaGreatProg
import Derived.KernelRfl
set_option linter.unusedVariables false
set_option linter.unusedSimpArgs false
set_option linter.unusedSectionVars false
set_option maxRecDepth 10000
namespace Cv
open Go Go.Proofs

end Cv
