/-
  The walks: Parse.
-/
import Derived.Test.YtcilkdnbbebjgaaGreatI06
import Derived.Test.YtcilkdnbbebjgaaGreatG06
import Derived.Test.YtcilkdnbbebjgaaGreatP06
import Derived.Test.YtcilkdnbbebjgaaGreatD06
import Derived.Test.YtcilkdnbbebjgaaGreatO05
import Derived.Test.YtcilkdnbbebjgaaGreatProg
import Derived.KernelRfl
set_option linter.unusedVariables false
set_option linter.unusedSimpArgs false
set_option linter.unusedSectionVars false
set_option maxRecDepth 10000
namespace Cv
open Go Go.Proofs

end Cv
