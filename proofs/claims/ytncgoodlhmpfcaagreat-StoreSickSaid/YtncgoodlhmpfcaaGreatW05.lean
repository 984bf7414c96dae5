/-
  The walks: Right.
-/
import Derived.Test.YtncgoodlhmpfcaaGreatK05
import Derived.Test.YtncgoodlhmpfcaaGreatV05
set_option linter.all false
set_option maxRecDepth 10000
namespace Cv
open Go Go.Proofs

def OkT (Y : Tr) : Prop := chkE Y = 0 ∧ Y.count ≤ 30 ∧ TAll Sm Y ∧ Y.t.length ≤ 20000 ∧ TAll Sm2 Y ∧ Y.t.length ≤ 300
end Cv
