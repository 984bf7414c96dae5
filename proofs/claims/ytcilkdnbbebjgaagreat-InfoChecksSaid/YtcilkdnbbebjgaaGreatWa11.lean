/-
  The walks: infos compared.
-/
import Derived.Test.YtcilkdnbbebjgaaGreatVa11
import Derived.Test.YtcilkdnbbebjgaaGreatCvLg
import Derived.Test.YtcilkdnbbebjgaaGreatProg
import Derived.KernelRfl
set_option linter.unusedVariables false
set_option linter.unusedSimpArgs false
set_option linter.unusedSectionVars false
set_option maxRecDepth 10000
namespace Cv
open Go Go.Proofs
@[reducible] def c3 (r : List UInt8) (z : Int) (a : Option Addr) (n c : Nat) : List Value := [S r, .int .i64 z, .slice a n c]
end Cv
