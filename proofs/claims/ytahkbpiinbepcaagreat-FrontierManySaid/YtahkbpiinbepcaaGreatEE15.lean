/-
  The walks: objects below.
-/
import Derived.Test.YtahkbpiinbepcaaGreatQc15
import Derived.Test.YtahkbpiinbepcaaGreatCC15
import Derived.Test.YtahkbpiinbepcaaGreatProg
import Derived.KernelRfl
set_option linter.unusedVariables false
set_option linter.unusedSimpArgs false
set_option linter.unusedSectionVars false
set_option maxRecDepth 10000
namespace Cv
open Go Go.Proofs
/-! ## the objects of paths -/
theorem val0_put {ml : SnM} {x y : ID32} {v : Int} : val0 (put ml x v) y = if y = x then v else val0 ml y := by
  unfold val0; rw [look_put]; split <;> rfl
end Cv
