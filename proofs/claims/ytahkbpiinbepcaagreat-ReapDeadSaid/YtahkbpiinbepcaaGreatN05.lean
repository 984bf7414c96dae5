/-
  The walks: the plain law of comparing trees.
-/
import Derived.Test.YtahkbpiinbepcaaGreatM05
import Derived.Test.YtahkbpiinbepcaaGreatProg
import Derived.KernelRfl
set_option linter.unusedVariables false
set_option linter.unusedSimpArgs false
set_option linter.unusedSectionVars false
set_option maxRecDepth 10000
namespace Cv
open Go Go.Proofs
/-! ## the order of trees -/
/-! ### the laws -/
/-! ### 0 just of the same -/
theorem count_mem : ∀ {ks : List Tr} {y : Tr}, y ∈ ks → y.count ≤ countL ks
  | x :: xs, y, h => by
    simp only [countL]
    rcases List.mem_cons.1 h with rfl | h
    · omega
    · have := count_mem h; omega
/-! ### signs of one byte -/
/-! ### TreeWide -/
/-! ### letters -/
end Cv
