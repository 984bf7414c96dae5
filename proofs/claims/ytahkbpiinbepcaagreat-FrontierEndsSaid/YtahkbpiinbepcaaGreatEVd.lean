/-
  What is evaluated: the gear table, the chunks, the names of the objects of the eight paths.
-/
import Derived.Test.YtahkbpiinbepcaaGreatEN0
set_option linter.unusedVariables false
set_option linter.unusedSimpArgs false
set_option linter.unusedSectionVars false
set_option maxRecDepth 100000
namespace Cv
open Go
theorem len_dt : dtA.length ≤ 100 := by decide +kernel
theorem tx_dt : dtA.all (fun d => decide ((d.1 = 3 → d.2.2.length ≤ 294) ∧ (d.1 = 2 → d.2.2.length ≤ 292))) = true := by decide +kernel
end Cv
