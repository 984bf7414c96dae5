/-
  The walks: the reference of trees.
-/
import Derived.Test.YtahkbpiinbepcaaGreatEE15
import Derived.Test.YtahkbpiinbepcaaGreatProg
import Derived.KernelRfl
set_option linter.unusedVariables false
set_option linter.unusedSimpArgs false
set_option linter.unusedSectionVars false
set_option maxRecDepth 10000
namespace Cv
open Go Go.Proofs
/-! ## the reference of trees: its loop -/
theorem mem_val {op : List ID32} {x : ID32} : x.1 ∈ op.map (·.1) ↔ x ∈ op := by
  constructor
  · intro h
    obtain ⟨y, hy, e⟩ := List.mem_map.1 h
    rw [← Subtype.ext e]; exact hy
  · exact fun h => List.mem_map.2 ⟨x, h, rfl⟩
end Cv
