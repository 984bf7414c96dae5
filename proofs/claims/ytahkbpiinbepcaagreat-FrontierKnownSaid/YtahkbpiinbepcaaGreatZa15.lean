/-
  The walks: the law on unions.
-/
import Derived.Test.YtahkbpiinbepcaaGreatYc15
import Derived.Test.YtahkbpiinbepcaaGreatCvLd
import Derived.Test.YtahkbpiinbepcaaGreatProg
import Derived.KernelRfl
set_option linter.unusedVariables false
set_option linter.unusedSimpArgs false
set_option linter.unusedSectionVars false
set_option maxRecDepth 10000
namespace Cv
open Go Go.Proofs
/-! ## what two lists of names reach -/
theorem stI_shf {ls : List Int} {os : List Ob} (h : Shf os) : ∀ i, i ≤ os.length → Shf (stI ls os i)
  | 0, _ => fun o ho => by cases ho
  | i + 1, hi => by
    have ih := stI_shf (ls := ls) h i (by omega)
    rw [stI]
    split
    · intro o ho
      rcases List.mem_append.1 ho with q | q
      · exact ih o q
      · obtain rfl : o = gd os i := by simpa using q
        exact h _ (List.mem_of_getElem? (zG (by omega)))
    · exact ih
theorem stk_shf (ps ls : List Int) : Shf (stk ps ls) := stI_shf (stB_shf ps 5) _ (Nat.le_refl _)

end Cv
