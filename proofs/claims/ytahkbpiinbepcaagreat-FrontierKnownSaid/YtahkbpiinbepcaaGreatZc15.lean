/-
  The walks: the law on what is reached.
-/
import Derived.Test.YtahkbpiinbepcaaGreatYc15
import Derived.Test.YtahkbpiinbepcaaGreatEE15
import Derived.Test.YtahkbpiinbepcaaGreatCC15
import Derived.Test.YtahkbpiinbepcaaGreatProg
import Derived.KernelRfl
import Derived.Test.YtahkbpiinbepcaaGreatM05
import Derived.Test.YtahkbpiinbepcaaGreatZa15
set_option linter.unusedVariables false
set_option linter.unusedSimpArgs false
set_option linter.unusedSectionVars false
set_option maxRecDepth 10000
namespace Cv
open Go Go.Proofs
/-! ## stocks: of what they are -/
theorem stI_sub {ls : List Int} {os : List Ob} : ∀ i, i ≤ os.length → ∀ o ∈ stI ls os i, o ∈ os.take i
  | 0, _, o, h => by cases h
  | i + 1, hi, o, h => by
    have hg : os[i]? = some (gd os i) := zG (by omega)
    rw [List.take_add_one, hg]
    rw [stI] at h
    split at h
    · rcases List.mem_append.1 h with q | q
      · exact List.mem_append_left _ (stI_sub i (by omega) o q)
      · exact List.mem_append_right _ (by simpa using q)
    · exact List.mem_append_left _ (stI_sub i (by omega) o h)
theorem stk_sub {ps ls : List Int} {o : Ob} (h : o ∈ stk ps ls) : ∃ z, o ∈ mo z := by
  have := stI_sub _ (Nat.le_refl _) o h
  rw [List.take_length] at this
  obtain ⟨l, hl, ho⟩ := List.mem_flatten.1 this
  obtain ⟨z, -, rfl⟩ := List.mem_map.1 hl
  exact ⟨z, ho⟩
theorem stk_uni (ps ls : List Int) : Uni (stk ps ls) := fun o ho => by
  obtain ⟨z, h⟩ := stk_sub ho
  exact ⟨(z % 8).toNat, by omega, h⟩
end Cv
