/-
  The walks: infos.
-/
import Derived.Test.YtcilkdnbbebjgaaGreatKa11
import Derived.Test.YtcilkdnbbebjgaaGreatJa11
import Derived.Test.YtcilkdnbbebjgaaGreatProg
import Derived.KernelRfl
set_option linter.unusedVariables false
set_option linter.unusedSimpArgs false
set_option linter.unusedSectionVars false
set_option maxRecDepth 10000
namespace Cv
open Go Go.Proofs
/-! ## infos: the plain model -/
@[reducible] def inC (p : Pt) (a : Option Addr) (n c : Nat) : List Value := p.1.1.map Y ++ [.int .i64 p.2, .slice a n c]
theorem inC_len (p : Pt) (a : Option Addr) (n c : Nat) : (inC p a n c).length = 34 := by simp [p.1.2]
def rsR (l : List ID32) (i : Nat) : Prop := ∀ j, j + 1 < i → ¬ 0 ≤ cfI (gd l j) (gd l (j + 1))
instance (l : List ID32) (i : Nat) : Decidable (rsR l i) := decidable_of_iff (∀ j, j < i - 1 → ¬ 0 ≤ cfI (gd l j) (gd l (j + 1))) ⟨fun h j hj => h j (by omega), fun h j hj => h j (by omega)⟩
theorem fo35_0 : Fo Tryz.prog 35 0 0 := fun a w => by kernel_rfl
theorem ag35 : Ag Tryz.prog 35 34 := fun w => ⟨by kernel_rfl, by kernel_rfl⟩
end Cv
