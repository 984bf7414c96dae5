/-
  The walks: infos told.
-/
import Derived.Test.YtcilkdnbbebjgaaGreatTa11
import Derived.Test.YtcilkdnbbebjgaaGreatProg
import Derived.KernelRfl
set_option linter.unusedVariables false
set_option linter.unusedSimpArgs false
set_option linter.unusedSectionVars false
set_option maxRecDepth 10000
namespace Cv
open Go Go.Proofs
theorem zv43 : ∀ w, (zeroValue 43).run Tryz.prog w = .ok (Value.agg #[S [], Value.int .i64 0, Value.slice none 0 0]) w := fun w => by kernel_rfl
theorem ze43 : Ze Tryz.prog 43 [S [], Value.int .i64 0, Value.slice none 0 0] := ⟨_, rfl, zv43⟩
theorem zv41 : ∀ w, (zeroValue 41).run Tryz.prog w = .ok (Value.agg #[S [], Value.int .i64 0]) w := fun w => by kernel_rfl
theorem bu41 : Bu Tryz.prog 41 [S [], Value.int .i64 0] (fun (i : Nat) => ([(0, 1), (1, 1)] : List (Nat × Nat))[i]?) := bu_of Tryz.underlying41 zv41 rfl (fun w => by kernel_rfl)
theorem bu43 : Bu Tryz.prog 43 [S [], Value.int .i64 0, Value.slice none 0 0] (fun (i : Nat) => ([(0, 2), (2, 1)] : List (Nat × Nat))[i]?) := bu_of Tryz.underlying43 zv43 rfl (fun w => by kernel_rfl)
theorem ag43 : Ag Tryz.prog 43 3 := fun w => ⟨by kernel_rfl, by kernel_rfl⟩
end Cv
