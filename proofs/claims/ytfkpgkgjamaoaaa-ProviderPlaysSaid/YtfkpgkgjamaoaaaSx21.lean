/-
  The walks: functions on slices.
-/
import Derived.Test.YtfkpgkgjamaoaaaCvLc
import Derived.Test.YtfkpgkgjamaoaaaCvLf
import Derived.Test.YtfkpgkgjamaoaaaCvLd
import Derived.Test.YtfkpgkgjamaoaaaProg
import Derived.KernelRfl
set_option linter.unusedVariables false
set_option linter.unusedSimpArgs false
set_option linter.unusedSectionVars false
set_option maxRecDepth 10000
namespace Cv
open Go Go.Proofs
/-! ## plain laws of slices.Index, Contains, Delete -/
theorem sc5 : Sc Try.prog 5 := fun w => ⟨by kernel_rfl, by kernel_rfl⟩
theorem kt3 : KeyT Try.prog 3 iK := keyT_int Try.underlying3
theorem zv32 : ∀ w, (zeroValue 32).run Try.prog w = .ok (Value.map none) w := fun w => by kernel_rfl
theorem zv3 : ∀ w, (zeroValue 3).run Try.prog w = .ok (Value.int .i64 0) w := fun w => by kernel_rfl
@[reducible] def e3 : Int → List Value | a => [.int .i64 a]
def g3 : Int → Prop | a => (-9223372036854775808 ≤ a ∧ a ≤ 9223372036854775807)
theorem el3z {H : Type} {enc : TypeId × Value → H} {W : World} {base : Nat} {sp : Nat → Bool} {held : Bool} {n : Nat} {cs : List Value} {y : DataW H × List MemPlace} (h : DataW.trod enc Try.prog W base sp held n 3 cs = some y) : ∃ z, cs = e3 z ∧ g3 z := by
  obtain ⟨n, rfl, -, hw⟩ := DataW.trod_int Try.underlying3 h
  exact ⟨n, rfl, Cv.wf64 hw⟩
end Cv
