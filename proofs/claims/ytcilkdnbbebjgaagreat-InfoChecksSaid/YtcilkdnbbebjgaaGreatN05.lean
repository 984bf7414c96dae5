/-
  The walks: the plain law of comparing trees.
-/
import Derived.Test.YtcilkdnbbebjgaaGreatM05
import Derived.Test.YtcilkdnbbebjgaaGreatProg
import Derived.KernelRfl
set_option linter.unusedVariables false
set_option linter.unusedSimpArgs false
set_option linter.unusedSectionVars false
set_option maxRecDepth 10000
namespace Cv
open Go Go.Proofs
/-! ## the order of trees -/
/-! ### the laws -/
/-! ### 0 just of the same -/
theorem count_mem : ∀ {ks : List Tr} {y : Tr}, y ∈ ks → y.count ≤ countL ks
  | x :: xs, y, h => by
    simp only [countL]
    rcases List.mem_cons.1 h with rfl | h
    · omega
    · have := count_mem h; omega
/-! ### signs of one byte -/
/-- an entry of TreeOf -/
def Sh (j : Nat) (z : ET) : Prop := ∃ m, m.length ≤ 10 ∧ z = (.mk m 1 [UInt8.ofNat (97 + j)] [], none, 0, 0)
@[reducible] def shE (n : List UInt8) (i : Nat) : ET := (.mk (n.take 10) 1 [UInt8.ofNat (97 + i)] [], none, 0, 0)
theorem Sh.mk (n : List UInt8) (i : Nat) : Sh i (shE n i) := ⟨n.take 10, by rw [List.length_take]; omega, rfl⟩
def ShL (acc : List ET) : Prop := ∀ j z, acc[j]? = some z → Sh j z
theorem ShL.nil : ShL [] := fun j z h => by simp at h
/-! ### TreeWide -/
/-! ### letters -/
end Cv
