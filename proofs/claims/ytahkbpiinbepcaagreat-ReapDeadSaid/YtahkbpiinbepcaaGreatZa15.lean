/-
  The walks: the law on unions.
-/
import Derived.Test.YtahkbpiinbepcaaGreatYc15
import Derived.Test.YtahkbpiinbepcaaGreatCvLd
import Derived.Test.YtahkbpiinbepcaaGreatProg
import Derived.KernelRfl
set_option linter.unusedVariables false
set_option linter.unusedSimpArgs false
set_option linter.unusedSectionVars false
set_option maxRecDepth 10000
namespace Cv
open Go Go.Proofs
/-! ## what two lists of names reach -/
theorem rch_closed {os : List Ob} {l us : List ID32} (h : RchF os l us) {z : ID32} : Rch os us z ↔ z ∈ us := by
  constructor
  · intro r
    induction r with
    | base h => exact h
    | step _ k m ih => exact (h.mem _).2 (.step ((h.mem _).1 ih) k m)
  · exact .base
theorem rch_again {os : List Ob} {l us vs : List ID32} (h : RchF os l us) (k : RchF os us vs) : vs = us := asc_uniq k.asc h.asc fun z => (k.mem z).trans (rch_closed h)
end Cv
