/-
  The walks: sorting.
-/
import Derived.Test.YtfkpgkgjamaoaaaCvLd
import Derived.Test.YtfkpgkgjamaoaaaCvLe
import Derived.Shelf.SortM.Plain
import Derived.Shelf.SortM.SortNone
import Derived.Shelf.SlGeneric
import Derived.Ground.SlgmProg
import Derived.Test.YtfkpgkgjamaoaaaSx21
import Derived.Test.YtfkpgkgjamaoaaaProg
import Derived.KernelRfl
set_option linter.unusedVariables false
set_option linter.unusedSimpArgs false
set_option linter.unusedSectionVars false
set_option maxRecDepth 10000
namespace Cv
open Go Go.Proofs

/-! ## the kit's contracts of sorting, laid at this program -/
end Cv
namespace Go.Proofs
shelf_lay_g SlLaysM.n5 Slgm 5 at Try 31 as Try.sortA
end Go.Proofs
namespace Cv
open Go Go.Proofs
theorem sort_spec {a : Option Addr} {len cap : Nat} {xs : List Int} (hb : len < 4611686018427387904) : Spec Try.prog 31 [.slice a len cap] [] [own 1 3 a len cap (xs.map e3)] (fun v D' M' => v = .tuple #[] ∧ D' = [] ∧ M' = [own 1 3 a len cap ((xs.mergeSort fun x y => decide (x ≤ y)).map e3)]) :=
  sort_of (IsFn.of Try.func31 rfl (by decide)) (fun blk off cap zs w h1 h2 h3 => AnyM.slices_Sort_int Try.sortA blk off cap zs w h1 h2 h3) (fun p cap w => AnyM.slices_Sort_int_none Try.sortA p cap w) hb rfl


end Cv
