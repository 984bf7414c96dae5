/-
  The walks: sorting.
-/
import Derived.Test.YtjacegfanhejdaaCvLd
import Derived.Test.YtjacegfanhejdaaCvLe
import Derived.Shelf.SortM.Plain
import Derived.Shelf.SortM.SortNone
import Derived.Shelf.SlSortCmp.NoneTotal
import Derived.Shelf.SlGeneric
import Derived.Ground.SlgmProg
import Derived.Ground.SlsfProg
import Derived.Test.YtjacegfanhejdaaSx
import Derived.Test.YtjacegfanhejdaaProg
import Derived.KernelRfl
set_option linter.unusedVariables false
set_option linter.unusedSimpArgs false
set_option linter.unusedSectionVars false
set_option maxRecDepth 10000
namespace Cv
open Go Go.Proofs
/-! ## the kit's contracts of sorting, laid at this program -/
end Cv
namespace Go.Proofs
shelf_lay_g SlLaysM.n5 Slgm 5 at Try 46 as Try.sortA
shelf_lay_g SlLaysF.n6 Slsf 6 at Try 34 as Try.sortB
end Go.Proofs
namespace Cv
open Go Go.Proofs
theorem sort_spec {a : Option Addr} {len cap : Nat} {xs : List Int} (hb : len < 4611686018427387904) : Spec Try.prog 46 [.slice a len cap] [] [own 1 3 a len cap (xs.map e3)] (fun v D' M' => v = .tuple #[] ∧ D' = [] ∧ M' = [own 1 3 a len cap ((xs.mergeSort fun x y => decide (x ≤ y)).map e3)]) :=
  sort_of (IsFn.of Try.func46 rfl (by decide)) (fun blk off cap zs w h1 h2 h3 => AnyM.slices_Sort_int Try.sortA blk off cap zs w h1 h2 h3) (fun p cap w => AnyM.slices_Sort_int_none Try.sortA p cap w) hb rfl
theorem sortF_spec {g : FuncId} (hg : IsFn Try.prog g) (cf : Int → Int → Int) (hO : Go.Sort.SWO (ltOf cf)) (cb : List Value) {D0 : List Asn} (hc : ∀ x y : Int, Spec Try.prog g (.int .i64 x :: .int .i64 y :: cb) D0 [] (fun v D' M' => v = .int .i64 (cf x y) ∧ D' = [] ∧ M' = []))
    (hup : ∀ φ ∈ D0, ∀ y z, φ y → Hp.le y z → φ z) {a : Option Addr} {len cap : Nat} {xs : List Int} (hb : len < 4611686018427387904) :
    Spec Try.prog 34 [.slice a len cap, .func (.func g) #[] cb.toArray] D0 [own 1 3 a len cap (xs.map e3)] (fun v D' M' => ∃ ys, v = .tuple #[] ∧ SortedBy cf xs ys ∧ D' = [] ∧ M' = [own 1 3 a len cap (ys.map e3)]) :=
  sortFunc_of (IsFn.of Try.func34 rfl (by decide)) hg (Value.int .i64) (fun _ => rfl) cf hO cb
    (fun blk off cap d w h1 h2 h3 h4 => Any.slices_SortFunc Try.sortB (Value.int .i64) (fun _ => rfl) cf hO g cb.toArray blk off cap d w (fun args w => hg args w) h1 h2 h3 h4)
    (fun p cap fv w => AnyF.slices_SortFunc_none { Try.sortB with } p cap fv w) hc hup hb rfl


end Cv
