/-
  No cell of these rows narrows 'for every input' (looked for: loops, veiled, ifaces, maps, wideKeys, modest, calm, conditions, laid).
  DERIVED. THE GIVEN ROWS OF THIS SEAT. 5 by the template 'for every input the law returns true; each argument reads behind the call as it read before'; 0 by the template 'total and deterministic' (their statements: YthpjmpbakhmlnaaTotals.lean).
  GIVEN WITH THE SEED: the statements are not yours to turn. If you find one false, say at which input.
  Laid BY PROGRAM, IN A SANDBOX (cutbox-rows.mjs): the forced cells as the released guide's own fill.sh prints them over the translation 8d5ef0672cd88242… (all of the seat's roots in one cut). By AI agents, Wed Nov 11 2026. No macro, syntax, notation, axiom, sorry.
-/
import Derived.Test.YthpjmpbakhmlnaaChecked
import GoSem.Claim
import GoSem.ClaimJoined
import GoSem.ClaimMapViews
import Derived.JoinedTies
import Derived.KernelRfl
namespace Go.Proofs.Ythpjmpbakhmlnaa
/- THE CELL 'sum', in the pinned program and in every row, IS THE sha256 OF THE DUMP (.gsa) THAT YthpjmpbakhmlnaaProg.lean LOADS. Nothing in Lean hashes anything: it is a label: what it is worth is what the hold of that sum in a sandbox is worth. -/
noncomputable def Try.pinned : Pinned := { name := "ythpjmpbakhmlnaa", sum := "8d5ef0672cd882421f7008568b0627104f03343a7103f5768ab5a118a867fafe", checked := Try.checked }
namespace Rows
def none {H : Type} : Left H := { results := [], args := [] }

/-- 'caravanlaw24.QuotaPlays': WHATEVER THE INPUT: true; the input reads as it did. -/
def quotaPlaysSpec : ChangeSpec := { name := "quotaPlays", fn := fun _ => fun
  | [d1, d2, d3] => { results := [.lit (.bool true)], args := [d1, d2, d3] }
  | _ => none }
def quotaPlaysRow : OpenClaim := { program := "ythpjmpbakhmlnaa", sum := "8d5ef0672cd882421f7008568b0627104f03343a7103f5768ab5a118a867fafe", func := "caravan/caravanlaw24.QuotaPlays", spec := "quotaPlays", apart := false }
def QuotaPlaysSaid : Prop := quotaPlaysRow.holds Try.pinned (OpenSpec.ofChange quotaPlaysSpec)

/-- ITS FALSE NEIGHBOUR: 'it returns false'. Refute it at one input. -/
def quotaPlaysWrong : ChangeSpec := { name := "quotaPlays", fn := fun _ => fun
  | [d1, d2, d3] => { results := [.lit (.bool false)], args := [d1, d2, d3] }
  | _ => none }
def QuotaPlaysWrongFalsely : Prop := quotaPlaysRow.holds Try.pinned (OpenSpec.ofChange quotaPlaysWrong)

/-- 'caravanlaw24.QuotaBound': WHATEVER THE INPUT: true; the input reads as it did. -/
def quotaBoundSpec : ChangeSpec := { name := "quotaBound", fn := fun _ => fun
  | [d1, d2, d3, d4] => { results := [.lit (.bool true)], args := [d1, d2, d3, d4] }
  | _ => none }
def quotaBoundRow : OpenClaim := { program := "ythpjmpbakhmlnaa", sum := "8d5ef0672cd882421f7008568b0627104f03343a7103f5768ab5a118a867fafe", func := "caravan/caravanlaw24.QuotaBound", spec := "quotaBound", apart := false }
def QuotaBoundSaid : Prop := quotaBoundRow.holds Try.pinned (OpenSpec.ofChange quotaBoundSpec)

/-- ITS FALSE NEIGHBOUR: 'it returns false'. Refute it at one input. -/
def quotaBoundWrong : ChangeSpec := { name := "quotaBound", fn := fun _ => fun
  | [d1, d2, d3, d4] => { results := [.lit (.bool false)], args := [d1, d2, d3, d4] }
  | _ => none }
def QuotaBoundWrongFalsely : Prop := quotaBoundRow.holds Try.pinned (OpenSpec.ofChange quotaBoundWrong)

/-- 'caravanlaw24.QuotaRates': WHATEVER THE INPUT: true; the input reads as it did. -/
def quotaRatesSpec : ChangeSpec := { name := "quotaRates", fn := fun _ => fun
  | [d1, d2] => { results := [.lit (.bool true)], args := [d1, d2] }
  | _ => none }
def quotaRatesRow : OpenClaim := { program := "ythpjmpbakhmlnaa", sum := "8d5ef0672cd882421f7008568b0627104f03343a7103f5768ab5a118a867fafe", func := "caravan/caravanlaw24.QuotaRates", spec := "quotaRates", apart := false }
def QuotaRatesSaid : Prop := quotaRatesRow.holds Try.pinned (OpenSpec.ofChange quotaRatesSpec)

/-- ITS FALSE NEIGHBOUR: 'it returns false'. Refute it at one input. -/
def quotaRatesWrong : ChangeSpec := { name := "quotaRates", fn := fun _ => fun
  | [d1, d2] => { results := [.lit (.bool false)], args := [d1, d2] }
  | _ => none }
def QuotaRatesWrongFalsely : Prop := quotaRatesRow.holds Try.pinned (OpenSpec.ofChange quotaRatesWrong)

/-- 'caravanlaw24.QuotaApart': WHATEVER THE INPUT: true; the input reads as it did. -/
def quotaApartSpec : ChangeSpec := { name := "quotaApart", fn := fun _ => fun
  | [d1, d2, d3] => { results := [.lit (.bool true)], args := [d1, d2, d3] }
  | _ => none }
def quotaApartRow : OpenClaim := { program := "ythpjmpbakhmlnaa", sum := "8d5ef0672cd882421f7008568b0627104f03343a7103f5768ab5a118a867fafe", func := "caravan/caravanlaw24.QuotaApart", spec := "quotaApart", apart := false }
def QuotaApartSaid : Prop := quotaApartRow.holds Try.pinned (OpenSpec.ofChange quotaApartSpec)

/-- ITS FALSE NEIGHBOUR: 'it returns false'. Refute it at one input. -/
def quotaApartWrong : ChangeSpec := { name := "quotaApart", fn := fun _ => fun
  | [d1, d2, d3] => { results := [.lit (.bool false)], args := [d1, d2, d3] }
  | _ => none }
def QuotaApartWrongFalsely : Prop := quotaApartRow.holds Try.pinned (OpenSpec.ofChange quotaApartWrong)

/-- 'caravanlaw24.QuotaFull': WHATEVER THE INPUT: true; the input reads as it did. -/
def quotaFullSpec : ChangeSpec := { name := "quotaFull", fn := fun _ => fun
  | [d1, d2, d3] => { results := [.lit (.bool true)], args := [d1, d2, d3] }
  | _ => none }
def quotaFullRow : OpenClaim := { program := "ythpjmpbakhmlnaa", sum := "8d5ef0672cd882421f7008568b0627104f03343a7103f5768ab5a118a867fafe", func := "caravan/caravanlaw24.QuotaFull", spec := "quotaFull", apart := false }
def QuotaFullSaid : Prop := quotaFullRow.holds Try.pinned (OpenSpec.ofChange quotaFullSpec)

/-- ITS FALSE NEIGHBOUR: 'it returns false'. Refute it at one input. -/
def quotaFullWrong : ChangeSpec := { name := "quotaFull", fn := fun _ => fun
  | [d1, d2, d3] => { results := [.lit (.bool false)], args := [d1, d2, d3] }
  | _ => none }
def QuotaFullWrongFalsely : Prop := quotaFullRow.holds Try.pinned (OpenSpec.ofChange quotaFullWrong)

/- THE SECOND FORM. 'bulk': how many values and letters a reading holds, each counted each time it is reached (what is shared counts as often as it is met; a slice's spare places count too). A statement '..UptoSaid' is the law's where the arguments, and the package variables that the reading takes, are together of bulk at most 1048576: NARROWER than '..Said'. Prove '..Said' where nothing that the law and all that it calls make is longer than what came in: it says more and counts as full. Else prove '..UptoSaid'. A law counts once. -/
mutual
def uptoBulk {H : Type} : DataW H → Nat
  | .lit (.string bytes) => bytes.length + 1
  | .lit _ => 1
  | .nil => 1
  | .ptr d => uptoBulk d + 1
  | .slice elems spare => uptoBulkAll elems + uptoBulkAll spare + 1
  | .agg parts => uptoBulkAll parts + 1
  | .iface _ d => uptoBulk d + 1
  | .map entries => uptoBulkEntries entries + 1
  | .held _ => 1
def uptoBulkAll {H : Type} : List (DataW H) → Nat
  | [] => 0
  | d :: r => uptoBulk d + uptoBulkAll r
def uptoBulkEntries {H : Type} : List (Lit × DataW H) → Nat
  | [] => 0
  | x :: r => uptoBulkEntry x + uptoBulkEntries r
def uptoBulkEntry {H : Type} : Lit × DataW H → Nat
  | (.string bytes, d) => bytes.length + uptoBulk d + 1
  | (_, d) => uptoBulk d + 1
 end
def uptoSmall : (H : Type) → List (DataW H) → Bool := fun _ ds => decide (uptoBulkAll ds ≤ 1048576)
def OpenSpec.upto (s : _root_.Go.ChangeSpec) : _root_.Go.OpenSpec := { _root_.Go.OpenSpec.ofChange s with cond := some uptoSmall }

/-- 'caravanlaw24.QuotaPlays', WHERE WHAT IT READS IS OF BULK AT MOST 1048576: true; the input reads as it did. -/
def quotaPlaysUptoRow : OpenClaim := { program := "ythpjmpbakhmlnaa", sum := "8d5ef0672cd882421f7008568b0627104f03343a7103f5768ab5a118a867fafe", func := "caravan/caravanlaw24.QuotaPlays", spec := "quotaPlays", apart := false, narrowed := true }
def QuotaPlaysUptoSaid : Prop := quotaPlaysUptoRow.holds Try.pinned (OpenSpec.upto quotaPlaysSpec)

/-- 'caravanlaw24.QuotaBound', WHERE WHAT IT READS IS OF BULK AT MOST 1048576: true; the input reads as it did. -/
def quotaBoundUptoRow : OpenClaim := { program := "ythpjmpbakhmlnaa", sum := "8d5ef0672cd882421f7008568b0627104f03343a7103f5768ab5a118a867fafe", func := "caravan/caravanlaw24.QuotaBound", spec := "quotaBound", apart := false, narrowed := true }
def QuotaBoundUptoSaid : Prop := quotaBoundUptoRow.holds Try.pinned (OpenSpec.upto quotaBoundSpec)

/-- 'caravanlaw24.QuotaRates', WHERE WHAT IT READS IS OF BULK AT MOST 1048576: true; the input reads as it did. -/
def quotaRatesUptoRow : OpenClaim := { program := "ythpjmpbakhmlnaa", sum := "8d5ef0672cd882421f7008568b0627104f03343a7103f5768ab5a118a867fafe", func := "caravan/caravanlaw24.QuotaRates", spec := "quotaRates", apart := false, narrowed := true }
def QuotaRatesUptoSaid : Prop := quotaRatesUptoRow.holds Try.pinned (OpenSpec.upto quotaRatesSpec)

/-- 'caravanlaw24.QuotaApart', WHERE WHAT IT READS IS OF BULK AT MOST 1048576: true; the input reads as it did. -/
def quotaApartUptoRow : OpenClaim := { program := "ythpjmpbakhmlnaa", sum := "8d5ef0672cd882421f7008568b0627104f03343a7103f5768ab5a118a867fafe", func := "caravan/caravanlaw24.QuotaApart", spec := "quotaApart", apart := false, narrowed := true }
def QuotaApartUptoSaid : Prop := quotaApartUptoRow.holds Try.pinned (OpenSpec.upto quotaApartSpec)

/-- 'caravanlaw24.QuotaFull', WHERE WHAT IT READS IS OF BULK AT MOST 1048576: true; the input reads as it did. -/
def quotaFullUptoRow : OpenClaim := { program := "ythpjmpbakhmlnaa", sum := "8d5ef0672cd882421f7008568b0627104f03343a7103f5768ab5a118a867fafe", func := "caravan/caravanlaw24.QuotaFull", spec := "quotaFull", apart := false, narrowed := true }
def QuotaFullUptoSaid : Prop := quotaFullUptoRow.holds Try.pinned (OpenSpec.upto quotaFullSpec)

end Rows
end Go.Proofs.Ythpjmpbakhmlnaa
