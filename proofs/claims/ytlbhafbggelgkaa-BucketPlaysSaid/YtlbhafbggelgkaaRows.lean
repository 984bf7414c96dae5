/-
  No cell of these rows narrows 'for every input' (looked for: loops, veiled, ifaces, maps, wideKeys, modest, calm, conditions, laid).
  DERIVED. THE GIVEN ROWS OF THIS SEAT. 5 by the template 'for every input the law returns true; each argument reads behind the call as it read before'; 0 by the template 'total and deterministic' (their statements: YtlbhafbggelgkaaTotals.lean).
  GIVEN WITH THE SEED: the statements are not yours to turn. If you find one false, say at which input.
  Laid BY PROGRAM, IN A SANDBOX (cutbox-rows.mjs): the forced cells as the released guide's own fill.sh prints them over the translation c092c06d522e14c9… (all of the seat's roots in one cut). By AI agents, Wed Nov 11 2026. No macro, syntax, notation, axiom, sorry.
-/
import Derived.Test.YtlbhafbggelgkaaChecked
import GoSem.Claim
import GoSem.ClaimJoined
import GoSem.ClaimMapViews
import Derived.JoinedTies
import Derived.KernelRfl
namespace Go.Proofs.Ytlbhafbggelgkaa
/- THE CELL 'sum', in the pinned program and in every row, IS THE sha256 OF THE DUMP (.gsa) THAT YtlbhafbggelgkaaProg.lean LOADS. Nothing in Lean hashes anything: it is a label: what it is worth is what the hold of that sum in a sandbox is worth. -/
noncomputable def Try.pinned : Pinned := { name := "ytlbhafbggelgkaa", sum := "c092c06d522e14c95c1079f8db08f9673c1f07470624097f3ea2be112e1b5f52", checked := Try.checked }
namespace Rows
def none {H : Type} : Left H := { results := [], args := [] }

/-- 'caravanlaw19.BucketStay': WHATEVER THE INPUT: true; the input reads as it did. -/
def bucketStaySpec : ChangeSpec := { name := "bucketStay", fn := fun _ => fun
  | [d1, d2] => { results := [.lit (.bool true)], args := [d1, d2] }
  | _ => none }
def bucketStayRow : OpenClaim := { program := "ytlbhafbggelgkaa", sum := "c092c06d522e14c95c1079f8db08f9673c1f07470624097f3ea2be112e1b5f52", func := "caravan/caravanlaw19.BucketStay", spec := "bucketStay", recurses := true, apart := false }
def BucketStaySaid : Prop := bucketStayRow.holds Try.pinned (OpenSpec.ofChange bucketStaySpec)

/-- ITS FALSE NEIGHBOUR: 'it returns false'. Refute it at one input. -/
def bucketStayWrong : ChangeSpec := { name := "bucketStay", fn := fun _ => fun
  | [d1, d2] => { results := [.lit (.bool false)], args := [d1, d2] }
  | _ => none }
def BucketStayWrongFalsely : Prop := bucketStayRow.holds Try.pinned (OpenSpec.ofChange bucketStayWrong)

/-- 'caravanlaw19.BucketFull': WHATEVER THE INPUT: true; the input reads as it did. -/
def bucketFullSpec : ChangeSpec := { name := "bucketFull", fn := fun _ => fun
  | [d1, d2] => { results := [.lit (.bool true)], args := [d1, d2] }
  | _ => none }
def bucketFullRow : OpenClaim := { program := "ytlbhafbggelgkaa", sum := "c092c06d522e14c95c1079f8db08f9673c1f07470624097f3ea2be112e1b5f52", func := "caravan/caravanlaw19.BucketFull", spec := "bucketFull", recurses := true, apart := false }
def BucketFullSaid : Prop := bucketFullRow.holds Try.pinned (OpenSpec.ofChange bucketFullSpec)

/-- ITS FALSE NEIGHBOUR: 'it returns false'. Refute it at one input. -/
def bucketFullWrong : ChangeSpec := { name := "bucketFull", fn := fun _ => fun
  | [d1, d2] => { results := [.lit (.bool false)], args := [d1, d2] }
  | _ => none }
def BucketFullWrongFalsely : Prop := bucketFullRow.holds Try.pinned (OpenSpec.ofChange bucketFullWrong)

/-- 'caravanlaw19.BucketNext': WHATEVER THE INPUT: true; the input reads as it did. -/
def bucketNextSpec : ChangeSpec := { name := "bucketNext", fn := fun _ => fun
  | [d1, d2, d3] => { results := [.lit (.bool true)], args := [d1, d2, d3] }
  | _ => none }
def bucketNextRow : OpenClaim := { program := "ytlbhafbggelgkaa", sum := "c092c06d522e14c95c1079f8db08f9673c1f07470624097f3ea2be112e1b5f52", func := "caravan/caravanlaw19.BucketNext", spec := "bucketNext", recurses := true, apart := false }
def BucketNextSaid : Prop := bucketNextRow.holds Try.pinned (OpenSpec.ofChange bucketNextSpec)

/-- ITS FALSE NEIGHBOUR: 'it returns false'. Refute it at one input. -/
def bucketNextWrong : ChangeSpec := { name := "bucketNext", fn := fun _ => fun
  | [d1, d2, d3] => { results := [.lit (.bool false)], args := [d1, d2, d3] }
  | _ => none }
def BucketNextWrongFalsely : Prop := bucketNextRow.holds Try.pinned (OpenSpec.ofChange bucketNextWrong)

/-- 'caravanlaw19.BucketSorts': WHATEVER THE INPUT: true; the input reads as it did. -/
def bucketSortsSpec : ChangeSpec := { name := "bucketSorts", fn := fun _ => fun
  | [d1, d2] => { results := [.lit (.bool true)], args := [d1, d2] }
  | _ => none }
def bucketSortsRow : OpenClaim := { program := "ytlbhafbggelgkaa", sum := "c092c06d522e14c95c1079f8db08f9673c1f07470624097f3ea2be112e1b5f52", func := "caravan/caravanlaw19.BucketSorts", spec := "bucketSorts", inPlace := ["internal/bytealg.Compare"], unfollowed := true, recurses := true, apart := false }
def BucketSortsSaid : Prop := bucketSortsRow.holds Try.pinned (OpenSpec.ofChange bucketSortsSpec)

/-- ITS FALSE NEIGHBOUR: 'it returns false'. Refute it at one input. -/
def bucketSortsWrong : ChangeSpec := { name := "bucketSorts", fn := fun _ => fun
  | [d1, d2] => { results := [.lit (.bool false)], args := [d1, d2] }
  | _ => none }
def BucketSortsWrongFalsely : Prop := bucketSortsRow.holds Try.pinned (OpenSpec.ofChange bucketSortsWrong)

/-- 'caravanlaw19.BucketPlays': WHATEVER THE INPUT: true; the input reads as it did. -/
def bucketPlaysSpec : ChangeSpec := { name := "bucketPlays", fn := fun _ => fun
  | [d1, d2, d3, d4] => { results := [.lit (.bool true)], args := [d1, d2, d3, d4] }
  | _ => none }
def bucketPlaysRow : OpenClaim := { program := "ytlbhafbggelgkaa", sum := "c092c06d522e14c95c1079f8db08f9673c1f07470624097f3ea2be112e1b5f52", func := "caravan/caravanlaw19.BucketPlays", spec := "bucketPlays", inPlace := ["internal/bytealg.Compare"], unfollowed := true, recurses := true, apart := false }
def BucketPlaysSaid : Prop := bucketPlaysRow.holds Try.pinned (OpenSpec.ofChange bucketPlaysSpec)

/-- ITS FALSE NEIGHBOUR: 'it returns false'. Refute it at one input. -/
def bucketPlaysWrong : ChangeSpec := { name := "bucketPlays", fn := fun _ => fun
  | [d1, d2, d3, d4] => { results := [.lit (.bool false)], args := [d1, d2, d3, d4] }
  | _ => none }
def BucketPlaysWrongFalsely : Prop := bucketPlaysRow.holds Try.pinned (OpenSpec.ofChange bucketPlaysWrong)

/- THE SECOND FORM. 'bulk': how many values and letters a reading holds, each counted each time it is reached (what is shared counts as often as it is met; a slice's spare places count too). A statement '..UptoSaid' is the law's where the arguments, and the package variables that the reading takes, are together of bulk at most 1048576: NARROWER than '..Said'. Prove '..Said' where nothing that the law and all that it calls make is longer than what came in: it says more and counts as full. Else prove '..UptoSaid'. A law counts once. -/
mutual
def uptoBulk {H : Type} : DataW H → Nat
  | .lit (.string bytes) => bytes.length + 1
  | .lit _ => 1
  | .nil => 1
  | .ptr d => uptoBulk d + 1
  | .slice elems spare => uptoBulkAll elems + uptoBulkAll spare + 1
  | .agg parts => uptoBulkAll parts + 1
  | .iface _ d => uptoBulk d + 1
  | .map entries => uptoBulkEntries entries + 1
  | .held _ => 1
def uptoBulkAll {H : Type} : List (DataW H) → Nat
  | [] => 0
  | d :: r => uptoBulk d + uptoBulkAll r
def uptoBulkEntries {H : Type} : List (Lit × DataW H) → Nat
  | [] => 0
  | x :: r => uptoBulkEntry x + uptoBulkEntries r
def uptoBulkEntry {H : Type} : Lit × DataW H → Nat
  | (.string bytes, d) => bytes.length + uptoBulk d + 1
  | (_, d) => uptoBulk d + 1
 end
def uptoSmall : (H : Type) → List (DataW H) → Bool := fun _ ds => decide (uptoBulkAll ds ≤ 1048576)
def OpenSpec.upto (s : _root_.Go.ChangeSpec) : _root_.Go.OpenSpec := { _root_.Go.OpenSpec.ofChange s with cond := some uptoSmall }

/-- 'caravanlaw19.BucketStay', WHERE WHAT IT READS IS OF BULK AT MOST 1048576: true; the input reads as it did. -/
def bucketStayUptoRow : OpenClaim := { program := "ytlbhafbggelgkaa", sum := "c092c06d522e14c95c1079f8db08f9673c1f07470624097f3ea2be112e1b5f52", func := "caravan/caravanlaw19.BucketStay", spec := "bucketStay", recurses := true, apart := false, narrowed := true }
def BucketStayUptoSaid : Prop := bucketStayUptoRow.holds Try.pinned (OpenSpec.upto bucketStaySpec)

/-- 'caravanlaw19.BucketFull', WHERE WHAT IT READS IS OF BULK AT MOST 1048576: true; the input reads as it did. -/
def bucketFullUptoRow : OpenClaim := { program := "ytlbhafbggelgkaa", sum := "c092c06d522e14c95c1079f8db08f9673c1f07470624097f3ea2be112e1b5f52", func := "caravan/caravanlaw19.BucketFull", spec := "bucketFull", recurses := true, apart := false, narrowed := true }
def BucketFullUptoSaid : Prop := bucketFullUptoRow.holds Try.pinned (OpenSpec.upto bucketFullSpec)

/-- 'caravanlaw19.BucketNext', WHERE WHAT IT READS IS OF BULK AT MOST 1048576: true; the input reads as it did. -/
def bucketNextUptoRow : OpenClaim := { program := "ytlbhafbggelgkaa", sum := "c092c06d522e14c95c1079f8db08f9673c1f07470624097f3ea2be112e1b5f52", func := "caravan/caravanlaw19.BucketNext", spec := "bucketNext", recurses := true, apart := false, narrowed := true }
def BucketNextUptoSaid : Prop := bucketNextUptoRow.holds Try.pinned (OpenSpec.upto bucketNextSpec)

/-- 'caravanlaw19.BucketSorts', WHERE WHAT IT READS IS OF BULK AT MOST 1048576: true; the input reads as it did. -/
def bucketSortsUptoRow : OpenClaim := { program := "ytlbhafbggelgkaa", sum := "c092c06d522e14c95c1079f8db08f9673c1f07470624097f3ea2be112e1b5f52", func := "caravan/caravanlaw19.BucketSorts", spec := "bucketSorts", inPlace := ["internal/bytealg.Compare"], unfollowed := true, recurses := true, apart := false, narrowed := true }
def BucketSortsUptoSaid : Prop := bucketSortsUptoRow.holds Try.pinned (OpenSpec.upto bucketSortsSpec)

/-- 'caravanlaw19.BucketPlays', WHERE WHAT IT READS IS OF BULK AT MOST 1048576: true; the input reads as it did. -/
def bucketPlaysUptoRow : OpenClaim := { program := "ytlbhafbggelgkaa", sum := "c092c06d522e14c95c1079f8db08f9673c1f07470624097f3ea2be112e1b5f52", func := "caravan/caravanlaw19.BucketPlays", spec := "bucketPlays", inPlace := ["internal/bytealg.Compare"], unfollowed := true, recurses := true, apart := false, narrowed := true }
def BucketPlaysUptoSaid : Prop := bucketPlaysUptoRow.holds Try.pinned (OpenSpec.upto bucketPlaysSpec)

end Rows
end Go.Proofs.Ytlbhafbggelgkaa
