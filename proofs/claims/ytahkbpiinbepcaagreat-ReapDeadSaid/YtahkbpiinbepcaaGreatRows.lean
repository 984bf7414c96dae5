/-
  No cell of these rows narrows 'for every input' (looked for: loops, veiled, ifaces, maps, wideKeys, modest, calm, conditions, laid).
  DERIVED. THE GIVEN ROWS OF THIS SEAT. 10 by the template 'for every input the law returns true; each argument reads behind the call as it read before'; 0 by the template 'total and deterministic' (their statements: YtahkbpiinbepcaaGreatTotals.lean).
  GIVEN WITH THE SEED: the statements are not yours to turn. If you find one false, say at which input.
  Laid BY PROGRAM, IN A SANDBOX (cutbox-rows.mjs): the forced cells as the released guide's own fill.sh prints them over the translation ad433dd7c89ebd94… (all of the seat's roots in one cut). By AI agents, Wed Nov 11 2026. No macro, syntax, notation, axiom, sorry.
-/
import Derived.Test.YtahkbpiinbepcaaGreatChecked
import GoSem.Claim
import GoSem.ClaimJoined
import GoSem.ClaimMapViews
import Derived.JoinedTies
import Derived.KernelRfl
namespace Go.Proofs.YtahkbpiinbepcaaGreat
/- THE CELL 'sum', in the pinned program and in every row, IS THE sha256 OF THE DUMP (.gsa) THAT YtahkbpiinbepcaaGreatProg.lean LOADS. Nothing in Lean hashes anything: it is a label: what it is worth is what the hold of that sum in a sandbox is worth. -/
noncomputable def Tryz.pinned : Pinned := { name := "ytahkbpiinbepcaagreat", sum := "ad433dd7c89ebd94e5f33b59049f35401773327f42f20f4b5c10dce7b861111c", checked := Tryz.checked }
namespace Rows
def none {H : Type} : Left H := { results := [], args := [] }

/-- 'caravanlaw15.ReapReaches': WHATEVER THE INPUT: true; the input reads as it did. -/
def reapReachesSpec : ChangeSpec := { name := "reapReaches", fn := fun _ => fun
  | [d1, d2, d3] => { results := [.lit (.bool true)], args := [d1, d2, d3] }
  | _ => none }
def reapReachesRow : OpenClaim := { program := "ytahkbpiinbepcaagreat", sum := "ad433dd7c89ebd94e5f33b59049f35401773327f42f20f4b5c10dce7b861111c", func := "caravan/caravanlaw15.ReapReaches", spec := "reapReaches", inPlace := ["internal/bytealg.IndexByteString", "internal/bytealg.IndexString", "internal/abi.NoEscape", "internal/bytealg.Compare"], unfollowed := true, recurses := true, named := ["internal/bytealg.MaxLen"], plainKeys := false, apart := false }
def ReapReachesSaid : Prop := reapReachesRow.holds Tryz.pinned (OpenSpec.ofChange reapReachesSpec)

/-- ITS FALSE NEIGHBOUR: 'it returns false'. Refute it at one input. -/
def reapReachesWrong : ChangeSpec := { name := "reapReaches", fn := fun _ => fun
  | [d1, d2, d3] => { results := [.lit (.bool false)], args := [d1, d2, d3] }
  | _ => none }
def ReapReachesWrongFalsely : Prop := reapReachesRow.holds Tryz.pinned (OpenSpec.ofChange reapReachesWrong)

/-- 'caravanlaw15.ReapForged': WHATEVER THE INPUT: true; the input reads as it did. -/
def reapForgedSpec : ChangeSpec := { name := "reapForged", fn := fun _ => fun
  | [d1, d2, d3, d4, d5] => { results := [.lit (.bool true)], args := [d1, d2, d3, d4, d5] }
  | _ => none }
def reapForgedRow : OpenClaim := { program := "ytahkbpiinbepcaagreat", sum := "ad433dd7c89ebd94e5f33b59049f35401773327f42f20f4b5c10dce7b861111c", func := "caravan/caravanlaw15.ReapForged", spec := "reapForged", inPlace := ["internal/bytealg.IndexByteString", "internal/bytealg.IndexString", "internal/abi.NoEscape", "internal/bytealg.Compare"], unfollowed := true, recurses := true, named := ["internal/bytealg.MaxLen"], plainKeys := false, apart := false }
def ReapForgedSaid : Prop := reapForgedRow.holds Tryz.pinned (OpenSpec.ofChange reapForgedSpec)

/-- ITS FALSE NEIGHBOUR: 'it returns false'. Refute it at one input. -/
def reapForgedWrong : ChangeSpec := { name := "reapForged", fn := fun _ => fun
  | [d1, d2, d3, d4, d5] => { results := [.lit (.bool false)], args := [d1, d2, d3, d4, d5] }
  | _ => none }
def ReapForgedWrongFalsely : Prop := reapForgedRow.holds Tryz.pinned (OpenSpec.ofChange reapForgedWrong)

/-- 'caravanlaw15.ReapWhole': WHATEVER THE INPUT: true; the input reads as it did. -/
def reapWholeSpec : ChangeSpec := { name := "reapWhole", fn := fun _ => fun
  | [d1, d2] => { results := [.lit (.bool true)], args := [d1, d2] }
  | _ => none }
def reapWholeRow : OpenClaim := { program := "ytahkbpiinbepcaagreat", sum := "ad433dd7c89ebd94e5f33b59049f35401773327f42f20f4b5c10dce7b861111c", func := "caravan/caravanlaw15.ReapWhole", spec := "reapWhole", inPlace := ["internal/bytealg.IndexByteString", "internal/bytealg.IndexString", "internal/abi.NoEscape", "internal/bytealg.Compare"], unfollowed := true, recurses := true, named := ["internal/bytealg.MaxLen"], plainKeys := false, apart := false }
def ReapWholeSaid : Prop := reapWholeRow.holds Tryz.pinned (OpenSpec.ofChange reapWholeSpec)

/-- ITS FALSE NEIGHBOUR: 'it returns false'. Refute it at one input. -/
def reapWholeWrong : ChangeSpec := { name := "reapWhole", fn := fun _ => fun
  | [d1, d2] => { results := [.lit (.bool false)], args := [d1, d2] }
  | _ => none }
def ReapWholeWrongFalsely : Prop := reapWholeRow.holds Tryz.pinned (OpenSpec.ofChange reapWholeWrong)

/-- 'caravanlaw15.ReapUnion': WHATEVER THE INPUT: true; the input reads as it did. -/
def reapUnionSpec : ChangeSpec := { name := "reapUnion", fn := fun _ => fun
  | [d1, d2, d3] => { results := [.lit (.bool true)], args := [d1, d2, d3] }
  | _ => none }
def reapUnionRow : OpenClaim := { program := "ytahkbpiinbepcaagreat", sum := "ad433dd7c89ebd94e5f33b59049f35401773327f42f20f4b5c10dce7b861111c", func := "caravan/caravanlaw15.ReapUnion", spec := "reapUnion", inPlace := ["internal/bytealg.IndexByteString", "internal/bytealg.IndexString", "internal/abi.NoEscape", "internal/bytealg.Compare"], unfollowed := true, recurses := true, named := ["internal/bytealg.MaxLen"], plainKeys := false, apart := false }
def ReapUnionSaid : Prop := reapUnionRow.holds Tryz.pinned (OpenSpec.ofChange reapUnionSpec)

/-- ITS FALSE NEIGHBOUR: 'it returns false'. Refute it at one input. -/
def reapUnionWrong : ChangeSpec := { name := "reapUnion", fn := fun _ => fun
  | [d1, d2, d3] => { results := [.lit (.bool false)], args := [d1, d2, d3] }
  | _ => none }
def ReapUnionWrongFalsely : Prop := reapUnionRow.holds Tryz.pinned (OpenSpec.ofChange reapUnionWrong)

/-- 'caravanlaw15.ReapDead': WHATEVER THE INPUT: true; the input reads as it did. -/
def reapDeadSpec : ChangeSpec := { name := "reapDead", fn := fun _ => fun
  | [d1, d2, d3] => { results := [.lit (.bool true)], args := [d1, d2, d3] }
  | _ => none }
def reapDeadRow : OpenClaim := { program := "ytahkbpiinbepcaagreat", sum := "ad433dd7c89ebd94e5f33b59049f35401773327f42f20f4b5c10dce7b861111c", func := "caravan/caravanlaw15.ReapDead", spec := "reapDead", inPlace := ["internal/bytealg.IndexByteString", "internal/bytealg.IndexString", "internal/abi.NoEscape", "internal/bytealg.Compare"], unfollowed := true, recurses := true, named := ["internal/bytealg.MaxLen"], plainKeys := false, apart := false }
def ReapDeadSaid : Prop := reapDeadRow.holds Tryz.pinned (OpenSpec.ofChange reapDeadSpec)

/-- ITS FALSE NEIGHBOUR: 'it returns false'. Refute it at one input. -/
def reapDeadWrong : ChangeSpec := { name := "reapDead", fn := fun _ => fun
  | [d1, d2, d3] => { results := [.lit (.bool false)], args := [d1, d2, d3] }
  | _ => none }
def ReapDeadWrongFalsely : Prop := reapDeadRow.holds Tryz.pinned (OpenSpec.ofChange reapDeadWrong)

/-- 'caravanlaw22.FrontierOf': WHATEVER THE INPUT: true; the input reads as it did. -/
def frontierOfSpec : ChangeSpec := { name := "frontierOf", fn := fun _ => fun
  | [d1, d2, d3, d4] => { results := [.lit (.bool true)], args := [d1, d2, d3, d4] }
  | _ => none }
def frontierOfRow : OpenClaim := { program := "ytahkbpiinbepcaagreat", sum := "ad433dd7c89ebd94e5f33b59049f35401773327f42f20f4b5c10dce7b861111c", func := "caravan/caravanlaw22.FrontierOf", spec := "frontierOf", inPlace := ["internal/bytealg.IndexByteString", "internal/bytealg.IndexString", "internal/abi.NoEscape", "internal/bytealg.Compare"], unfollowed := true, recurses := true, named := ["internal/bytealg.MaxLen"], plainKeys := false, apart := false }
def FrontierOfSaid : Prop := frontierOfRow.holds Tryz.pinned (OpenSpec.ofChange frontierOfSpec)

/-- ITS FALSE NEIGHBOUR: 'it returns false'. Refute it at one input. -/
def frontierOfWrong : ChangeSpec := { name := "frontierOf", fn := fun _ => fun
  | [d1, d2, d3, d4] => { results := [.lit (.bool false)], args := [d1, d2, d3, d4] }
  | _ => none }
def FrontierOfWrongFalsely : Prop := frontierOfRow.holds Tryz.pinned (OpenSpec.ofChange frontierOfWrong)

/-- 'caravanlaw22.FrontierEnds': WHATEVER THE INPUT: true; the input reads as it did. -/
def frontierEndsSpec : ChangeSpec := { name := "frontierEnds", fn := fun _ => fun
  | [d1, d2] => { results := [.lit (.bool true)], args := [d1, d2] }
  | _ => none }
def frontierEndsRow : OpenClaim := { program := "ytahkbpiinbepcaagreat", sum := "ad433dd7c89ebd94e5f33b59049f35401773327f42f20f4b5c10dce7b861111c", func := "caravan/caravanlaw22.FrontierEnds", spec := "frontierEnds", inPlace := ["internal/bytealg.IndexByteString", "internal/bytealg.IndexString", "internal/abi.NoEscape", "internal/bytealg.Compare"], unfollowed := true, recurses := true, named := ["internal/bytealg.MaxLen"], plainKeys := false, apart := false }
def FrontierEndsSaid : Prop := frontierEndsRow.holds Tryz.pinned (OpenSpec.ofChange frontierEndsSpec)

/-- ITS FALSE NEIGHBOUR: 'it returns false'. Refute it at one input. -/
def frontierEndsWrong : ChangeSpec := { name := "frontierEnds", fn := fun _ => fun
  | [d1, d2] => { results := [.lit (.bool false)], args := [d1, d2] }
  | _ => none }
def FrontierEndsWrongFalsely : Prop := frontierEndsRow.holds Tryz.pinned (OpenSpec.ofChange frontierEndsWrong)

/-- 'caravanlaw22.FrontierMany': WHATEVER THE INPUT: true; the input reads as it did. -/
def frontierManySpec : ChangeSpec := { name := "frontierMany", fn := fun _ => fun
  | [d] => { results := [.lit (.bool true)], args := [d] }
  | _ => none }
def frontierManyRow : OpenClaim := { program := "ytahkbpiinbepcaagreat", sum := "ad433dd7c89ebd94e5f33b59049f35401773327f42f20f4b5c10dce7b861111c", func := "caravan/caravanlaw22.FrontierMany", spec := "frontierMany", inPlace := ["internal/bytealg.IndexByteString", "internal/bytealg.IndexString", "internal/abi.NoEscape", "internal/bytealg.Compare"], unfollowed := true, recurses := true, named := ["internal/bytealg.MaxLen"], plainKeys := false, apart := false }
def FrontierManySaid : Prop := frontierManyRow.holds Tryz.pinned (OpenSpec.ofChange frontierManySpec)

/-- ITS FALSE NEIGHBOUR: 'it returns false'. Refute it at one input. -/
def frontierManyWrong : ChangeSpec := { name := "frontierMany", fn := fun _ => fun
  | [d] => { results := [.lit (.bool false)], args := [d] }
  | _ => none }
def FrontierManyWrongFalsely : Prop := frontierManyRow.holds Tryz.pinned (OpenSpec.ofChange frontierManyWrong)

/-- 'caravanlaw22.FrontierKnown': WHATEVER THE INPUT: true; the input reads as it did. -/
def frontierKnownSpec : ChangeSpec := { name := "frontierKnown", fn := fun _ => fun
  | [d1, d2, d3] => { results := [.lit (.bool true)], args := [d1, d2, d3] }
  | _ => none }
def frontierKnownRow : OpenClaim := { program := "ytahkbpiinbepcaagreat", sum := "ad433dd7c89ebd94e5f33b59049f35401773327f42f20f4b5c10dce7b861111c", func := "caravan/caravanlaw22.FrontierKnown", spec := "frontierKnown", inPlace := ["internal/bytealg.IndexByteString", "internal/bytealg.IndexString", "internal/abi.NoEscape", "internal/bytealg.Compare"], unfollowed := true, recurses := true, named := ["internal/bytealg.MaxLen"], plainKeys := false, apart := false }
def FrontierKnownSaid : Prop := frontierKnownRow.holds Tryz.pinned (OpenSpec.ofChange frontierKnownSpec)

/-- ITS FALSE NEIGHBOUR: 'it returns false'. Refute it at one input. -/
def frontierKnownWrong : ChangeSpec := { name := "frontierKnown", fn := fun _ => fun
  | [d1, d2, d3] => { results := [.lit (.bool false)], args := [d1, d2, d3] }
  | _ => none }
def FrontierKnownWrongFalsely : Prop := frontierKnownRow.holds Tryz.pinned (OpenSpec.ofChange frontierKnownWrong)

/-- 'caravanlaw22.FrontierThere': WHATEVER THE INPUT: true; the input reads as it did. -/
def frontierThereSpec : ChangeSpec := { name := "frontierThere", fn := fun _ => fun
  | [d] => { results := [.lit (.bool true)], args := [d] }
  | _ => none }
def frontierThereRow : OpenClaim := { program := "ytahkbpiinbepcaagreat", sum := "ad433dd7c89ebd94e5f33b59049f35401773327f42f20f4b5c10dce7b861111c", func := "caravan/caravanlaw22.FrontierThere", spec := "frontierThere", inPlace := ["internal/bytealg.IndexByteString", "internal/bytealg.IndexString", "internal/abi.NoEscape", "internal/bytealg.Compare"], unfollowed := true, recurses := true, named := ["internal/bytealg.MaxLen"], plainKeys := false, apart := false }
def FrontierThereSaid : Prop := frontierThereRow.holds Tryz.pinned (OpenSpec.ofChange frontierThereSpec)

/-- ITS FALSE NEIGHBOUR: 'it returns false'. Refute it at one input. -/
def frontierThereWrong : ChangeSpec := { name := "frontierThere", fn := fun _ => fun
  | [d] => { results := [.lit (.bool false)], args := [d] }
  | _ => none }
def FrontierThereWrongFalsely : Prop := frontierThereRow.holds Tryz.pinned (OpenSpec.ofChange frontierThereWrong)

/- THE SECOND FORM. 'bulk': how many values and letters a reading holds, each counted each time it is reached (what is shared counts as often as it is met; a slice's spare places count too). A statement '..UptoSaid' is the law's where the arguments, and the package variables that the reading takes, are together of bulk at most 1048576: NARROWER than '..Said'. Prove '..Said' where nothing that the law and all that it calls make is longer than what came in: it says more and counts as full. Else prove '..UptoSaid'. A law counts once. -/
mutual
def uptoBulk {H : Type} : DataW H → Nat
  | .lit (.string bytes) => bytes.length + 1
  | .lit _ => 1
  | .nil => 1
  | .ptr d => uptoBulk d + 1
  | .slice elems spare => uptoBulkAll elems + uptoBulkAll spare + 1
  | .agg parts => uptoBulkAll parts + 1
  | .iface _ d => uptoBulk d + 1
  | .map entries => uptoBulkEntries entries + 1
  | .held _ => 1
def uptoBulkAll {H : Type} : List (DataW H) → Nat
  | [] => 0
  | d :: r => uptoBulk d + uptoBulkAll r
def uptoBulkEntries {H : Type} : List (Lit × DataW H) → Nat
  | [] => 0
  | x :: r => uptoBulkEntry x + uptoBulkEntries r
def uptoBulkEntry {H : Type} : Lit × DataW H → Nat
  | (.string bytes, d) => bytes.length + uptoBulk d + 1
  | (_, d) => uptoBulk d + 1
 end
def uptoSmall : (H : Type) → List (DataW H) → Bool := fun _ ds => decide (uptoBulkAll ds ≤ 1048576)
def OpenSpec.upto (s : _root_.Go.ChangeSpec) : _root_.Go.OpenSpec := { _root_.Go.OpenSpec.ofChange s with cond := some uptoSmall }

/-- 'caravanlaw15.ReapReaches', WHERE WHAT IT READS IS OF BULK AT MOST 1048576: true; the input reads as it did. -/
def reapReachesUptoRow : OpenClaim := { program := "ytahkbpiinbepcaagreat", sum := "ad433dd7c89ebd94e5f33b59049f35401773327f42f20f4b5c10dce7b861111c", func := "caravan/caravanlaw15.ReapReaches", spec := "reapReaches", inPlace := ["internal/bytealg.IndexByteString", "internal/bytealg.IndexString", "internal/abi.NoEscape", "internal/bytealg.Compare"], unfollowed := true, recurses := true, named := ["internal/bytealg.MaxLen"], plainKeys := false, apart := false, narrowed := true }
def ReapReachesUptoSaid : Prop := reapReachesUptoRow.holds Tryz.pinned (OpenSpec.upto reapReachesSpec)

/-- 'caravanlaw15.ReapForged', WHERE WHAT IT READS IS OF BULK AT MOST 1048576: true; the input reads as it did. -/
def reapForgedUptoRow : OpenClaim := { program := "ytahkbpiinbepcaagreat", sum := "ad433dd7c89ebd94e5f33b59049f35401773327f42f20f4b5c10dce7b861111c", func := "caravan/caravanlaw15.ReapForged", spec := "reapForged", inPlace := ["internal/bytealg.IndexByteString", "internal/bytealg.IndexString", "internal/abi.NoEscape", "internal/bytealg.Compare"], unfollowed := true, recurses := true, named := ["internal/bytealg.MaxLen"], plainKeys := false, apart := false, narrowed := true }
def ReapForgedUptoSaid : Prop := reapForgedUptoRow.holds Tryz.pinned (OpenSpec.upto reapForgedSpec)

/-- 'caravanlaw15.ReapWhole', WHERE WHAT IT READS IS OF BULK AT MOST 1048576: true; the input reads as it did. -/
def reapWholeUptoRow : OpenClaim := { program := "ytahkbpiinbepcaagreat", sum := "ad433dd7c89ebd94e5f33b59049f35401773327f42f20f4b5c10dce7b861111c", func := "caravan/caravanlaw15.ReapWhole", spec := "reapWhole", inPlace := ["internal/bytealg.IndexByteString", "internal/bytealg.IndexString", "internal/abi.NoEscape", "internal/bytealg.Compare"], unfollowed := true, recurses := true, named := ["internal/bytealg.MaxLen"], plainKeys := false, apart := false, narrowed := true }
def ReapWholeUptoSaid : Prop := reapWholeUptoRow.holds Tryz.pinned (OpenSpec.upto reapWholeSpec)

/-- 'caravanlaw15.ReapUnion', WHERE WHAT IT READS IS OF BULK AT MOST 1048576: true; the input reads as it did. -/
def reapUnionUptoRow : OpenClaim := { program := "ytahkbpiinbepcaagreat", sum := "ad433dd7c89ebd94e5f33b59049f35401773327f42f20f4b5c10dce7b861111c", func := "caravan/caravanlaw15.ReapUnion", spec := "reapUnion", inPlace := ["internal/bytealg.IndexByteString", "internal/bytealg.IndexString", "internal/abi.NoEscape", "internal/bytealg.Compare"], unfollowed := true, recurses := true, named := ["internal/bytealg.MaxLen"], plainKeys := false, apart := false, narrowed := true }
def ReapUnionUptoSaid : Prop := reapUnionUptoRow.holds Tryz.pinned (OpenSpec.upto reapUnionSpec)

/-- 'caravanlaw15.ReapDead', WHERE WHAT IT READS IS OF BULK AT MOST 1048576: true; the input reads as it did. -/
def reapDeadUptoRow : OpenClaim := { program := "ytahkbpiinbepcaagreat", sum := "ad433dd7c89ebd94e5f33b59049f35401773327f42f20f4b5c10dce7b861111c", func := "caravan/caravanlaw15.ReapDead", spec := "reapDead", inPlace := ["internal/bytealg.IndexByteString", "internal/bytealg.IndexString", "internal/abi.NoEscape", "internal/bytealg.Compare"], unfollowed := true, recurses := true, named := ["internal/bytealg.MaxLen"], plainKeys := false, apart := false, narrowed := true }
def ReapDeadUptoSaid : Prop := reapDeadUptoRow.holds Tryz.pinned (OpenSpec.upto reapDeadSpec)

/-- 'caravanlaw22.FrontierOf', WHERE WHAT IT READS IS OF BULK AT MOST 1048576: true; the input reads as it did. -/
def frontierOfUptoRow : OpenClaim := { program := "ytahkbpiinbepcaagreat", sum := "ad433dd7c89ebd94e5f33b59049f35401773327f42f20f4b5c10dce7b861111c", func := "caravan/caravanlaw22.FrontierOf", spec := "frontierOf", inPlace := ["internal/bytealg.IndexByteString", "internal/bytealg.IndexString", "internal/abi.NoEscape", "internal/bytealg.Compare"], unfollowed := true, recurses := true, named := ["internal/bytealg.MaxLen"], plainKeys := false, apart := false, narrowed := true }
def FrontierOfUptoSaid : Prop := frontierOfUptoRow.holds Tryz.pinned (OpenSpec.upto frontierOfSpec)

/-- 'caravanlaw22.FrontierEnds', WHERE WHAT IT READS IS OF BULK AT MOST 1048576: true; the input reads as it did. -/
def frontierEndsUptoRow : OpenClaim := { program := "ytahkbpiinbepcaagreat", sum := "ad433dd7c89ebd94e5f33b59049f35401773327f42f20f4b5c10dce7b861111c", func := "caravan/caravanlaw22.FrontierEnds", spec := "frontierEnds", inPlace := ["internal/bytealg.IndexByteString", "internal/bytealg.IndexString", "internal/abi.NoEscape", "internal/bytealg.Compare"], unfollowed := true, recurses := true, named := ["internal/bytealg.MaxLen"], plainKeys := false, apart := false, narrowed := true }
def FrontierEndsUptoSaid : Prop := frontierEndsUptoRow.holds Tryz.pinned (OpenSpec.upto frontierEndsSpec)

/-- 'caravanlaw22.FrontierMany', WHERE WHAT IT READS IS OF BULK AT MOST 1048576: true; the input reads as it did. -/
def frontierManyUptoRow : OpenClaim := { program := "ytahkbpiinbepcaagreat", sum := "ad433dd7c89ebd94e5f33b59049f35401773327f42f20f4b5c10dce7b861111c", func := "caravan/caravanlaw22.FrontierMany", spec := "frontierMany", inPlace := ["internal/bytealg.IndexByteString", "internal/bytealg.IndexString", "internal/abi.NoEscape", "internal/bytealg.Compare"], unfollowed := true, recurses := true, named := ["internal/bytealg.MaxLen"], plainKeys := false, apart := false, narrowed := true }
def FrontierManyUptoSaid : Prop := frontierManyUptoRow.holds Tryz.pinned (OpenSpec.upto frontierManySpec)

/-- 'caravanlaw22.FrontierKnown', WHERE WHAT IT READS IS OF BULK AT MOST 1048576: true; the input reads as it did. -/
def frontierKnownUptoRow : OpenClaim := { program := "ytahkbpiinbepcaagreat", sum := "ad433dd7c89ebd94e5f33b59049f35401773327f42f20f4b5c10dce7b861111c", func := "caravan/caravanlaw22.FrontierKnown", spec := "frontierKnown", inPlace := ["internal/bytealg.IndexByteString", "internal/bytealg.IndexString", "internal/abi.NoEscape", "internal/bytealg.Compare"], unfollowed := true, recurses := true, named := ["internal/bytealg.MaxLen"], plainKeys := false, apart := false, narrowed := true }
def FrontierKnownUptoSaid : Prop := frontierKnownUptoRow.holds Tryz.pinned (OpenSpec.upto frontierKnownSpec)

/-- 'caravanlaw22.FrontierThere', WHERE WHAT IT READS IS OF BULK AT MOST 1048576: true; the input reads as it did. -/
def frontierThereUptoRow : OpenClaim := { program := "ytahkbpiinbepcaagreat", sum := "ad433dd7c89ebd94e5f33b59049f35401773327f42f20f4b5c10dce7b861111c", func := "caravan/caravanlaw22.FrontierThere", spec := "frontierThere", inPlace := ["internal/bytealg.IndexByteString", "internal/bytealg.IndexString", "internal/abi.NoEscape", "internal/bytealg.Compare"], unfollowed := true, recurses := true, named := ["internal/bytealg.MaxLen"], plainKeys := false, apart := false, narrowed := true }
def FrontierThereUptoSaid : Prop := frontierThereUptoRow.holds Tryz.pinned (OpenSpec.upto frontierThereSpec)

end Rows
end Go.Proofs.YtahkbpiinbepcaaGreat
