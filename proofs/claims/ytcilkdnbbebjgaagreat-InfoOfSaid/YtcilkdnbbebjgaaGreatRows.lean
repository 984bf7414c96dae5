/-
  NARROWER THAN 'FOR EVERY INPUT', by the rows' own cells (each row's printed sentence says how): InfoOf: loops · InfoTree: loops · CaravanChunks: loops.
  DERIVED. THE GIVEN ROWS OF THIS SEAT. 5 by the template 'for every input the law returns true; each argument reads behind the call as it read before'; 0 by the template 'total and deterministic' (their statements: YtcilkdnbbebjgaaGreatTotals.lean).
  GIVEN WITH THE SEED: the statements are not yours to turn. If you find one false, say at which input.
  Laid BY PROGRAM, IN A SANDBOX (cutbox-rows.mjs): the forced cells as the released guide's own fill.sh prints them over the translation 1021f87107763470… (all of the seat's roots in one cut). By AI agents, Wed Nov 11 2026. No macro, syntax, notation, axiom, sorry.
-/
import Derived.Test.YtcilkdnbbebjgaaGreatChecked
import GoSem.Claim
import GoSem.ClaimJoined
import GoSem.ClaimMapViews
import Derived.JoinedTies
import Derived.KernelRfl
namespace Go.Proofs.YtcilkdnbbebjgaaGreat
/- THE CELL 'sum', in the pinned program and in every row, IS THE sha256 OF THE DUMP (.gsa) THAT YtcilkdnbbebjgaaGreatProg.lean LOADS. Nothing in Lean hashes anything: it is a label: what it is worth is what the hold of that sum in a sandbox is worth. -/
noncomputable def Tryz.pinned : Pinned := { name := "ytcilkdnbbebjgaagreat", sum := "1021f87107763470b1c65475480ab6d7ac4f1ae8279c126a44793c9e03244609", checked := Tryz.checked }
namespace Rows
def none {H : Type} : Left H := { results := [], args := [] }

/-- 'caravanlaw11.InfoOf': WHATEVER THE INPUT: true; the input reads as it did. -/
def infoOfSpec : ChangeSpec := { name := "infoOf", fn := fun _ => fun
  | [d1, d2] => { results := [.lit (.bool true)], args := [d1, d2] }
  | _ => none }
def infoOfRow : OpenClaim := { program := "ytcilkdnbbebjgaagreat", sum := "1021f87107763470b1c65475480ab6d7ac4f1ae8279c126a44793c9e03244609", func := "caravan/caravanlaw11.InfoOf", spec := "infoOf", inPlace := ["internal/bytealg.IndexByteString", "internal/bytealg.IndexString", "internal/abi.NoEscape", "internal/bytealg.Compare"], unfollowed := true, recurses := true, named := ["internal/bytealg.MaxLen"], loops := true, apart := false }
def InfoOfSaid : Prop := infoOfRow.holds Tryz.pinned (OpenSpec.ofChange infoOfSpec)

/-- ITS FALSE NEIGHBOUR: 'it returns false'. Refute it at one input. -/
def infoOfWrong : ChangeSpec := { name := "infoOf", fn := fun _ => fun
  | [d1, d2] => { results := [.lit (.bool false)], args := [d1, d2] }
  | _ => none }
def InfoOfWrongFalsely : Prop := infoOfRow.holds Tryz.pinned (OpenSpec.ofChange infoOfWrong)

/-- 'caravanlaw11.InfoReads': WHATEVER THE INPUT: true; the input reads as it did. -/
def infoReadsSpec : ChangeSpec := { name := "infoReads", fn := fun _ => fun
  | [d] => { results := [.lit (.bool true)], args := [d] }
  | _ => none }
def infoReadsRow : OpenClaim := { program := "ytcilkdnbbebjgaagreat", sum := "1021f87107763470b1c65475480ab6d7ac4f1ae8279c126a44793c9e03244609", func := "caravan/caravanlaw11.InfoReads", spec := "infoReads", inPlace := ["internal/bytealg.Compare", "internal/bytealg.IndexByteString", "internal/bytealg.IndexString", "internal/abi.NoEscape"], unfollowed := true, recurses := true, named := ["internal/bytealg.MaxLen"], apart := false }
def InfoReadsSaid : Prop := infoReadsRow.holds Tryz.pinned (OpenSpec.ofChange infoReadsSpec)

/-- ITS FALSE NEIGHBOUR: 'it returns false'. Refute it at one input. -/
def infoReadsWrong : ChangeSpec := { name := "infoReads", fn := fun _ => fun
  | [d] => { results := [.lit (.bool false)], args := [d] }
  | _ => none }
def InfoReadsWrongFalsely : Prop := infoReadsRow.holds Tryz.pinned (OpenSpec.ofChange infoReadsWrong)

/-- 'caravanlaw11.InfoChecks': WHATEVER THE INPUT: true; the input reads as it did. -/
def infoChecksSpec : ChangeSpec := { name := "infoChecks", fn := fun _ => fun
  | [d1, d2, d3, d4] => { results := [.lit (.bool true)], args := [d1, d2, d3, d4] }
  | _ => none }
def infoChecksRow : OpenClaim := { program := "ytcilkdnbbebjgaagreat", sum := "1021f87107763470b1c65475480ab6d7ac4f1ae8279c126a44793c9e03244609", func := "caravan/caravanlaw11.InfoChecks", spec := "infoChecks", inPlace := ["internal/bytealg.IndexByteString", "internal/bytealg.IndexString", "internal/abi.NoEscape", "internal/bytealg.Compare"], unfollowed := true, recurses := true, named := ["internal/bytealg.MaxLen"], apart := false }
def InfoChecksSaid : Prop := infoChecksRow.holds Tryz.pinned (OpenSpec.ofChange infoChecksSpec)

/-- ITS FALSE NEIGHBOUR: 'it returns false'. Refute it at one input. -/
def infoChecksWrong : ChangeSpec := { name := "infoChecks", fn := fun _ => fun
  | [d1, d2, d3, d4] => { results := [.lit (.bool false)], args := [d1, d2, d3, d4] }
  | _ => none }
def InfoChecksWrongFalsely : Prop := infoChecksRow.holds Tryz.pinned (OpenSpec.ofChange infoChecksWrong)

/-- 'caravanlaw11.InfoTree': WHATEVER THE INPUT: true; the input reads as it did. -/
def infoTreeSpec : ChangeSpec := { name := "infoTree", fn := fun _ => fun
  | [d1, d2] => { results := [.lit (.bool true)], args := [d1, d2] }
  | _ => none }
def infoTreeRow : OpenClaim := { program := "ytcilkdnbbebjgaagreat", sum := "1021f87107763470b1c65475480ab6d7ac4f1ae8279c126a44793c9e03244609", func := "caravan/caravanlaw11.InfoTree", spec := "infoTree", inPlace := ["internal/bytealg.abigen_runtime_cmpstring", "internal/bytealg.IndexByteString", "internal/bytealg.IndexString", "internal/abi.NoEscape", "internal/bytealg.Compare"], unfollowed := true, recurses := true, named := ["internal/bytealg.MaxLen"], loops := true, apart := false }
def InfoTreeSaid : Prop := infoTreeRow.holds Tryz.pinned (OpenSpec.ofChange infoTreeSpec)

/-- ITS FALSE NEIGHBOUR: 'it returns false'. Refute it at one input. -/
def infoTreeWrong : ChangeSpec := { name := "infoTree", fn := fun _ => fun
  | [d1, d2] => { results := [.lit (.bool false)], args := [d1, d2] }
  | _ => none }
def InfoTreeWrongFalsely : Prop := infoTreeRow.holds Tryz.pinned (OpenSpec.ofChange infoTreeWrong)

/-- 'caravantop.CaravanChunks': WHATEVER THE INPUT: true; the input reads as it did. -/
def caravanChunksSpec : ChangeSpec := { name := "caravanChunks", fn := fun _ => fun
  | [d] => { results := [.lit (.bool true)], args := [d] }
  | _ => none }
def caravanChunksRow : OpenClaim := { program := "ytcilkdnbbebjgaagreat", sum := "1021f87107763470b1c65475480ab6d7ac4f1ae8279c126a44793c9e03244609", func := "caravan/caravantop.CaravanChunks", spec := "caravanChunks", inPlace := ["internal/bytealg.abigen_runtime_cmpstring", "internal/bytealg.IndexByteString", "internal/bytealg.IndexString", "internal/abi.NoEscape", "internal/bytealg.Compare"], unfollowed := true, recurses := true, named := ["internal/bytealg.MaxLen"], loops := true, apart := false }
def CaravanChunksSaid : Prop := caravanChunksRow.holds Tryz.pinned (OpenSpec.ofChange caravanChunksSpec)

/-- ITS FALSE NEIGHBOUR: 'it returns false'. Refute it at one input. -/
def caravanChunksWrong : ChangeSpec := { name := "caravanChunks", fn := fun _ => fun
  | [d] => { results := [.lit (.bool false)], args := [d] }
  | _ => none }
def CaravanChunksWrongFalsely : Prop := caravanChunksRow.holds Tryz.pinned (OpenSpec.ofChange caravanChunksWrong)

/- THE SECOND FORM. 'bulk': how many values and letters a reading holds, each counted each time it is reached (what is shared counts as often as it is met; a slice's spare places count too). A statement '..UptoSaid' is the law's where the arguments, and the package variables that the reading takes, are together of bulk at most 1048576: NARROWER than '..Said'. Prove '..Said' where nothing that the law and all that it calls make is longer than what came in: it says more and counts as full. Else prove '..UptoSaid'. A law counts once. -/
mutual
def uptoBulk {H : Type} : DataW H → Nat
  | .lit (.string bytes) => bytes.length + 1
  | .lit _ => 1
  | .nil => 1
  | .ptr d => uptoBulk d + 1
  | .slice elems spare => uptoBulkAll elems + uptoBulkAll spare + 1
  | .agg parts => uptoBulkAll parts + 1
  | .iface _ d => uptoBulk d + 1
  | .map entries => uptoBulkEntries entries + 1
  | .held _ => 1
def uptoBulkAll {H : Type} : List (DataW H) → Nat
  | [] => 0
  | d :: r => uptoBulk d + uptoBulkAll r
def uptoBulkEntries {H : Type} : List (Lit × DataW H) → Nat
  | [] => 0
  | x :: r => uptoBulkEntry x + uptoBulkEntries r
def uptoBulkEntry {H : Type} : Lit × DataW H → Nat
  | (.string bytes, d) => bytes.length + uptoBulk d + 1
  | (_, d) => uptoBulk d + 1
 end
def uptoSmall : (H : Type) → List (DataW H) → Bool := fun _ ds => decide (uptoBulkAll ds ≤ 1048576)
def OpenSpec.upto (s : _root_.Go.ChangeSpec) : _root_.Go.OpenSpec := { _root_.Go.OpenSpec.ofChange s with cond := some uptoSmall }

/-- 'caravanlaw11.InfoOf', WHERE WHAT IT READS IS OF BULK AT MOST 1048576: true; the input reads as it did. -/
def infoOfUptoRow : OpenClaim := { program := "ytcilkdnbbebjgaagreat", sum := "1021f87107763470b1c65475480ab6d7ac4f1ae8279c126a44793c9e03244609", func := "caravan/caravanlaw11.InfoOf", spec := "infoOf", inPlace := ["internal/bytealg.IndexByteString", "internal/bytealg.IndexString", "internal/abi.NoEscape", "internal/bytealg.Compare"], unfollowed := true, recurses := true, named := ["internal/bytealg.MaxLen"], loops := true, apart := false, narrowed := true }
def InfoOfUptoSaid : Prop := infoOfUptoRow.holds Tryz.pinned (OpenSpec.upto infoOfSpec)

/-- 'caravanlaw11.InfoReads', WHERE WHAT IT READS IS OF BULK AT MOST 1048576: true; the input reads as it did. -/
def infoReadsUptoRow : OpenClaim := { program := "ytcilkdnbbebjgaagreat", sum := "1021f87107763470b1c65475480ab6d7ac4f1ae8279c126a44793c9e03244609", func := "caravan/caravanlaw11.InfoReads", spec := "infoReads", inPlace := ["internal/bytealg.Compare", "internal/bytealg.IndexByteString", "internal/bytealg.IndexString", "internal/abi.NoEscape"], unfollowed := true, recurses := true, named := ["internal/bytealg.MaxLen"], apart := false, narrowed := true }
def InfoReadsUptoSaid : Prop := infoReadsUptoRow.holds Tryz.pinned (OpenSpec.upto infoReadsSpec)

/-- 'caravanlaw11.InfoChecks', WHERE WHAT IT READS IS OF BULK AT MOST 1048576: true; the input reads as it did. -/
def infoChecksUptoRow : OpenClaim := { program := "ytcilkdnbbebjgaagreat", sum := "1021f87107763470b1c65475480ab6d7ac4f1ae8279c126a44793c9e03244609", func := "caravan/caravanlaw11.InfoChecks", spec := "infoChecks", inPlace := ["internal/bytealg.IndexByteString", "internal/bytealg.IndexString", "internal/abi.NoEscape", "internal/bytealg.Compare"], unfollowed := true, recurses := true, named := ["internal/bytealg.MaxLen"], apart := false, narrowed := true }
def InfoChecksUptoSaid : Prop := infoChecksUptoRow.holds Tryz.pinned (OpenSpec.upto infoChecksSpec)

/-- 'caravanlaw11.InfoTree', WHERE WHAT IT READS IS OF BULK AT MOST 1048576: true; the input reads as it did. -/
def infoTreeUptoRow : OpenClaim := { program := "ytcilkdnbbebjgaagreat", sum := "1021f87107763470b1c65475480ab6d7ac4f1ae8279c126a44793c9e03244609", func := "caravan/caravanlaw11.InfoTree", spec := "infoTree", inPlace := ["internal/bytealg.abigen_runtime_cmpstring", "internal/bytealg.IndexByteString", "internal/bytealg.IndexString", "internal/abi.NoEscape", "internal/bytealg.Compare"], unfollowed := true, recurses := true, named := ["internal/bytealg.MaxLen"], loops := true, apart := false, narrowed := true }
def InfoTreeUptoSaid : Prop := infoTreeUptoRow.holds Tryz.pinned (OpenSpec.upto infoTreeSpec)

/-- 'caravantop.CaravanChunks', WHERE WHAT IT READS IS OF BULK AT MOST 1048576: true; the input reads as it did. -/
def caravanChunksUptoRow : OpenClaim := { program := "ytcilkdnbbebjgaagreat", sum := "1021f87107763470b1c65475480ab6d7ac4f1ae8279c126a44793c9e03244609", func := "caravan/caravantop.CaravanChunks", spec := "caravanChunks", inPlace := ["internal/bytealg.abigen_runtime_cmpstring", "internal/bytealg.IndexByteString", "internal/bytealg.IndexString", "internal/abi.NoEscape", "internal/bytealg.Compare"], unfollowed := true, recurses := true, named := ["internal/bytealg.MaxLen"], loops := true, apart := false, narrowed := true }
def CaravanChunksUptoSaid : Prop := caravanChunksUptoRow.holds Tryz.pinned (OpenSpec.upto caravanChunksSpec)

end Rows
end Go.Proofs.YtcilkdnbbebjgaaGreat
