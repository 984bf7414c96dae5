/-
  NARROWER THAN 'FOR EVERY INPUT', by the rows' own cells (each row's printed sentence says how): TreeChecks: loops · TreeOf: loops · TreeOrder: loops · TreeClone: loops · TreeAt: loops · ArchiveWrites: loops · ArchiveBack: loops · ArchiveApart: loops.
  DERIVED. THE GIVEN ROWS OF THIS SEAT. 11 by the template 'for every input the law returns true; each argument reads behind the call as it read before'; 0 by the template 'total and deterministic' (their statements: YtdajpfbgikgkeaaTotals.lean).
  GIVEN WITH THE SEED: the statements are not yours to turn. If you find one false, say at which input.
  Laid BY PROGRAM, IN A SANDBOX (cutbox-rows.mjs): the forced cells as the released guide's own fill.sh prints them over the translation 86b1065a101a7a16… (all of the seat's roots in one cut). By AI agents, Wed Nov 11 2026. No macro, syntax, notation, axiom, sorry.
-/
import Derived.Test.YtdajpfbgikgkeaaChecked
import GoSem.Claim
import GoSem.ClaimJoined
import GoSem.ClaimMapViews
import Derived.JoinedTies
import Derived.KernelRfl
namespace Go.Proofs.Ytdajpfbgikgkeaa
/- THE CELL 'sum', in the pinned program and in every row, IS THE sha256 OF THE DUMP (.gsa) THAT YtdajpfbgikgkeaaProg.lean LOADS. Nothing in Lean hashes anything: it is a label: what it is worth is what the hold of that sum in a sandbox is worth. -/
noncomputable def Try.pinned : Pinned := { name := "ytdajpfbgikgkeaa", sum := "86b1065a101a7a163217357dc740f538644b249a7474838f307f73735e0f95dc", checked := Try.checked }
namespace Rows
def none {H : Type} : Left H := { results := [], args := [] }

/-- 'caravanlaw05.TreeChecks': WHATEVER THE INPUT: true; the input reads as it did. -/
def treeChecksSpec : ChangeSpec := { name := "treeChecks", fn := fun _ => fun
  | [d] => { results := [.lit (.bool true)], args := [d] }
  | _ => none }
def treeChecksRow : OpenClaim := { program := "ytdajpfbgikgkeaa", sum := "86b1065a101a7a163217357dc740f538644b249a7474838f307f73735e0f95dc", func := "caravan/caravanlaw05.TreeChecks", spec := "treeChecks", inPlace := ["internal/bytealg.abigen_runtime_cmpstring", "internal/bytealg.IndexByteString", "internal/bytealg.IndexString"], unfollowed := true, recurses := true, named := ["internal/bytealg.MaxLen"], loops := true, apart := false }
def TreeChecksSaid : Prop := treeChecksRow.holds Try.pinned (OpenSpec.ofChange treeChecksSpec)

/-- ITS FALSE NEIGHBOUR: 'it returns false'. Refute it at one input. -/
def treeChecksWrong : ChangeSpec := { name := "treeChecks", fn := fun _ => fun
  | [d] => { results := [.lit (.bool false)], args := [d] }
  | _ => none }
def TreeChecksWrongFalsely : Prop := treeChecksRow.holds Try.pinned (OpenSpec.ofChange treeChecksWrong)

/-- 'caravanlaw05.TreeWide': WHATEVER THE INPUT: true; the input reads as it did. -/
def treeWideSpec : ChangeSpec := { name := "treeWide", fn := fun _ => fun
  | [d] => { results := [.lit (.bool true)], args := [d] }
  | _ => none }
def treeWideRow : OpenClaim := { program := "ytdajpfbgikgkeaa", sum := "86b1065a101a7a163217357dc740f538644b249a7474838f307f73735e0f95dc", func := "caravan/caravanlaw05.TreeWide", spec := "treeWide", inPlace := ["internal/bytealg.abigen_runtime_cmpstring", "internal/bytealg.IndexByteString", "internal/bytealg.IndexString"], unfollowed := true, recurses := true, named := ["internal/bytealg.MaxLen"], apart := false }
def TreeWideSaid : Prop := treeWideRow.holds Try.pinned (OpenSpec.ofChange treeWideSpec)

/-- ITS FALSE NEIGHBOUR: 'it returns false'. Refute it at one input. -/
def treeWideWrong : ChangeSpec := { name := "treeWide", fn := fun _ => fun
  | [d] => { results := [.lit (.bool false)], args := [d] }
  | _ => none }
def TreeWideWrongFalsely : Prop := treeWideRow.holds Try.pinned (OpenSpec.ofChange treeWideWrong)

/-- 'caravanlaw05.TreeOf': WHATEVER THE INPUT: true; the input reads as it did. -/
def treeOfSpec : ChangeSpec := { name := "treeOf", fn := fun _ => fun
  | [d] => { results := [.lit (.bool true)], args := [d] }
  | _ => none }
def treeOfRow : OpenClaim := { program := "ytdajpfbgikgkeaa", sum := "86b1065a101a7a163217357dc740f538644b249a7474838f307f73735e0f95dc", func := "caravan/caravanlaw05.TreeOf", spec := "treeOf", inPlace := ["internal/bytealg.abigen_runtime_cmpstring", "internal/bytealg.IndexByteString", "internal/bytealg.IndexString"], unfollowed := true, recurses := true, named := ["internal/bytealg.MaxLen"], loops := true, apart := false }
def TreeOfSaid : Prop := treeOfRow.holds Try.pinned (OpenSpec.ofChange treeOfSpec)

/-- ITS FALSE NEIGHBOUR: 'it returns false'. Refute it at one input. -/
def treeOfWrong : ChangeSpec := { name := "treeOf", fn := fun _ => fun
  | [d] => { results := [.lit (.bool false)], args := [d] }
  | _ => none }
def TreeOfWrongFalsely : Prop := treeOfRow.holds Try.pinned (OpenSpec.ofChange treeOfWrong)

/-- 'caravanlaw05.TreeOrder': WHATEVER THE INPUT: true; the input reads as it did. -/
def treeOrderSpec : ChangeSpec := { name := "treeOrder", fn := fun _ => fun
  | [d1, d2, d3] => { results := [.lit (.bool true)], args := [d1, d2, d3] }
  | _ => none }
def treeOrderRow : OpenClaim := { program := "ytdajpfbgikgkeaa", sum := "86b1065a101a7a163217357dc740f538644b249a7474838f307f73735e0f95dc", func := "caravan/caravanlaw05.TreeOrder", spec := "treeOrder", inPlace := ["internal/bytealg.abigen_runtime_cmpstring", "internal/bytealg.IndexByteString", "internal/bytealg.IndexString"], unfollowed := true, recurses := true, named := ["internal/bytealg.MaxLen"], loops := true, apart := false }
def TreeOrderSaid : Prop := treeOrderRow.holds Try.pinned (OpenSpec.ofChange treeOrderSpec)

/-- ITS FALSE NEIGHBOUR: 'it returns false'. Refute it at one input. -/
def treeOrderWrong : ChangeSpec := { name := "treeOrder", fn := fun _ => fun
  | [d1, d2, d3] => { results := [.lit (.bool false)], args := [d1, d2, d3] }
  | _ => none }
def TreeOrderWrongFalsely : Prop := treeOrderRow.holds Try.pinned (OpenSpec.ofChange treeOrderWrong)

/-- 'caravanlaw05.TreeClone': WHATEVER THE INPUT: true; the input reads as it did. -/
def treeCloneSpec : ChangeSpec := { name := "treeClone", fn := fun _ => fun
  | [d] => { results := [.lit (.bool true)], args := [d] }
  | _ => none }
def treeCloneRow : OpenClaim := { program := "ytdajpfbgikgkeaa", sum := "86b1065a101a7a163217357dc740f538644b249a7474838f307f73735e0f95dc", func := "caravan/caravanlaw05.TreeClone", spec := "treeClone", inPlace := ["internal/bytealg.abigen_runtime_cmpstring", "internal/bytealg.IndexByteString", "internal/bytealg.IndexString"], unfollowed := true, recurses := true, named := ["internal/bytealg.MaxLen"], loops := true, apart := false }
def TreeCloneSaid : Prop := treeCloneRow.holds Try.pinned (OpenSpec.ofChange treeCloneSpec)

/-- ITS FALSE NEIGHBOUR: 'it returns false'. Refute it at one input. -/
def treeCloneWrong : ChangeSpec := { name := "treeClone", fn := fun _ => fun
  | [d] => { results := [.lit (.bool false)], args := [d] }
  | _ => none }
def TreeCloneWrongFalsely : Prop := treeCloneRow.holds Try.pinned (OpenSpec.ofChange treeCloneWrong)

/-- 'caravanlaw05.TreeAt': WHATEVER THE INPUT: true; the input reads as it did. -/
def treeAtSpec : ChangeSpec := { name := "treeAt", fn := fun _ => fun
  | [d1, d2] => { results := [.lit (.bool true)], args := [d1, d2] }
  | _ => none }
def treeAtRow : OpenClaim := { program := "ytdajpfbgikgkeaa", sum := "86b1065a101a7a163217357dc740f538644b249a7474838f307f73735e0f95dc", func := "caravan/caravanlaw05.TreeAt", spec := "treeAt", inPlace := ["internal/bytealg.abigen_runtime_cmpstring", "internal/bytealg.IndexByteString", "internal/bytealg.IndexString"], unfollowed := true, recurses := true, named := ["internal/bytealg.MaxLen"], loops := true, apart := false }
def TreeAtSaid : Prop := treeAtRow.holds Try.pinned (OpenSpec.ofChange treeAtSpec)

/-- ITS FALSE NEIGHBOUR: 'it returns false'. Refute it at one input. -/
def treeAtWrong : ChangeSpec := { name := "treeAt", fn := fun _ => fun
  | [d1, d2] => { results := [.lit (.bool false)], args := [d1, d2] }
  | _ => none }
def TreeAtWrongFalsely : Prop := treeAtRow.holds Try.pinned (OpenSpec.ofChange treeAtWrong)

/-- 'caravanlaw06.ArchiveWrites': WHATEVER THE INPUT: true; the input reads as it did. -/
def archiveWritesSpec : ChangeSpec := { name := "archiveWrites", fn := fun _ => fun
  | [d] => { results := [.lit (.bool true)], args := [d] }
  | _ => none }
def archiveWritesRow : OpenClaim := { program := "ytdajpfbgikgkeaa", sum := "86b1065a101a7a163217357dc740f538644b249a7474838f307f73735e0f95dc", func := "caravan/caravanlaw06.ArchiveWrites", spec := "archiveWrites", inPlace := ["internal/bytealg.IndexByteString", "internal/bytealg.IndexString", "internal/abi.NoEscape", "internal/bytealg.abigen_runtime_cmpstring"], unfollowed := true, recurses := true, named := ["internal/bytealg.MaxLen"], loops := true, apart := false }
def ArchiveWritesSaid : Prop := archiveWritesRow.holds Try.pinned (OpenSpec.ofChange archiveWritesSpec)

/-- ITS FALSE NEIGHBOUR: 'it returns false'. Refute it at one input. -/
def archiveWritesWrong : ChangeSpec := { name := "archiveWrites", fn := fun _ => fun
  | [d] => { results := [.lit (.bool false)], args := [d] }
  | _ => none }
def ArchiveWritesWrongFalsely : Prop := archiveWritesRow.holds Try.pinned (OpenSpec.ofChange archiveWritesWrong)

/-- 'caravanlaw06.ArchiveReads': WHATEVER THE INPUT: true; the input reads as it did. -/
def archiveReadsSpec : ChangeSpec := { name := "archiveReads", fn := fun _ => fun
  | [d] => { results := [.lit (.bool true)], args := [d] }
  | _ => none }
def archiveReadsRow : OpenClaim := { program := "ytdajpfbgikgkeaa", sum := "86b1065a101a7a163217357dc740f538644b249a7474838f307f73735e0f95dc", func := "caravan/caravanlaw06.ArchiveReads", spec := "archiveReads", inPlace := ["internal/bytealg.IndexByteString", "internal/bytealg.IndexString", "internal/abi.NoEscape", "internal/bytealg.abigen_runtime_cmpstring"], unfollowed := true, recurses := true, named := ["internal/bytealg.MaxLen"], apart := false }
def ArchiveReadsSaid : Prop := archiveReadsRow.holds Try.pinned (OpenSpec.ofChange archiveReadsSpec)

/-- ITS FALSE NEIGHBOUR: 'it returns false'. Refute it at one input. -/
def archiveReadsWrong : ChangeSpec := { name := "archiveReads", fn := fun _ => fun
  | [d] => { results := [.lit (.bool false)], args := [d] }
  | _ => none }
def ArchiveReadsWrongFalsely : Prop := archiveReadsRow.holds Try.pinned (OpenSpec.ofChange archiveReadsWrong)

/-- 'caravanlaw06.ArchiveOne': WHATEVER THE INPUT: true; the input reads as it did. -/
def archiveOneSpec : ChangeSpec := { name := "archiveOne", fn := fun _ => fun
  | [d] => { results := [.lit (.bool true)], args := [d] }
  | _ => none }
def archiveOneRow : OpenClaim := { program := "ytdajpfbgikgkeaa", sum := "86b1065a101a7a163217357dc740f538644b249a7474838f307f73735e0f95dc", func := "caravan/caravanlaw06.ArchiveOne", spec := "archiveOne", inPlace := ["internal/bytealg.IndexByteString", "internal/bytealg.IndexString", "internal/abi.NoEscape", "internal/bytealg.abigen_runtime_cmpstring"], unfollowed := true, recurses := true, named := ["internal/bytealg.MaxLen"], apart := false }
def ArchiveOneSaid : Prop := archiveOneRow.holds Try.pinned (OpenSpec.ofChange archiveOneSpec)

/-- ITS FALSE NEIGHBOUR: 'it returns false'. Refute it at one input. -/
def archiveOneWrong : ChangeSpec := { name := "archiveOne", fn := fun _ => fun
  | [d] => { results := [.lit (.bool false)], args := [d] }
  | _ => none }
def ArchiveOneWrongFalsely : Prop := archiveOneRow.holds Try.pinned (OpenSpec.ofChange archiveOneWrong)

/-- 'caravanlaw06.ArchiveBack': WHATEVER THE INPUT: true; the input reads as it did. -/
def archiveBackSpec : ChangeSpec := { name := "archiveBack", fn := fun _ => fun
  | [d1, d2] => { results := [.lit (.bool true)], args := [d1, d2] }
  | _ => none }
def archiveBackRow : OpenClaim := { program := "ytdajpfbgikgkeaa", sum := "86b1065a101a7a163217357dc740f538644b249a7474838f307f73735e0f95dc", func := "caravan/caravanlaw06.ArchiveBack", spec := "archiveBack", inPlace := ["internal/bytealg.abigen_runtime_cmpstring", "internal/bytealg.IndexByteString", "internal/bytealg.IndexString", "internal/abi.NoEscape"], unfollowed := true, recurses := true, named := ["internal/bytealg.MaxLen"], loops := true, apart := false }
def ArchiveBackSaid : Prop := archiveBackRow.holds Try.pinned (OpenSpec.ofChange archiveBackSpec)

/-- ITS FALSE NEIGHBOUR: 'it returns false'. Refute it at one input. -/
def archiveBackWrong : ChangeSpec := { name := "archiveBack", fn := fun _ => fun
  | [d1, d2] => { results := [.lit (.bool false)], args := [d1, d2] }
  | _ => none }
def ArchiveBackWrongFalsely : Prop := archiveBackRow.holds Try.pinned (OpenSpec.ofChange archiveBackWrong)

/-- 'caravanlaw06.ArchiveApart': WHATEVER THE INPUT: true; the input reads as it did. -/
def archiveApartSpec : ChangeSpec := { name := "archiveApart", fn := fun _ => fun
  | [d1, d2] => { results := [.lit (.bool true)], args := [d1, d2] }
  | _ => none }
def archiveApartRow : OpenClaim := { program := "ytdajpfbgikgkeaa", sum := "86b1065a101a7a163217357dc740f538644b249a7474838f307f73735e0f95dc", func := "caravan/caravanlaw06.ArchiveApart", spec := "archiveApart", inPlace := ["internal/bytealg.abigen_runtime_cmpstring", "internal/bytealg.IndexByteString", "internal/bytealg.IndexString", "internal/abi.NoEscape"], unfollowed := true, recurses := true, named := ["internal/bytealg.MaxLen"], loops := true, apart := false }
def ArchiveApartSaid : Prop := archiveApartRow.holds Try.pinned (OpenSpec.ofChange archiveApartSpec)

/-- ITS FALSE NEIGHBOUR: 'it returns false'. Refute it at one input. -/
def archiveApartWrong : ChangeSpec := { name := "archiveApart", fn := fun _ => fun
  | [d1, d2] => { results := [.lit (.bool false)], args := [d1, d2] }
  | _ => none }
def ArchiveApartWrongFalsely : Prop := archiveApartRow.holds Try.pinned (OpenSpec.ofChange archiveApartWrong)

/- THE SECOND FORM. 'bulk': how many values and letters a reading holds, each counted each time it is reached (what is shared counts as often as it is met; a slice's spare places count too). A statement '..UptoSaid' is the law's where the arguments, and the package variables that the reading takes, are together of bulk at most 1048576: NARROWER than '..Said'. Prove '..Said' where nothing that the law and all that it calls make is longer than what came in: it says more and counts as full. Else prove '..UptoSaid'. A law counts once. -/
mutual
def uptoBulk {H : Type} : DataW H → Nat
  | .lit (.string bytes) => bytes.length + 1
  | .lit _ => 1
  | .nil => 1
  | .ptr d => uptoBulk d + 1
  | .slice elems spare => uptoBulkAll elems + uptoBulkAll spare + 1
  | .agg parts => uptoBulkAll parts + 1
  | .iface _ d => uptoBulk d + 1
  | .map entries => uptoBulkEntries entries + 1
  | .held _ => 1
def uptoBulkAll {H : Type} : List (DataW H) → Nat
  | [] => 0
  | d :: r => uptoBulk d + uptoBulkAll r
def uptoBulkEntries {H : Type} : List (Lit × DataW H) → Nat
  | [] => 0
  | x :: r => uptoBulkEntry x + uptoBulkEntries r
def uptoBulkEntry {H : Type} : Lit × DataW H → Nat
  | (.string bytes, d) => bytes.length + uptoBulk d + 1
  | (_, d) => uptoBulk d + 1
 end
def uptoSmall : (H : Type) → List (DataW H) → Bool := fun _ ds => decide (uptoBulkAll ds ≤ 1048576)
def OpenSpec.upto (s : _root_.Go.ChangeSpec) : _root_.Go.OpenSpec := { _root_.Go.OpenSpec.ofChange s with cond := some uptoSmall }

/-- 'caravanlaw05.TreeChecks', WHERE WHAT IT READS IS OF BULK AT MOST 1048576: true; the input reads as it did. -/
def treeChecksUptoRow : OpenClaim := { program := "ytdajpfbgikgkeaa", sum := "86b1065a101a7a163217357dc740f538644b249a7474838f307f73735e0f95dc", func := "caravan/caravanlaw05.TreeChecks", spec := "treeChecks", inPlace := ["internal/bytealg.abigen_runtime_cmpstring", "internal/bytealg.IndexByteString", "internal/bytealg.IndexString"], unfollowed := true, recurses := true, named := ["internal/bytealg.MaxLen"], loops := true, apart := false, narrowed := true }
def TreeChecksUptoSaid : Prop := treeChecksUptoRow.holds Try.pinned (OpenSpec.upto treeChecksSpec)

/-- 'caravanlaw05.TreeWide', WHERE WHAT IT READS IS OF BULK AT MOST 1048576: true; the input reads as it did. -/
def treeWideUptoRow : OpenClaim := { program := "ytdajpfbgikgkeaa", sum := "86b1065a101a7a163217357dc740f538644b249a7474838f307f73735e0f95dc", func := "caravan/caravanlaw05.TreeWide", spec := "treeWide", inPlace := ["internal/bytealg.abigen_runtime_cmpstring", "internal/bytealg.IndexByteString", "internal/bytealg.IndexString"], unfollowed := true, recurses := true, named := ["internal/bytealg.MaxLen"], apart := false, narrowed := true }
def TreeWideUptoSaid : Prop := treeWideUptoRow.holds Try.pinned (OpenSpec.upto treeWideSpec)

/-- 'caravanlaw05.TreeOf', WHERE WHAT IT READS IS OF BULK AT MOST 1048576: true; the input reads as it did. -/
def treeOfUptoRow : OpenClaim := { program := "ytdajpfbgikgkeaa", sum := "86b1065a101a7a163217357dc740f538644b249a7474838f307f73735e0f95dc", func := "caravan/caravanlaw05.TreeOf", spec := "treeOf", inPlace := ["internal/bytealg.abigen_runtime_cmpstring", "internal/bytealg.IndexByteString", "internal/bytealg.IndexString"], unfollowed := true, recurses := true, named := ["internal/bytealg.MaxLen"], loops := true, apart := false, narrowed := true }
def TreeOfUptoSaid : Prop := treeOfUptoRow.holds Try.pinned (OpenSpec.upto treeOfSpec)

/-- 'caravanlaw05.TreeOrder', WHERE WHAT IT READS IS OF BULK AT MOST 1048576: true; the input reads as it did. -/
def treeOrderUptoRow : OpenClaim := { program := "ytdajpfbgikgkeaa", sum := "86b1065a101a7a163217357dc740f538644b249a7474838f307f73735e0f95dc", func := "caravan/caravanlaw05.TreeOrder", spec := "treeOrder", inPlace := ["internal/bytealg.abigen_runtime_cmpstring", "internal/bytealg.IndexByteString", "internal/bytealg.IndexString"], unfollowed := true, recurses := true, named := ["internal/bytealg.MaxLen"], loops := true, apart := false, narrowed := true }
def TreeOrderUptoSaid : Prop := treeOrderUptoRow.holds Try.pinned (OpenSpec.upto treeOrderSpec)

/-- 'caravanlaw05.TreeClone', WHERE WHAT IT READS IS OF BULK AT MOST 1048576: true; the input reads as it did. -/
def treeCloneUptoRow : OpenClaim := { program := "ytdajpfbgikgkeaa", sum := "86b1065a101a7a163217357dc740f538644b249a7474838f307f73735e0f95dc", func := "caravan/caravanlaw05.TreeClone", spec := "treeClone", inPlace := ["internal/bytealg.abigen_runtime_cmpstring", "internal/bytealg.IndexByteString", "internal/bytealg.IndexString"], unfollowed := true, recurses := true, named := ["internal/bytealg.MaxLen"], loops := true, apart := false, narrowed := true }
def TreeCloneUptoSaid : Prop := treeCloneUptoRow.holds Try.pinned (OpenSpec.upto treeCloneSpec)

/-- 'caravanlaw05.TreeAt', WHERE WHAT IT READS IS OF BULK AT MOST 1048576: true; the input reads as it did. -/
def treeAtUptoRow : OpenClaim := { program := "ytdajpfbgikgkeaa", sum := "86b1065a101a7a163217357dc740f538644b249a7474838f307f73735e0f95dc", func := "caravan/caravanlaw05.TreeAt", spec := "treeAt", inPlace := ["internal/bytealg.abigen_runtime_cmpstring", "internal/bytealg.IndexByteString", "internal/bytealg.IndexString"], unfollowed := true, recurses := true, named := ["internal/bytealg.MaxLen"], loops := true, apart := false, narrowed := true }
def TreeAtUptoSaid : Prop := treeAtUptoRow.holds Try.pinned (OpenSpec.upto treeAtSpec)

/-- 'caravanlaw06.ArchiveWrites', WHERE WHAT IT READS IS OF BULK AT MOST 1048576: true; the input reads as it did. -/
def archiveWritesUptoRow : OpenClaim := { program := "ytdajpfbgikgkeaa", sum := "86b1065a101a7a163217357dc740f538644b249a7474838f307f73735e0f95dc", func := "caravan/caravanlaw06.ArchiveWrites", spec := "archiveWrites", inPlace := ["internal/bytealg.IndexByteString", "internal/bytealg.IndexString", "internal/abi.NoEscape", "internal/bytealg.abigen_runtime_cmpstring"], unfollowed := true, recurses := true, named := ["internal/bytealg.MaxLen"], loops := true, apart := false, narrowed := true }
def ArchiveWritesUptoSaid : Prop := archiveWritesUptoRow.holds Try.pinned (OpenSpec.upto archiveWritesSpec)

/-- 'caravanlaw06.ArchiveReads', WHERE WHAT IT READS IS OF BULK AT MOST 1048576: true; the input reads as it did. -/
def archiveReadsUptoRow : OpenClaim := { program := "ytdajpfbgikgkeaa", sum := "86b1065a101a7a163217357dc740f538644b249a7474838f307f73735e0f95dc", func := "caravan/caravanlaw06.ArchiveReads", spec := "archiveReads", inPlace := ["internal/bytealg.IndexByteString", "internal/bytealg.IndexString", "internal/abi.NoEscape", "internal/bytealg.abigen_runtime_cmpstring"], unfollowed := true, recurses := true, named := ["internal/bytealg.MaxLen"], apart := false, narrowed := true }
def ArchiveReadsUptoSaid : Prop := archiveReadsUptoRow.holds Try.pinned (OpenSpec.upto archiveReadsSpec)

/-- 'caravanlaw06.ArchiveOne', WHERE WHAT IT READS IS OF BULK AT MOST 1048576: true; the input reads as it did. -/
def archiveOneUptoRow : OpenClaim := { program := "ytdajpfbgikgkeaa", sum := "86b1065a101a7a163217357dc740f538644b249a7474838f307f73735e0f95dc", func := "caravan/caravanlaw06.ArchiveOne", spec := "archiveOne", inPlace := ["internal/bytealg.IndexByteString", "internal/bytealg.IndexString", "internal/abi.NoEscape", "internal/bytealg.abigen_runtime_cmpstring"], unfollowed := true, recurses := true, named := ["internal/bytealg.MaxLen"], apart := false, narrowed := true }
def ArchiveOneUptoSaid : Prop := archiveOneUptoRow.holds Try.pinned (OpenSpec.upto archiveOneSpec)

/-- 'caravanlaw06.ArchiveBack', WHERE WHAT IT READS IS OF BULK AT MOST 1048576: true; the input reads as it did. -/
def archiveBackUptoRow : OpenClaim := { program := "ytdajpfbgikgkeaa", sum := "86b1065a101a7a163217357dc740f538644b249a7474838f307f73735e0f95dc", func := "caravan/caravanlaw06.ArchiveBack", spec := "archiveBack", inPlace := ["internal/bytealg.abigen_runtime_cmpstring", "internal/bytealg.IndexByteString", "internal/bytealg.IndexString", "internal/abi.NoEscape"], unfollowed := true, recurses := true, named := ["internal/bytealg.MaxLen"], loops := true, apart := false, narrowed := true }
def ArchiveBackUptoSaid : Prop := archiveBackUptoRow.holds Try.pinned (OpenSpec.upto archiveBackSpec)

/-- 'caravanlaw06.ArchiveApart', WHERE WHAT IT READS IS OF BULK AT MOST 1048576: true; the input reads as it did. -/
def archiveApartUptoRow : OpenClaim := { program := "ytdajpfbgikgkeaa", sum := "86b1065a101a7a163217357dc740f538644b249a7474838f307f73735e0f95dc", func := "caravan/caravanlaw06.ArchiveApart", spec := "archiveApart", inPlace := ["internal/bytealg.abigen_runtime_cmpstring", "internal/bytealg.IndexByteString", "internal/bytealg.IndexString", "internal/abi.NoEscape"], unfollowed := true, recurses := true, named := ["internal/bytealg.MaxLen"], loops := true, apart := false, narrowed := true }
def ArchiveApartUptoSaid : Prop := archiveApartUptoRow.holds Try.pinned (OpenSpec.upto archiveApartSpec)

end Rows
end Go.Proofs.Ytdajpfbgikgkeaa
