/-
  No cell of these rows narrows 'for every input' (looked for: loops, veiled, ifaces, maps, wideKeys, modest, calm, conditions, laid).
  DERIVED. THE GIVEN ROWS OF THIS SEAT. 3 by the template 'for every input the law returns true; each argument reads behind the call as it read before'; 0 by the template 'total and deterministic' (their statements: YtcfhpmijippbmaaGreatTotals.lean).
  GIVEN WITH THE SEED: the statements are not yours to turn. If you find one false, say at which input.
  Laid BY PROGRAM, IN A SANDBOX (cutbox-rows.mjs): the forced cells as the released guide's own fill.sh prints them over the translation eee7d332d45ffc15… (all of the seat's roots in one cut). By AI agents, Wed Nov 11 2026. No macro, syntax, notation, axiom, sorry.
-/
import Derived.Test.YtcfhpmijippbmaaGreatChecked
import GoSem.Claim
import GoSem.ClaimJoined
import GoSem.ClaimMapViews
import Derived.JoinedTies
import Derived.KernelRfl
namespace Go.Proofs.YtcfhpmijippbmaaGreat
/- THE CELL 'sum', in the pinned program and in every row, IS THE sha256 OF THE DUMP (.gsa) THAT YtcfhpmijippbmaaGreatProg.lean LOADS. Nothing in Lean hashes anything: it is a label: what it is worth is what the hold of that sum in a sandbox is worth. -/
noncomputable def Tryz.pinned : Pinned := { name := "ytcfhpmijippbmaagreat", sum := "eee7d332d45ffc1521c740a1406a5eadcc845c0ecc1c9c3ba1519d6a96a2bef6", checked := Tryz.checked }
namespace Rows
def none {H : Type} : Left H := { results := [], args := [] }

/-- 'caravanlaw25.SwapPlays': WHATEVER THE INPUT: true; the input reads as it did. -/
def swapPlaysSpec : ChangeSpec := { name := "swapPlays", fn := fun _ => fun
  | [d] => { results := [.lit (.bool true)], args := [d] }
  | _ => none }
def swapPlaysRow : OpenClaim := { program := "ytcfhpmijippbmaagreat", sum := "eee7d332d45ffc1521c740a1406a5eadcc845c0ecc1c9c3ba1519d6a96a2bef6", func := "caravan/caravanlaw25.SwapPlays", spec := "swapPlays", inPlace := ["internal/bytealg.IndexByteString"], unfollowed := true, recurses := true, plainKeys := false, apart := false }
def SwapPlaysSaid : Prop := swapPlaysRow.holds Tryz.pinned (OpenSpec.ofChange swapPlaysSpec)

/-- ITS FALSE NEIGHBOUR: 'it returns false'. Refute it at one input. -/
def swapPlaysWrong : ChangeSpec := { name := "swapPlays", fn := fun _ => fun
  | [d] => { results := [.lit (.bool false)], args := [d] }
  | _ => none }
def SwapPlaysWrongFalsely : Prop := swapPlaysRow.holds Tryz.pinned (OpenSpec.ofChange swapPlaysWrong)

/-- 'caravanlaw25.SwapJust': WHATEVER THE INPUT: true; the input reads as it did. -/
def swapJustSpec : ChangeSpec := { name := "swapJust", fn := fun _ => fun
  | [d] => { results := [.lit (.bool true)], args := [d] }
  | _ => none }
def swapJustRow : OpenClaim := { program := "ytcfhpmijippbmaagreat", sum := "eee7d332d45ffc1521c740a1406a5eadcc845c0ecc1c9c3ba1519d6a96a2bef6", func := "caravan/caravanlaw25.SwapJust", spec := "swapJust", inPlace := ["internal/bytealg.IndexByteString"], unfollowed := true, recurses := true, plainKeys := false, apart := false }
def SwapJustSaid : Prop := swapJustRow.holds Tryz.pinned (OpenSpec.ofChange swapJustSpec)

/-- ITS FALSE NEIGHBOUR: 'it returns false'. Refute it at one input. -/
def swapJustWrong : ChangeSpec := { name := "swapJust", fn := fun _ => fun
  | [d] => { results := [.lit (.bool false)], args := [d] }
  | _ => none }
def SwapJustWrongFalsely : Prop := swapJustRow.holds Tryz.pinned (OpenSpec.ofChange swapJustWrong)

/-- 'caravanlaw25.SwapBounds': WHATEVER THE INPUT: true; the input reads as it did. -/
def swapBoundsSpec : ChangeSpec := { name := "swapBounds", fn := fun _ => fun
  | [d] => { results := [.lit (.bool true)], args := [d] }
  | _ => none }
def swapBoundsRow : OpenClaim := { program := "ytcfhpmijippbmaagreat", sum := "eee7d332d45ffc1521c740a1406a5eadcc845c0ecc1c9c3ba1519d6a96a2bef6", func := "caravan/caravanlaw25.SwapBounds", spec := "swapBounds", inPlace := ["internal/bytealg.IndexByteString"], unfollowed := true, recurses := true, plainKeys := false, apart := false }
def SwapBoundsSaid : Prop := swapBoundsRow.holds Tryz.pinned (OpenSpec.ofChange swapBoundsSpec)

/-- ITS FALSE NEIGHBOUR: 'it returns false'. Refute it at one input. -/
def swapBoundsWrong : ChangeSpec := { name := "swapBounds", fn := fun _ => fun
  | [d] => { results := [.lit (.bool false)], args := [d] }
  | _ => none }
def SwapBoundsWrongFalsely : Prop := swapBoundsRow.holds Tryz.pinned (OpenSpec.ofChange swapBoundsWrong)

/- THE SECOND FORM. 'bulk': how many values and letters a reading holds, each counted each time it is reached (what is shared counts as often as it is met; a slice's spare places count too). A statement '..UptoSaid' is the law's where the arguments, and the package variables that the reading takes, are together of bulk at most 1048576: NARROWER than '..Said'. Prove '..Said' where nothing that the law and all that it calls make is longer than what came in: it says more and counts as full. Else prove '..UptoSaid'. A law counts once. -/
mutual
def uptoBulk {H : Type} : DataW H → Nat
  | .lit (.string bytes) => bytes.length + 1
  | .lit _ => 1
  | .nil => 1
  | .ptr d => uptoBulk d + 1
  | .slice elems spare => uptoBulkAll elems + uptoBulkAll spare + 1
  | .agg parts => uptoBulkAll parts + 1
  | .iface _ d => uptoBulk d + 1
  | .map entries => uptoBulkEntries entries + 1
  | .held _ => 1
def uptoBulkAll {H : Type} : List (DataW H) → Nat
  | [] => 0
  | d :: r => uptoBulk d + uptoBulkAll r
def uptoBulkEntries {H : Type} : List (Lit × DataW H) → Nat
  | [] => 0
  | x :: r => uptoBulkEntry x + uptoBulkEntries r
def uptoBulkEntry {H : Type} : Lit × DataW H → Nat
  | (.string bytes, d) => bytes.length + uptoBulk d + 1
  | (_, d) => uptoBulk d + 1
 end
def uptoSmall : (H : Type) → List (DataW H) → Bool := fun _ ds => decide (uptoBulkAll ds ≤ 1048576)
def OpenSpec.upto (s : _root_.Go.ChangeSpec) : _root_.Go.OpenSpec := { _root_.Go.OpenSpec.ofChange s with cond := some uptoSmall }

/-- 'caravanlaw25.SwapPlays', WHERE WHAT IT READS IS OF BULK AT MOST 1048576: true; the input reads as it did. -/
def swapPlaysUptoRow : OpenClaim := { program := "ytcfhpmijippbmaagreat", sum := "eee7d332d45ffc1521c740a1406a5eadcc845c0ecc1c9c3ba1519d6a96a2bef6", func := "caravan/caravanlaw25.SwapPlays", spec := "swapPlays", inPlace := ["internal/bytealg.IndexByteString"], unfollowed := true, recurses := true, plainKeys := false, apart := false, narrowed := true }
def SwapPlaysUptoSaid : Prop := swapPlaysUptoRow.holds Tryz.pinned (OpenSpec.upto swapPlaysSpec)

/-- 'caravanlaw25.SwapJust', WHERE WHAT IT READS IS OF BULK AT MOST 1048576: true; the input reads as it did. -/
def swapJustUptoRow : OpenClaim := { program := "ytcfhpmijippbmaagreat", sum := "eee7d332d45ffc1521c740a1406a5eadcc845c0ecc1c9c3ba1519d6a96a2bef6", func := "caravan/caravanlaw25.SwapJust", spec := "swapJust", inPlace := ["internal/bytealg.IndexByteString"], unfollowed := true, recurses := true, plainKeys := false, apart := false, narrowed := true }
def SwapJustUptoSaid : Prop := swapJustUptoRow.holds Tryz.pinned (OpenSpec.upto swapJustSpec)

/-- 'caravanlaw25.SwapBounds', WHERE WHAT IT READS IS OF BULK AT MOST 1048576: true; the input reads as it did. -/
def swapBoundsUptoRow : OpenClaim := { program := "ytcfhpmijippbmaagreat", sum := "eee7d332d45ffc1521c740a1406a5eadcc845c0ecc1c9c3ba1519d6a96a2bef6", func := "caravan/caravanlaw25.SwapBounds", spec := "swapBounds", inPlace := ["internal/bytealg.IndexByteString"], unfollowed := true, recurses := true, plainKeys := false, apart := false, narrowed := true }
def SwapBoundsUptoSaid : Prop := swapBoundsUptoRow.holds Tryz.pinned (OpenSpec.upto swapBoundsSpec)

end Rows
end Go.Proofs.YtcfhpmijippbmaaGreat
