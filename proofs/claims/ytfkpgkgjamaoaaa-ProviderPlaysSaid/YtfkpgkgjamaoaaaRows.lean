/-
  No cell of these rows narrows 'for every input' (looked for: loops, veiled, ifaces, maps, wideKeys, modest, calm, conditions, laid).
  DERIVED. THE GIVEN ROWS OF THIS SEAT. 4 by the template 'for every input the law returns true; each argument reads behind the call as it read before'; 0 by the template 'total and deterministic' (their statements: YtfkpgkgjamaoaaaTotals.lean).
  GIVEN WITH THE SEED: the statements are not yours to turn. If you find one false, say at which input.
  Laid BY PROGRAM, IN A SANDBOX (cutbox-rows.mjs): the forced cells as the released guide's own fill.sh prints them over the translation 485439dd2bb6d839… (all of the seat's roots in one cut). By AI agents, Wed Nov 11 2026. No macro, syntax, notation, axiom, sorry.
-/
import Derived.Test.YtfkpgkgjamaoaaaChecked
import GoSem.Claim
import GoSem.ClaimJoined
import GoSem.ClaimMapViews
import Derived.JoinedTies
import Derived.KernelRfl
namespace Go.Proofs.Ytfkpgkgjamaoaaa
/- THE CELL 'sum', in the pinned program and in every row, IS THE sha256 OF THE DUMP (.gsa) THAT YtfkpgkgjamaoaaaProg.lean LOADS. Nothing in Lean hashes anything: it is a label: what it is worth is what the hold of that sum in a sandbox is worth. -/
noncomputable def Try.pinned : Pinned := { name := "ytfkpgkgjamaoaaa", sum := "485439dd2bb6d839422395dcf833501e5814a069794062a576dedf30cb961ea5", checked := Try.checked }
namespace Rows
def none {H : Type} : Left H := { results := [], args := [] }

/-- 'caravanlaw21.ProviderLonger': WHATEVER THE INPUT: true; the input reads as it did. -/
def providerLongerSpec : ChangeSpec := { name := "providerLonger", fn := fun _ => fun
  | [d1, d2, d3] => { results := [.lit (.bool true)], args := [d1, d2, d3] }
  | _ => none }
def providerLongerRow : OpenClaim := { program := "ytfkpgkgjamaoaaa", sum := "485439dd2bb6d839422395dcf833501e5814a069794062a576dedf30cb961ea5", func := "caravan/caravanlaw21.ProviderLonger", spec := "providerLonger", inPlace := ["internal/bytealg.Compare"], unfollowed := true, recurses := true, plainKeys := false, apart := false }
def ProviderLongerSaid : Prop := providerLongerRow.holds Try.pinned (OpenSpec.ofChange providerLongerSpec)

/-- ITS FALSE NEIGHBOUR: 'it returns false'. Refute it at one input. -/
def providerLongerWrong : ChangeSpec := { name := "providerLonger", fn := fun _ => fun
  | [d1, d2, d3] => { results := [.lit (.bool false)], args := [d1, d2, d3] }
  | _ => none }
def ProviderLongerWrongFalsely : Prop := providerLongerRow.holds Try.pinned (OpenSpec.ofChange providerLongerWrong)

/-- 'caravanlaw21.ProviderDrops': WHATEVER THE INPUT: true; the input reads as it did. -/
def providerDropsSpec : ChangeSpec := { name := "providerDrops", fn := fun _ => fun
  | [d1, d2] => { results := [.lit (.bool true)], args := [d1, d2] }
  | _ => none }
def providerDropsRow : OpenClaim := { program := "ytfkpgkgjamaoaaa", sum := "485439dd2bb6d839422395dcf833501e5814a069794062a576dedf30cb961ea5", func := "caravan/caravanlaw21.ProviderDrops", spec := "providerDrops", inPlace := ["internal/bytealg.Compare"], unfollowed := true, recurses := true, plainKeys := false, apart := false }
def ProviderDropsSaid : Prop := providerDropsRow.holds Try.pinned (OpenSpec.ofChange providerDropsSpec)

/-- ITS FALSE NEIGHBOUR: 'it returns false'. Refute it at one input. -/
def providerDropsWrong : ChangeSpec := { name := "providerDrops", fn := fun _ => fun
  | [d1, d2] => { results := [.lit (.bool false)], args := [d1, d2] }
  | _ => none }
def ProviderDropsWrongFalsely : Prop := providerDropsRow.holds Try.pinned (OpenSpec.ofChange providerDropsWrong)

/-- 'caravanlaw21.ProviderBound': WHATEVER THE INPUT: true; the input reads as it did. -/
def providerBoundSpec : ChangeSpec := { name := "providerBound", fn := fun _ => fun
  | [d1, d2] => { results := [.lit (.bool true)], args := [d1, d2] }
  | _ => none }
def providerBoundRow : OpenClaim := { program := "ytfkpgkgjamaoaaa", sum := "485439dd2bb6d839422395dcf833501e5814a069794062a576dedf30cb961ea5", func := "caravan/caravanlaw21.ProviderBound", spec := "providerBound", inPlace := ["internal/bytealg.Compare"], unfollowed := true, recurses := true, plainKeys := false, apart := false }
def ProviderBoundSaid : Prop := providerBoundRow.holds Try.pinned (OpenSpec.ofChange providerBoundSpec)

/-- ITS FALSE NEIGHBOUR: 'it returns false'. Refute it at one input. -/
def providerBoundWrong : ChangeSpec := { name := "providerBound", fn := fun _ => fun
  | [d1, d2] => { results := [.lit (.bool false)], args := [d1, d2] }
  | _ => none }
def ProviderBoundWrongFalsely : Prop := providerBoundRow.holds Try.pinned (OpenSpec.ofChange providerBoundWrong)

/-- 'caravanlaw21.ProviderPlays': WHATEVER THE INPUT: true; the input reads as it did. -/
def providerPlaysSpec : ChangeSpec := { name := "providerPlays", fn := fun _ => fun
  | [d1, d2] => { results := [.lit (.bool true)], args := [d1, d2] }
  | _ => none }
def providerPlaysRow : OpenClaim := { program := "ytfkpgkgjamaoaaa", sum := "485439dd2bb6d839422395dcf833501e5814a069794062a576dedf30cb961ea5", func := "caravan/caravanlaw21.ProviderPlays", spec := "providerPlays", inPlace := ["internal/bytealg.Compare"], unfollowed := true, recurses := true, plainKeys := false, apart := false }
def ProviderPlaysSaid : Prop := providerPlaysRow.holds Try.pinned (OpenSpec.ofChange providerPlaysSpec)

/-- ITS FALSE NEIGHBOUR: 'it returns false'. Refute it at one input. -/
def providerPlaysWrong : ChangeSpec := { name := "providerPlays", fn := fun _ => fun
  | [d1, d2] => { results := [.lit (.bool false)], args := [d1, d2] }
  | _ => none }
def ProviderPlaysWrongFalsely : Prop := providerPlaysRow.holds Try.pinned (OpenSpec.ofChange providerPlaysWrong)

/- THE SECOND FORM. 'bulk': how many values and letters a reading holds, each counted each time it is reached (what is shared counts as often as it is met; a slice's spare places count too). A statement '..UptoSaid' is the law's where the arguments, and the package variables that the reading takes, are together of bulk at most 1048576: NARROWER than '..Said'. Prove '..Said' where nothing that the law and all that it calls make is longer than what came in: it says more and counts as full. Else prove '..UptoSaid'. A law counts once. -/
mutual
def uptoBulk {H : Type} : DataW H → Nat
  | .lit (.string bytes) => bytes.length + 1
  | .lit _ => 1
  | .nil => 1
  | .ptr d => uptoBulk d + 1
  | .slice elems spare => uptoBulkAll elems + uptoBulkAll spare + 1
  | .agg parts => uptoBulkAll parts + 1
  | .iface _ d => uptoBulk d + 1
  | .map entries => uptoBulkEntries entries + 1
  | .held _ => 1
def uptoBulkAll {H : Type} : List (DataW H) → Nat
  | [] => 0
  | d :: r => uptoBulk d + uptoBulkAll r
def uptoBulkEntries {H : Type} : List (Lit × DataW H) → Nat
  | [] => 0
  | x :: r => uptoBulkEntry x + uptoBulkEntries r
def uptoBulkEntry {H : Type} : Lit × DataW H → Nat
  | (.string bytes, d) => bytes.length + uptoBulk d + 1
  | (_, d) => uptoBulk d + 1
 end
def uptoSmall : (H : Type) → List (DataW H) → Bool := fun _ ds => decide (uptoBulkAll ds ≤ 1048576)
def OpenSpec.upto (s : _root_.Go.ChangeSpec) : _root_.Go.OpenSpec := { _root_.Go.OpenSpec.ofChange s with cond := some uptoSmall }

/-- 'caravanlaw21.ProviderLonger', WHERE WHAT IT READS IS OF BULK AT MOST 1048576: true; the input reads as it did. -/
def providerLongerUptoRow : OpenClaim := { program := "ytfkpgkgjamaoaaa", sum := "485439dd2bb6d839422395dcf833501e5814a069794062a576dedf30cb961ea5", func := "caravan/caravanlaw21.ProviderLonger", spec := "providerLonger", inPlace := ["internal/bytealg.Compare"], unfollowed := true, recurses := true, plainKeys := false, apart := false, narrowed := true }
def ProviderLongerUptoSaid : Prop := providerLongerUptoRow.holds Try.pinned (OpenSpec.upto providerLongerSpec)

/-- 'caravanlaw21.ProviderDrops', WHERE WHAT IT READS IS OF BULK AT MOST 1048576: true; the input reads as it did. -/
def providerDropsUptoRow : OpenClaim := { program := "ytfkpgkgjamaoaaa", sum := "485439dd2bb6d839422395dcf833501e5814a069794062a576dedf30cb961ea5", func := "caravan/caravanlaw21.ProviderDrops", spec := "providerDrops", inPlace := ["internal/bytealg.Compare"], unfollowed := true, recurses := true, plainKeys := false, apart := false, narrowed := true }
def ProviderDropsUptoSaid : Prop := providerDropsUptoRow.holds Try.pinned (OpenSpec.upto providerDropsSpec)

/-- 'caravanlaw21.ProviderBound', WHERE WHAT IT READS IS OF BULK AT MOST 1048576: true; the input reads as it did. -/
def providerBoundUptoRow : OpenClaim := { program := "ytfkpgkgjamaoaaa", sum := "485439dd2bb6d839422395dcf833501e5814a069794062a576dedf30cb961ea5", func := "caravan/caravanlaw21.ProviderBound", spec := "providerBound", inPlace := ["internal/bytealg.Compare"], unfollowed := true, recurses := true, plainKeys := false, apart := false, narrowed := true }
def ProviderBoundUptoSaid : Prop := providerBoundUptoRow.holds Try.pinned (OpenSpec.upto providerBoundSpec)

/-- 'caravanlaw21.ProviderPlays', WHERE WHAT IT READS IS OF BULK AT MOST 1048576: true; the input reads as it did. -/
def providerPlaysUptoRow : OpenClaim := { program := "ytfkpgkgjamaoaaa", sum := "485439dd2bb6d839422395dcf833501e5814a069794062a576dedf30cb961ea5", func := "caravan/caravanlaw21.ProviderPlays", spec := "providerPlays", inPlace := ["internal/bytealg.Compare"], unfollowed := true, recurses := true, plainKeys := false, apart := false, narrowed := true }
def ProviderPlaysUptoSaid : Prop := providerPlaysUptoRow.holds Try.pinned (OpenSpec.upto providerPlaysSpec)

end Rows
end Go.Proofs.Ytfkpgkgjamaoaaa
