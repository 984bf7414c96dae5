/-
  No cell of these rows narrows 'for every input' (looked for: loops, veiled, ifaces, maps, wideKeys, modest, calm, conditions, laid).
  DERIVED. THE GIVEN ROWS OF THIS SEAT. 4 by the template 'for every input the law returns true; each argument reads behind the call as it read before'; 0 by the template 'total and deterministic' (their statements: YtjacegfanhejdaaTotals.lean).
  GIVEN WITH THE SEED: the statements are not yours to turn. If you find one false, say at which input.
  Laid BY PROGRAM, IN A SANDBOX (cutbox-rows.mjs): the forced cells as the released guide's own fill.sh prints them over the translation 4c2bac57e3bd21d1… (all of the seat's roots in one cut). By AI agents, Wed Nov 11 2026. No macro, syntax, notation, axiom, sorry.
-/
import Derived.Test.YtjacegfanhejdaaChecked
import GoSem.Claim
import GoSem.ClaimJoined
import GoSem.ClaimMapViews
import Derived.JoinedTies
import Derived.KernelRfl
namespace Go.Proofs.Ytjacegfanhejdaa
/- THE CELL 'sum', in the pinned program and in every row, IS THE sha256 OF THE DUMP (.gsa) THAT YtjacegfanhejdaaProg.lean LOADS. Nothing in Lean hashes anything: it is a label: what it is worth is what the hold of that sum in a sandbox is worth. -/
noncomputable def Try.pinned : Pinned := { name := "ytjacegfanhejdaa", sum := "4c2bac57e3bd21d1c1a53ec221bbb448e7d126f7efdc6e9f27ea2efbd370fba6", checked := Try.checked }
namespace Rows
def none {H : Type} : Left H := { results := [], args := [] }

/-- 'caravanlaw20.SeekHolders': WHATEVER THE INPUT: true; the input reads as it did. -/
def seekHoldersSpec : ChangeSpec := { name := "seekHolders", fn := fun _ => fun
  | [d1, d2] => { results := [.lit (.bool true)], args := [d1, d2] }
  | _ => none }
def seekHoldersRow : OpenClaim := { program := "ytjacegfanhejdaa", sum := "4c2bac57e3bd21d1c1a53ec221bbb448e7d126f7efdc6e9f27ea2efbd370fba6", func := "caravan/caravanlaw20.SeekHolders", spec := "seekHolders", inPlace := ["internal/bytealg.Compare"], unfollowed := true, recurses := true, apart := false }
def SeekHoldersSaid : Prop := seekHoldersRow.holds Try.pinned (OpenSpec.ofChange seekHoldersSpec)

/-- ITS FALSE NEIGHBOUR: 'it returns false'. Refute it at one input. -/
def seekHoldersWrong : ChangeSpec := { name := "seekHolders", fn := fun _ => fun
  | [d1, d2] => { results := [.lit (.bool false)], args := [d1, d2] }
  | _ => none }
def SeekHoldersWrongFalsely : Prop := seekHoldersRow.holds Try.pinned (OpenSpec.ofChange seekHoldersWrong)

/-- 'caravanlaw20.SeekEnds': WHATEVER THE INPUT: true; the input reads as it did. -/
def seekEndsSpec : ChangeSpec := { name := "seekEnds", fn := fun _ => fun
  | [d1, d2, d3, d4] => { results := [.lit (.bool true)], args := [d1, d2, d3, d4] }
  | _ => none }
def seekEndsRow : OpenClaim := { program := "ytjacegfanhejdaa", sum := "4c2bac57e3bd21d1c1a53ec221bbb448e7d126f7efdc6e9f27ea2efbd370fba6", func := "caravan/caravanlaw20.SeekEnds", spec := "seekEnds", inPlace := ["internal/bytealg.Compare"], unfollowed := true, recurses := true, apart := false }
def SeekEndsSaid : Prop := seekEndsRow.holds Try.pinned (OpenSpec.ofChange seekEndsSpec)

/-- ITS FALSE NEIGHBOUR: 'it returns false'. Refute it at one input. -/
def seekEndsWrong : ChangeSpec := { name := "seekEnds", fn := fun _ => fun
  | [d1, d2, d3, d4] => { results := [.lit (.bool false)], args := [d1, d2, d3, d4] }
  | _ => none }
def SeekEndsWrongFalsely : Prop := seekEndsRow.holds Try.pinned (OpenSpec.ofChange seekEndsWrong)

/-- 'caravanlaw20.SeekSilent': WHATEVER THE INPUT: true; the input reads as it did. -/
def seekSilentSpec : ChangeSpec := { name := "seekSilent", fn := fun _ => fun
  | [d1, d2] => { results := [.lit (.bool true)], args := [d1, d2] }
  | _ => none }
def seekSilentRow : OpenClaim := { program := "ytjacegfanhejdaa", sum := "4c2bac57e3bd21d1c1a53ec221bbb448e7d126f7efdc6e9f27ea2efbd370fba6", func := "caravan/caravanlaw20.SeekSilent", spec := "seekSilent", inPlace := ["internal/bytealg.Compare"], unfollowed := true, recurses := true, apart := false }
def SeekSilentSaid : Prop := seekSilentRow.holds Try.pinned (OpenSpec.ofChange seekSilentSpec)

/-- ITS FALSE NEIGHBOUR: 'it returns false'. Refute it at one input. -/
def seekSilentWrong : ChangeSpec := { name := "seekSilent", fn := fun _ => fun
  | [d1, d2] => { results := [.lit (.bool false)], args := [d1, d2] }
  | _ => none }
def SeekSilentWrongFalsely : Prop := seekSilentRow.holds Try.pinned (OpenSpec.ofChange seekSilentWrong)

/-- 'caravanlaw20.SeekPlays': WHATEVER THE INPUT: true; the input reads as it did. -/
def seekPlaysSpec : ChangeSpec := { name := "seekPlays", fn := fun _ => fun
  | [d1, d2, d3, d4] => { results := [.lit (.bool true)], args := [d1, d2, d3, d4] }
  | _ => none }
def seekPlaysRow : OpenClaim := { program := "ytjacegfanhejdaa", sum := "4c2bac57e3bd21d1c1a53ec221bbb448e7d126f7efdc6e9f27ea2efbd370fba6", func := "caravan/caravanlaw20.SeekPlays", spec := "seekPlays", inPlace := ["internal/bytealg.Compare"], unfollowed := true, recurses := true, apart := false }
def SeekPlaysSaid : Prop := seekPlaysRow.holds Try.pinned (OpenSpec.ofChange seekPlaysSpec)

/-- ITS FALSE NEIGHBOUR: 'it returns false'. Refute it at one input. -/
def seekPlaysWrong : ChangeSpec := { name := "seekPlays", fn := fun _ => fun
  | [d1, d2, d3, d4] => { results := [.lit (.bool false)], args := [d1, d2, d3, d4] }
  | _ => none }
def SeekPlaysWrongFalsely : Prop := seekPlaysRow.holds Try.pinned (OpenSpec.ofChange seekPlaysWrong)

/- THE SECOND FORM. 'bulk': how many values and letters a reading holds, each counted each time it is reached (what is shared counts as often as it is met; a slice's spare places count too). A statement '..UptoSaid' is the law's where the arguments, and the package variables that the reading takes, are together of bulk at most 1048576: NARROWER than '..Said'. Prove '..Said' where nothing that the law and all that it calls make is longer than what came in: it says more and counts as full. Else prove '..UptoSaid'. A law counts once. -/
mutual
def uptoBulk {H : Type} : DataW H → Nat
  | .lit (.string bytes) => bytes.length + 1
  | .lit _ => 1
  | .nil => 1
  | .ptr d => uptoBulk d + 1
  | .slice elems spare => uptoBulkAll elems + uptoBulkAll spare + 1
  | .agg parts => uptoBulkAll parts + 1
  | .iface _ d => uptoBulk d + 1
  | .map entries => uptoBulkEntries entries + 1
  | .held _ => 1
def uptoBulkAll {H : Type} : List (DataW H) → Nat
  | [] => 0
  | d :: r => uptoBulk d + uptoBulkAll r
def uptoBulkEntries {H : Type} : List (Lit × DataW H) → Nat
  | [] => 0
  | x :: r => uptoBulkEntry x + uptoBulkEntries r
def uptoBulkEntry {H : Type} : Lit × DataW H → Nat
  | (.string bytes, d) => bytes.length + uptoBulk d + 1
  | (_, d) => uptoBulk d + 1
 end
def uptoSmall : (H : Type) → List (DataW H) → Bool := fun _ ds => decide (uptoBulkAll ds ≤ 1048576)
def OpenSpec.upto (s : _root_.Go.ChangeSpec) : _root_.Go.OpenSpec := { _root_.Go.OpenSpec.ofChange s with cond := some uptoSmall }

/-- 'caravanlaw20.SeekHolders', WHERE WHAT IT READS IS OF BULK AT MOST 1048576: true; the input reads as it did. -/
def seekHoldersUptoRow : OpenClaim := { program := "ytjacegfanhejdaa", sum := "4c2bac57e3bd21d1c1a53ec221bbb448e7d126f7efdc6e9f27ea2efbd370fba6", func := "caravan/caravanlaw20.SeekHolders", spec := "seekHolders", inPlace := ["internal/bytealg.Compare"], unfollowed := true, recurses := true, apart := false, narrowed := true }
def SeekHoldersUptoSaid : Prop := seekHoldersUptoRow.holds Try.pinned (OpenSpec.upto seekHoldersSpec)

/-- 'caravanlaw20.SeekEnds', WHERE WHAT IT READS IS OF BULK AT MOST 1048576: true; the input reads as it did. -/
def seekEndsUptoRow : OpenClaim := { program := "ytjacegfanhejdaa", sum := "4c2bac57e3bd21d1c1a53ec221bbb448e7d126f7efdc6e9f27ea2efbd370fba6", func := "caravan/caravanlaw20.SeekEnds", spec := "seekEnds", inPlace := ["internal/bytealg.Compare"], unfollowed := true, recurses := true, apart := false, narrowed := true }
def SeekEndsUptoSaid : Prop := seekEndsUptoRow.holds Try.pinned (OpenSpec.upto seekEndsSpec)

/-- 'caravanlaw20.SeekSilent', WHERE WHAT IT READS IS OF BULK AT MOST 1048576: true; the input reads as it did. -/
def seekSilentUptoRow : OpenClaim := { program := "ytjacegfanhejdaa", sum := "4c2bac57e3bd21d1c1a53ec221bbb448e7d126f7efdc6e9f27ea2efbd370fba6", func := "caravan/caravanlaw20.SeekSilent", spec := "seekSilent", inPlace := ["internal/bytealg.Compare"], unfollowed := true, recurses := true, apart := false, narrowed := true }
def SeekSilentUptoSaid : Prop := seekSilentUptoRow.holds Try.pinned (OpenSpec.upto seekSilentSpec)

/-- 'caravanlaw20.SeekPlays', WHERE WHAT IT READS IS OF BULK AT MOST 1048576: true; the input reads as it did. -/
def seekPlaysUptoRow : OpenClaim := { program := "ytjacegfanhejdaa", sum := "4c2bac57e3bd21d1c1a53ec221bbb448e7d126f7efdc6e9f27ea2efbd370fba6", func := "caravan/caravanlaw20.SeekPlays", spec := "seekPlays", inPlace := ["internal/bytealg.Compare"], unfollowed := true, recurses := true, apart := false, narrowed := true }
def SeekPlaysUptoSaid : Prop := seekPlaysUptoRow.holds Try.pinned (OpenSpec.upto seekPlaysSpec)

end Rows
end Go.Proofs.Ytjacegfanhejdaa
