/-
  No cell of these rows narrows 'for every input' (looked for: loops, veiled, ifaces, maps, wideKeys, modest, calm, conditions, laid).
  DERIVED. THE GIVEN ROWS OF THIS SEAT. 5 by the template 'for every input the law returns true; each argument reads behind the call as it read before'; 0 by the template 'total and deterministic' (their statements: YtodalpmgmmobbaaTotals.lean).
  GIVEN WITH THE SEED: the statements are not yours to turn. If you find one false, say at which input.
  Laid BY PROGRAM, IN A SANDBOX (cutbox-rows.mjs): the forced cells as the released guide's own fill.sh prints them over the translation bea02561e5abcd97… (all of the seat's roots in one cut). By AI agents, Wed Nov 11 2026. No macro, syntax, notation, axiom, sorry.
-/
import Derived.Test.YtodalpmgmmobbaaChecked
import GoSem.Claim
import GoSem.ClaimJoined
import GoSem.ClaimMapViews
import Derived.JoinedTies
import Derived.KernelRfl
namespace Go.Proofs.Ytodalpmgmmobbaa
/- THE CELL 'sum', in the pinned program and in every row, IS THE sha256 OF THE DUMP (.gsa) THAT YtodalpmgmmobbaaProg.lean LOADS. Nothing in Lean hashes anything: it is a label: what it is worth is what the hold of that sum in a sandbox is worth. -/
noncomputable def Try.pinned : Pinned := { name := "ytodalpmgmmobbaa", sum := "bea02561e5abcd97d9d9a015bee2401baca24d09a2b5a803dbcd8b6c4bdb422f", checked := Try.checked }
namespace Rows
def none {H : Type} : Left H := { results := [], args := [] }

/-- 'caravanlaw23.ReputeWaits': WHATEVER THE INPUT: true; the input reads as it did. -/
def reputeWaitsSpec : ChangeSpec := { name := "reputeWaits", fn := fun _ => fun
  | [d1, d2] => { results := [.lit (.bool true)], args := [d1, d2] }
  | _ => none }
def reputeWaitsRow : OpenClaim := { program := "ytodalpmgmmobbaa", sum := "bea02561e5abcd97d9d9a015bee2401baca24d09a2b5a803dbcd8b6c4bdb422f", func := "caravan/caravanlaw23.ReputeWaits", spec := "reputeWaits", apart := false }
def ReputeWaitsSaid : Prop := reputeWaitsRow.holds Try.pinned (OpenSpec.ofChange reputeWaitsSpec)

/-- ITS FALSE NEIGHBOUR: 'it returns false'. Refute it at one input. -/
def reputeWaitsWrong : ChangeSpec := { name := "reputeWaits", fn := fun _ => fun
  | [d1, d2] => { results := [.lit (.bool false)], args := [d1, d2] }
  | _ => none }
def ReputeWaitsWrongFalsely : Prop := reputeWaitsRow.holds Try.pinned (OpenSpec.ofChange reputeWaitsWrong)

/-- 'caravanlaw23.ReputeBounds': WHATEVER THE INPUT: true; the input reads as it did. -/
def reputeBoundsSpec : ChangeSpec := { name := "reputeBounds", fn := fun _ => fun
  | [d1, d2] => { results := [.lit (.bool true)], args := [d1, d2] }
  | _ => none }
def reputeBoundsRow : OpenClaim := { program := "ytodalpmgmmobbaa", sum := "bea02561e5abcd97d9d9a015bee2401baca24d09a2b5a803dbcd8b6c4bdb422f", func := "caravan/caravanlaw23.ReputeBounds", spec := "reputeBounds", apart := false }
def ReputeBoundsSaid : Prop := reputeBoundsRow.holds Try.pinned (OpenSpec.ofChange reputeBoundsSpec)

/-- ITS FALSE NEIGHBOUR: 'it returns false'. Refute it at one input. -/
def reputeBoundsWrong : ChangeSpec := { name := "reputeBounds", fn := fun _ => fun
  | [d1, d2] => { results := [.lit (.bool false)], args := [d1, d2] }
  | _ => none }
def ReputeBoundsWrongFalsely : Prop := reputeBoundsRow.holds Try.pinned (OpenSpec.ofChange reputeBoundsWrong)

/-- 'caravanlaw23.ReputeJust': WHATEVER THE INPUT: true; the input reads as it did. -/
def reputeJustSpec : ChangeSpec := { name := "reputeJust", fn := fun _ => fun
  | [d] => { results := [.lit (.bool true)], args := [d] }
  | _ => none }
def reputeJustRow : OpenClaim := { program := "ytodalpmgmmobbaa", sum := "bea02561e5abcd97d9d9a015bee2401baca24d09a2b5a803dbcd8b6c4bdb422f", func := "caravan/caravanlaw23.ReputeJust", spec := "reputeJust", apart := false }
def ReputeJustSaid : Prop := reputeJustRow.holds Try.pinned (OpenSpec.ofChange reputeJustSpec)

/-- ITS FALSE NEIGHBOUR: 'it returns false'. Refute it at one input. -/
def reputeJustWrong : ChangeSpec := { name := "reputeJust", fn := fun _ => fun
  | [d] => { results := [.lit (.bool false)], args := [d] }
  | _ => none }
def ReputeJustWrongFalsely : Prop := reputeJustRow.holds Try.pinned (OpenSpec.ofChange reputeJustWrong)

/-- 'caravanlaw23.ReputePlays': WHATEVER THE INPUT: true; the input reads as it did. -/
def reputePlaysSpec : ChangeSpec := { name := "reputePlays", fn := fun _ => fun
  | [d1, d2] => { results := [.lit (.bool true)], args := [d1, d2] }
  | _ => none }
def reputePlaysRow : OpenClaim := { program := "ytodalpmgmmobbaa", sum := "bea02561e5abcd97d9d9a015bee2401baca24d09a2b5a803dbcd8b6c4bdb422f", func := "caravan/caravanlaw23.ReputePlays", spec := "reputePlays", unfollowed := true, recurses := true, apart := false }
def ReputePlaysSaid : Prop := reputePlaysRow.holds Try.pinned (OpenSpec.ofChange reputePlaysSpec)

/-- ITS FALSE NEIGHBOUR: 'it returns false'. Refute it at one input. -/
def reputePlaysWrong : ChangeSpec := { name := "reputePlays", fn := fun _ => fun
  | [d1, d2] => { results := [.lit (.bool false)], args := [d1, d2] }
  | _ => none }
def ReputePlaysWrongFalsely : Prop := reputePlaysRow.holds Try.pinned (OpenSpec.ofChange reputePlaysWrong)

/-- 'caravanlaw23.ReputeFirst': WHATEVER THE INPUT: true; the input reads as it did. -/
def reputeFirstSpec : ChangeSpec := { name := "reputeFirst", fn := fun _ => fun
  | [d1, d2] => { results := [.lit (.bool true)], args := [d1, d2] }
  | _ => none }
def reputeFirstRow : OpenClaim := { program := "ytodalpmgmmobbaa", sum := "bea02561e5abcd97d9d9a015bee2401baca24d09a2b5a803dbcd8b6c4bdb422f", func := "caravan/caravanlaw23.ReputeFirst", spec := "reputeFirst", unfollowed := true, recurses := true, apart := false }
def ReputeFirstSaid : Prop := reputeFirstRow.holds Try.pinned (OpenSpec.ofChange reputeFirstSpec)

/-- ITS FALSE NEIGHBOUR: 'it returns false'. Refute it at one input. -/
def reputeFirstWrong : ChangeSpec := { name := "reputeFirst", fn := fun _ => fun
  | [d1, d2] => { results := [.lit (.bool false)], args := [d1, d2] }
  | _ => none }
def ReputeFirstWrongFalsely : Prop := reputeFirstRow.holds Try.pinned (OpenSpec.ofChange reputeFirstWrong)

/- THE SECOND FORM. 'bulk': how many values and letters a reading holds, each counted each time it is reached (what is shared counts as often as it is met; a slice's spare places count too). A statement '..UptoSaid' is the law's where the arguments, and the package variables that the reading takes, are together of bulk at most 1048576: NARROWER than '..Said'. Prove '..Said' where nothing that the law and all that it calls make is longer than what came in: it says more and counts as full. Else prove '..UptoSaid'. A law counts once. -/
mutual
def uptoBulk {H : Type} : DataW H → Nat
  | .lit (.string bytes) => bytes.length + 1
  | .lit _ => 1
  | .nil => 1
  | .ptr d => uptoBulk d + 1
  | .slice elems spare => uptoBulkAll elems + uptoBulkAll spare + 1
  | .agg parts => uptoBulkAll parts + 1
  | .iface _ d => uptoBulk d + 1
  | .map entries => uptoBulkEntries entries + 1
  | .held _ => 1
def uptoBulkAll {H : Type} : List (DataW H) → Nat
  | [] => 0
  | d :: r => uptoBulk d + uptoBulkAll r
def uptoBulkEntries {H : Type} : List (Lit × DataW H) → Nat
  | [] => 0
  | x :: r => uptoBulkEntry x + uptoBulkEntries r
def uptoBulkEntry {H : Type} : Lit × DataW H → Nat
  | (.string bytes, d) => bytes.length + uptoBulk d + 1
  | (_, d) => uptoBulk d + 1
 end
def uptoSmall : (H : Type) → List (DataW H) → Bool := fun _ ds => decide (uptoBulkAll ds ≤ 1048576)
def OpenSpec.upto (s : _root_.Go.ChangeSpec) : _root_.Go.OpenSpec := { _root_.Go.OpenSpec.ofChange s with cond := some uptoSmall }

/-- 'caravanlaw23.ReputeWaits', WHERE WHAT IT READS IS OF BULK AT MOST 1048576: true; the input reads as it did. -/
def reputeWaitsUptoRow : OpenClaim := { program := "ytodalpmgmmobbaa", sum := "bea02561e5abcd97d9d9a015bee2401baca24d09a2b5a803dbcd8b6c4bdb422f", func := "caravan/caravanlaw23.ReputeWaits", spec := "reputeWaits", apart := false, narrowed := true }
def ReputeWaitsUptoSaid : Prop := reputeWaitsUptoRow.holds Try.pinned (OpenSpec.upto reputeWaitsSpec)

/-- 'caravanlaw23.ReputeBounds', WHERE WHAT IT READS IS OF BULK AT MOST 1048576: true; the input reads as it did. -/
def reputeBoundsUptoRow : OpenClaim := { program := "ytodalpmgmmobbaa", sum := "bea02561e5abcd97d9d9a015bee2401baca24d09a2b5a803dbcd8b6c4bdb422f", func := "caravan/caravanlaw23.ReputeBounds", spec := "reputeBounds", apart := false, narrowed := true }
def ReputeBoundsUptoSaid : Prop := reputeBoundsUptoRow.holds Try.pinned (OpenSpec.upto reputeBoundsSpec)

/-- 'caravanlaw23.ReputeJust', WHERE WHAT IT READS IS OF BULK AT MOST 1048576: true; the input reads as it did. -/
def reputeJustUptoRow : OpenClaim := { program := "ytodalpmgmmobbaa", sum := "bea02561e5abcd97d9d9a015bee2401baca24d09a2b5a803dbcd8b6c4bdb422f", func := "caravan/caravanlaw23.ReputeJust", spec := "reputeJust", apart := false, narrowed := true }
def ReputeJustUptoSaid : Prop := reputeJustUptoRow.holds Try.pinned (OpenSpec.upto reputeJustSpec)

/-- 'caravanlaw23.ReputePlays', WHERE WHAT IT READS IS OF BULK AT MOST 1048576: true; the input reads as it did. -/
def reputePlaysUptoRow : OpenClaim := { program := "ytodalpmgmmobbaa", sum := "bea02561e5abcd97d9d9a015bee2401baca24d09a2b5a803dbcd8b6c4bdb422f", func := "caravan/caravanlaw23.ReputePlays", spec := "reputePlays", unfollowed := true, recurses := true, apart := false, narrowed := true }
def ReputePlaysUptoSaid : Prop := reputePlaysUptoRow.holds Try.pinned (OpenSpec.upto reputePlaysSpec)

/-- 'caravanlaw23.ReputeFirst', WHERE WHAT IT READS IS OF BULK AT MOST 1048576: true; the input reads as it did. -/
def reputeFirstUptoRow : OpenClaim := { program := "ytodalpmgmmobbaa", sum := "bea02561e5abcd97d9d9a015bee2401baca24d09a2b5a803dbcd8b6c4bdb422f", func := "caravan/caravanlaw23.ReputeFirst", spec := "reputeFirst", unfollowed := true, recurses := true, apart := false, narrowed := true }
def ReputeFirstUptoSaid : Prop := reputeFirstUptoRow.holds Try.pinned (OpenSpec.upto reputeFirstSpec)

end Rows
end Go.Proofs.Ytodalpmgmmobbaa
