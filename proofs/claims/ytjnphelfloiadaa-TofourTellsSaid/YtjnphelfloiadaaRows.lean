/-
  No cell of these rows narrows 'for every input' (looked for: loops, veiled, ifaces, maps, wideKeys, modest, calm, conditions, laid).
  DERIVED. THE GIVEN ROWS OF THIS SEAT. 6 by the template 'for every input the law returns true; each argument reads behind the call as it read before'; 0 by the template 'total and deterministic' (their statements: YtjnphelfloiadaaTotals.lean).
  GIVEN WITH THE SEED: the statements are not yours to turn. If you find one false, say at which input.
  Laid BY PROGRAM, IN A SANDBOX (cutbox-rows.mjs): the forced cells as the released guide's own fill.sh prints them over the translation 3ba54a4728841e58… (all of the seat's roots in one cut). By AI agents, Wed Nov 11 2026. No macro, syntax, notation, axiom, sorry.
-/
import Derived.Test.YtjnphelfloiadaaChecked
import GoSem.Claim
import GoSem.ClaimJoined
import GoSem.ClaimMapViews
import Derived.JoinedTies
import Derived.KernelRfl
namespace Go.Proofs.Ytjnphelfloiadaa
/- THE CELL 'sum', in the pinned program and in every row, IS THE sha256 OF THE DUMP (.gsa) THAT YtjnphelfloiadaaProg.lean LOADS. Nothing in Lean hashes anything: it is a label: what it is worth is what the hold of that sum in a sandbox is worth. -/
noncomputable def Try.pinned : Pinned := { name := "ytjnphelfloiadaa", sum := "3ba54a4728841e581518ec5df9e89305e9e346bb19159095f7a842375421e8f7", checked := Try.checked }
namespace Rows
def none {H : Type} : Left H := { results := [], args := [] }

/-- 'ferrymanlaw18.TofourPackets': WHATEVER THE INPUT: true; the input reads as it did. -/
def tofourPacketsSpec : ChangeSpec := { name := "tofourPackets", fn := fun _ => fun
  | [d1, d2, d3] => { results := [.lit (.bool true)], args := [d1, d2, d3] }
  | _ => none }
def tofourPacketsRow : OpenClaim := { program := "ytjnphelfloiadaa", sum := "3ba54a4728841e581518ec5df9e89305e9e346bb19159095f7a842375421e8f7", func := "ferryman/ferrymanlaw18.TofourPackets", spec := "tofourPackets", unfollowed := true, recurses := true, apart := false }
def TofourPacketsSaid : Prop := tofourPacketsRow.holds Try.pinned (OpenSpec.ofChange tofourPacketsSpec)

/-- ITS FALSE NEIGHBOUR: 'it returns false'. Refute it at one input. -/
def tofourPacketsWrong : ChangeSpec := { name := "tofourPackets", fn := fun _ => fun
  | [d1, d2, d3] => { results := [.lit (.bool false)], args := [d1, d2, d3] }
  | _ => none }
def TofourPacketsWrongFalsely : Prop := tofourPacketsRow.holds Try.pinned (OpenSpec.ofChange tofourPacketsWrong)

/-- 'ferrymanlaw18.TofourMessages': WHATEVER THE INPUT: true; the input reads as it did. -/
def tofourMessagesSpec : ChangeSpec := { name := "tofourMessages", fn := fun _ => fun
  | [d1, d2] => { results := [.lit (.bool true)], args := [d1, d2] }
  | _ => none }
def tofourMessagesRow : OpenClaim := { program := "ytjnphelfloiadaa", sum := "3ba54a4728841e581518ec5df9e89305e9e346bb19159095f7a842375421e8f7", func := "ferryman/ferrymanlaw18.TofourMessages", spec := "tofourMessages", unfollowed := true, recurses := true, apart := false }
def TofourMessagesSaid : Prop := tofourMessagesRow.holds Try.pinned (OpenSpec.ofChange tofourMessagesSpec)

/-- ITS FALSE NEIGHBOUR: 'it returns false'. Refute it at one input. -/
def tofourMessagesWrong : ChangeSpec := { name := "tofourMessages", fn := fun _ => fun
  | [d1, d2] => { results := [.lit (.bool false)], args := [d1, d2] }
  | _ => none }
def TofourMessagesWrongFalsely : Prop := tofourMessagesRow.holds Try.pinned (OpenSpec.ofChange tofourMessagesWrong)

/-- 'ferrymanlaw18.TofourInside': WHATEVER THE INPUT: true; the input reads as it did. -/
def tofourInsideSpec : ChangeSpec := { name := "tofourInside", fn := fun _ => fun
  | [d1, d2] => { results := [.lit (.bool true)], args := [d1, d2] }
  | _ => none }
def tofourInsideRow : OpenClaim := { program := "ytjnphelfloiadaa", sum := "3ba54a4728841e581518ec5df9e89305e9e346bb19159095f7a842375421e8f7", func := "ferryman/ferrymanlaw18.TofourInside", spec := "tofourInside", unfollowed := true, recurses := true, apart := false }
def TofourInsideSaid : Prop := tofourInsideRow.holds Try.pinned (OpenSpec.ofChange tofourInsideSpec)

/-- ITS FALSE NEIGHBOUR: 'it returns false'. Refute it at one input. -/
def tofourInsideWrong : ChangeSpec := { name := "tofourInside", fn := fun _ => fun
  | [d1, d2] => { results := [.lit (.bool false)], args := [d1, d2] }
  | _ => none }
def TofourInsideWrongFalsely : Prop := tofourInsideRow.holds Try.pinned (OpenSpec.ofChange tofourInsideWrong)

/-- 'ferrymanlaw18.TofourRight': WHATEVER THE INPUT: true; the input reads as it did. -/
def tofourRightSpec : ChangeSpec := { name := "tofourRight", fn := fun _ => fun
  | [d1, d2, d3] => { results := [.lit (.bool true)], args := [d1, d2, d3] }
  | _ => none }
def tofourRightRow : OpenClaim := { program := "ytjnphelfloiadaa", sum := "3ba54a4728841e581518ec5df9e89305e9e346bb19159095f7a842375421e8f7", func := "ferryman/ferrymanlaw18.TofourRight", spec := "tofourRight", unfollowed := true, recurses := true, apart := false }
def TofourRightSaid : Prop := tofourRightRow.holds Try.pinned (OpenSpec.ofChange tofourRightSpec)

/-- ITS FALSE NEIGHBOUR: 'it returns false'. Refute it at one input. -/
def tofourRightWrong : ChangeSpec := { name := "tofourRight", fn := fun _ => fun
  | [d1, d2, d3] => { results := [.lit (.bool false)], args := [d1, d2, d3] }
  | _ => none }
def TofourRightWrongFalsely : Prop := tofourRightRow.holds Try.pinned (OpenSpec.ofChange tofourRightWrong)

/-- 'ferrymanlaw18.TofourLong': WHATEVER THE INPUT: true; the input reads as it did. -/
def tofourLongSpec : ChangeSpec := { name := "tofourLong", fn := fun _ => fun
  | [d1, d2, d3] => { results := [.lit (.bool true)], args := [d1, d2, d3] }
  | _ => none }
def tofourLongRow : OpenClaim := { program := "ytjnphelfloiadaa", sum := "3ba54a4728841e581518ec5df9e89305e9e346bb19159095f7a842375421e8f7", func := "ferryman/ferrymanlaw18.TofourLong", spec := "tofourLong", unfollowed := true, recurses := true, apart := false }
def TofourLongSaid : Prop := tofourLongRow.holds Try.pinned (OpenSpec.ofChange tofourLongSpec)

/-- ITS FALSE NEIGHBOUR: 'it returns false'. Refute it at one input. -/
def tofourLongWrong : ChangeSpec := { name := "tofourLong", fn := fun _ => fun
  | [d1, d2, d3] => { results := [.lit (.bool false)], args := [d1, d2, d3] }
  | _ => none }
def TofourLongWrongFalsely : Prop := tofourLongRow.holds Try.pinned (OpenSpec.ofChange tofourLongWrong)

/-- 'ferrymanlaw18.TofourTells': WHATEVER THE INPUT: true; the input reads as it did. -/
def tofourTellsSpec : ChangeSpec := { name := "tofourTells", fn := fun _ => fun
  | [d1, d2, d3] => { results := [.lit (.bool true)], args := [d1, d2, d3] }
  | _ => none }
def tofourTellsRow : OpenClaim := { program := "ytjnphelfloiadaa", sum := "3ba54a4728841e581518ec5df9e89305e9e346bb19159095f7a842375421e8f7", func := "ferryman/ferrymanlaw18.TofourTells", spec := "tofourTells", unfollowed := true, recurses := true, apart := false }
def TofourTellsSaid : Prop := tofourTellsRow.holds Try.pinned (OpenSpec.ofChange tofourTellsSpec)

/-- ITS FALSE NEIGHBOUR: 'it returns false'. Refute it at one input. -/
def tofourTellsWrong : ChangeSpec := { name := "tofourTells", fn := fun _ => fun
  | [d1, d2, d3] => { results := [.lit (.bool false)], args := [d1, d2, d3] }
  | _ => none }
def TofourTellsWrongFalsely : Prop := tofourTellsRow.holds Try.pinned (OpenSpec.ofChange tofourTellsWrong)

/- THE SECOND FORM. 'bulk': how many values and letters a reading holds, each counted each time it is reached (what is shared counts as often as it is met; a slice's spare places count too). A statement '..UptoSaid' is the law's where the arguments, and the package variables that the reading takes, are together of bulk at most 1048576: NARROWER than '..Said'. Prove '..Said' where nothing that the law and all that it calls make is longer than what came in: it says more and counts as full. Else prove '..UptoSaid'. A law counts once. -/
mutual
def uptoBulk {H : Type} : DataW H → Nat
  | .lit (.string bytes) => bytes.length + 1
  | .lit _ => 1
  | .nil => 1
  | .ptr d => uptoBulk d + 1
  | .slice elems spare => uptoBulkAll elems + uptoBulkAll spare + 1
  | .agg parts => uptoBulkAll parts + 1
  | .iface _ d => uptoBulk d + 1
  | .map entries => uptoBulkEntries entries + 1
  | .held _ => 1
def uptoBulkAll {H : Type} : List (DataW H) → Nat
  | [] => 0
  | d :: r => uptoBulk d + uptoBulkAll r
def uptoBulkEntries {H : Type} : List (Lit × DataW H) → Nat
  | [] => 0
  | x :: r => uptoBulkEntry x + uptoBulkEntries r
def uptoBulkEntry {H : Type} : Lit × DataW H → Nat
  | (.string bytes, d) => bytes.length + uptoBulk d + 1
  | (_, d) => uptoBulk d + 1
 end
def uptoSmall : (H : Type) → List (DataW H) → Bool := fun _ ds => decide (uptoBulkAll ds ≤ 1048576)
def OpenSpec.upto (s : _root_.Go.ChangeSpec) : _root_.Go.OpenSpec := { _root_.Go.OpenSpec.ofChange s with cond := some uptoSmall }

/-- 'ferrymanlaw18.TofourPackets', WHERE WHAT IT READS IS OF BULK AT MOST 1048576: true; the input reads as it did. -/
def tofourPacketsUptoRow : OpenClaim := { program := "ytjnphelfloiadaa", sum := "3ba54a4728841e581518ec5df9e89305e9e346bb19159095f7a842375421e8f7", func := "ferryman/ferrymanlaw18.TofourPackets", spec := "tofourPackets", unfollowed := true, recurses := true, apart := false, narrowed := true }
def TofourPacketsUptoSaid : Prop := tofourPacketsUptoRow.holds Try.pinned (OpenSpec.upto tofourPacketsSpec)

/-- 'ferrymanlaw18.TofourMessages', WHERE WHAT IT READS IS OF BULK AT MOST 1048576: true; the input reads as it did. -/
def tofourMessagesUptoRow : OpenClaim := { program := "ytjnphelfloiadaa", sum := "3ba54a4728841e581518ec5df9e89305e9e346bb19159095f7a842375421e8f7", func := "ferryman/ferrymanlaw18.TofourMessages", spec := "tofourMessages", unfollowed := true, recurses := true, apart := false, narrowed := true }
def TofourMessagesUptoSaid : Prop := tofourMessagesUptoRow.holds Try.pinned (OpenSpec.upto tofourMessagesSpec)

/-- 'ferrymanlaw18.TofourInside', WHERE WHAT IT READS IS OF BULK AT MOST 1048576: true; the input reads as it did. -/
def tofourInsideUptoRow : OpenClaim := { program := "ytjnphelfloiadaa", sum := "3ba54a4728841e581518ec5df9e89305e9e346bb19159095f7a842375421e8f7", func := "ferryman/ferrymanlaw18.TofourInside", spec := "tofourInside", unfollowed := true, recurses := true, apart := false, narrowed := true }
def TofourInsideUptoSaid : Prop := tofourInsideUptoRow.holds Try.pinned (OpenSpec.upto tofourInsideSpec)

/-- 'ferrymanlaw18.TofourRight', WHERE WHAT IT READS IS OF BULK AT MOST 1048576: true; the input reads as it did. -/
def tofourRightUptoRow : OpenClaim := { program := "ytjnphelfloiadaa", sum := "3ba54a4728841e581518ec5df9e89305e9e346bb19159095f7a842375421e8f7", func := "ferryman/ferrymanlaw18.TofourRight", spec := "tofourRight", unfollowed := true, recurses := true, apart := false, narrowed := true }
def TofourRightUptoSaid : Prop := tofourRightUptoRow.holds Try.pinned (OpenSpec.upto tofourRightSpec)

/-- 'ferrymanlaw18.TofourLong', WHERE WHAT IT READS IS OF BULK AT MOST 1048576: true; the input reads as it did. -/
def tofourLongUptoRow : OpenClaim := { program := "ytjnphelfloiadaa", sum := "3ba54a4728841e581518ec5df9e89305e9e346bb19159095f7a842375421e8f7", func := "ferryman/ferrymanlaw18.TofourLong", spec := "tofourLong", unfollowed := true, recurses := true, apart := false, narrowed := true }
def TofourLongUptoSaid : Prop := tofourLongUptoRow.holds Try.pinned (OpenSpec.upto tofourLongSpec)

/-- 'ferrymanlaw18.TofourTells', WHERE WHAT IT READS IS OF BULK AT MOST 1048576: true; the input reads as it did. -/
def tofourTellsUptoRow : OpenClaim := { program := "ytjnphelfloiadaa", sum := "3ba54a4728841e581518ec5df9e89305e9e346bb19159095f7a842375421e8f7", func := "ferryman/ferrymanlaw18.TofourTells", spec := "tofourTells", unfollowed := true, recurses := true, apart := false, narrowed := true }
def TofourTellsUptoSaid : Prop := tofourTellsUptoRow.holds Try.pinned (OpenSpec.upto tofourTellsSpec)

end Rows
end Go.Proofs.Ytjnphelfloiadaa
