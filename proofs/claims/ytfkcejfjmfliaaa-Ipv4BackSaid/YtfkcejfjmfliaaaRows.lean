/-
  No cell of these rows narrows 'for every input' (looked for: loops, veiled, ifaces, maps, wideKeys, modest, calm, conditions, laid).
  DERIVED. THE GIVEN ROWS OF THIS SEAT. 8 by the template 'for every input the law returns true; each argument reads behind the call as it read before'; 0 by the template 'total and deterministic' (their statements: YtfkcejfjmfliaaaTotals.lean).
  GIVEN WITH THE SEED: the statements are not yours to turn. If you find one false, say at which input.
  Laid BY PROGRAM, IN A SANDBOX (cutbox-rows.mjs): the forced cells as the released guide's own fill.sh prints them over the translation da4e8a97ceb47bb0… (all of the seat's roots in one cut). By AI agents, Wed Nov 11 2026. No macro, syntax, notation, axiom, sorry.
-/
import Derived.Test.YtfkcejfjmfliaaaChecked
import GoSem.Claim
import GoSem.ClaimJoined
import GoSem.ClaimMapViews
import Derived.JoinedTies
import Derived.KernelRfl
namespace Go.Proofs.Ytfkcejfjmfliaaa
/- THE CELL 'sum', in the pinned program and in every row, IS THE sha256 OF THE DUMP (.gsa) THAT YtfkcejfjmfliaaaProg.lean LOADS. Nothing in Lean hashes anything: it is a label: what it is worth is what the hold of that sum in a sandbox is worth. -/
noncomputable def Try.pinned : Pinned := { name := "ytfkcejfjmfliaaa", sum := "da4e8a97ceb47bb02920a620f1a701c69800554e870d7724f59ea0b54910d13b", checked := Try.checked }
namespace Rows
def none {H : Type} : Left H := { results := [], args := [] }

/-- 'ferrymanlaw04.Ipv4Writes': WHATEVER THE INPUT: true; the input reads as it did. -/
def ipv4WritesSpec : ChangeSpec := { name := "ipv4Writes", fn := fun _ => fun
  | [d] => { results := [.lit (.bool true)], args := [d] }
  | _ => none }
def ipv4WritesRow : OpenClaim := { program := "ytfkcejfjmfliaaa", sum := "da4e8a97ceb47bb02920a620f1a701c69800554e870d7724f59ea0b54910d13b", func := "ferryman/ferrymanlaw04.Ipv4Writes", spec := "ipv4Writes", unfollowed := true, recurses := true, apart := false }
def Ipv4WritesSaid : Prop := ipv4WritesRow.holds Try.pinned (OpenSpec.ofChange ipv4WritesSpec)

/-- ITS FALSE NEIGHBOUR: 'it returns false'. Refute it at one input. -/
def ipv4WritesWrong : ChangeSpec := { name := "ipv4Writes", fn := fun _ => fun
  | [d] => { results := [.lit (.bool false)], args := [d] }
  | _ => none }
def Ipv4WritesWrongFalsely : Prop := ipv4WritesRow.holds Try.pinned (OpenSpec.ofChange ipv4WritesWrong)

/-- 'ferrymanlaw04.Ipv4Alike': WHATEVER THE INPUT: true; the input reads as it did. -/
def ipv4AlikeSpec : ChangeSpec := { name := "ipv4Alike", fn := fun _ => fun
  | [d1, d2] => { results := [.lit (.bool true)], args := [d1, d2] }
  | _ => none }
def ipv4AlikeRow : OpenClaim := { program := "ytfkcejfjmfliaaa", sum := "da4e8a97ceb47bb02920a620f1a701c69800554e870d7724f59ea0b54910d13b", func := "ferryman/ferrymanlaw04.Ipv4Alike", spec := "ipv4Alike", unfollowed := true, recurses := true, apart := false }
def Ipv4AlikeSaid : Prop := ipv4AlikeRow.holds Try.pinned (OpenSpec.ofChange ipv4AlikeSpec)

/-- ITS FALSE NEIGHBOUR: 'it returns false'. Refute it at one input. -/
def ipv4AlikeWrong : ChangeSpec := { name := "ipv4Alike", fn := fun _ => fun
  | [d1, d2] => { results := [.lit (.bool false)], args := [d1, d2] }
  | _ => none }
def Ipv4AlikeWrongFalsely : Prop := ipv4AlikeRow.holds Try.pinned (OpenSpec.ofChange ipv4AlikeWrong)

/-- 'ferrymanlaw04.Ipv4Cut': WHATEVER THE INPUT: true; the input reads as it did. -/
def ipv4CutSpec : ChangeSpec := { name := "ipv4Cut", fn := fun _ => fun
  | [d1, d2] => { results := [.lit (.bool true)], args := [d1, d2] }
  | _ => none }
def ipv4CutRow : OpenClaim := { program := "ytfkcejfjmfliaaa", sum := "da4e8a97ceb47bb02920a620f1a701c69800554e870d7724f59ea0b54910d13b", func := "ferryman/ferrymanlaw04.Ipv4Cut", spec := "ipv4Cut", unfollowed := true, recurses := true, apart := false }
def Ipv4CutSaid : Prop := ipv4CutRow.holds Try.pinned (OpenSpec.ofChange ipv4CutSpec)

/-- ITS FALSE NEIGHBOUR: 'it returns false'. Refute it at one input. -/
def ipv4CutWrong : ChangeSpec := { name := "ipv4Cut", fn := fun _ => fun
  | [d1, d2] => { results := [.lit (.bool false)], args := [d1, d2] }
  | _ => none }
def Ipv4CutWrongFalsely : Prop := ipv4CutRow.holds Try.pinned (OpenSpec.ofChange ipv4CutWrong)

/-- 'ferrymanlaw04.Ipv4OneBit': WHATEVER THE INPUT: true; the input reads as it did. -/
def ipv4OneBitSpec : ChangeSpec := { name := "ipv4OneBit", fn := fun _ => fun
  | [d1, d2] => { results := [.lit (.bool true)], args := [d1, d2] }
  | _ => none }
def ipv4OneBitRow : OpenClaim := { program := "ytfkcejfjmfliaaa", sum := "da4e8a97ceb47bb02920a620f1a701c69800554e870d7724f59ea0b54910d13b", func := "ferryman/ferrymanlaw04.Ipv4OneBit", spec := "ipv4OneBit", unfollowed := true, recurses := true, apart := false }
def Ipv4OneBitSaid : Prop := ipv4OneBitRow.holds Try.pinned (OpenSpec.ofChange ipv4OneBitSpec)

/-- ITS FALSE NEIGHBOUR: 'it returns false'. Refute it at one input. -/
def ipv4OneBitWrong : ChangeSpec := { name := "ipv4OneBit", fn := fun _ => fun
  | [d1, d2] => { results := [.lit (.bool false)], args := [d1, d2] }
  | _ => none }
def Ipv4OneBitWrongFalsely : Prop := ipv4OneBitRow.holds Try.pinned (OpenSpec.ofChange ipv4OneBitWrong)

/-- 'ferrymanlaw04.Ipv4Owned': WHATEVER THE INPUT: true; the input reads as it did. -/
def ipv4OwnedSpec : ChangeSpec := { name := "ipv4Owned", fn := fun _ => fun
  | [d1, d2] => { results := [.lit (.bool true)], args := [d1, d2] }
  | _ => none }
def ipv4OwnedRow : OpenClaim := { program := "ytfkcejfjmfliaaa", sum := "da4e8a97ceb47bb02920a620f1a701c69800554e870d7724f59ea0b54910d13b", func := "ferryman/ferrymanlaw04.Ipv4Owned", spec := "ipv4Owned", unfollowed := true, recurses := true, apart := false }
def Ipv4OwnedSaid : Prop := ipv4OwnedRow.holds Try.pinned (OpenSpec.ofChange ipv4OwnedSpec)

/-- ITS FALSE NEIGHBOUR: 'it returns false'. Refute it at one input. -/
def ipv4OwnedWrong : ChangeSpec := { name := "ipv4Owned", fn := fun _ => fun
  | [d1, d2] => { results := [.lit (.bool false)], args := [d1, d2] }
  | _ => none }
def Ipv4OwnedWrongFalsely : Prop := ipv4OwnedRow.holds Try.pinned (OpenSpec.ofChange ipv4OwnedWrong)

/-- 'ferrymanlaw04.Ipv4Parses': WHATEVER THE INPUT: true; the input reads as it did. -/
def ipv4ParsesSpec : ChangeSpec := { name := "ipv4Parses", fn := fun _ => fun
  | [d] => { results := [.lit (.bool true)], args := [d] }
  | _ => none }
def ipv4ParsesRow : OpenClaim := { program := "ytfkcejfjmfliaaa", sum := "da4e8a97ceb47bb02920a620f1a701c69800554e870d7724f59ea0b54910d13b", func := "ferryman/ferrymanlaw04.Ipv4Parses", spec := "ipv4Parses", unfollowed := true, recurses := true, apart := false }
def Ipv4ParsesSaid : Prop := ipv4ParsesRow.holds Try.pinned (OpenSpec.ofChange ipv4ParsesSpec)

/-- ITS FALSE NEIGHBOUR: 'it returns false'. Refute it at one input. -/
def ipv4ParsesWrong : ChangeSpec := { name := "ipv4Parses", fn := fun _ => fun
  | [d] => { results := [.lit (.bool false)], args := [d] }
  | _ => none }
def Ipv4ParsesWrongFalsely : Prop := ipv4ParsesRow.holds Try.pinned (OpenSpec.ofChange ipv4ParsesWrong)

/-- 'ferrymanlaw04.Ipv4Options': WHATEVER THE INPUT: true; the input reads as it did. -/
def ipv4OptionsSpec : ChangeSpec := { name := "ipv4Options", fn := fun _ => fun
  | [d1, d2] => { results := [.lit (.bool true)], args := [d1, d2] }
  | _ => none }
def ipv4OptionsRow : OpenClaim := { program := "ytfkcejfjmfliaaa", sum := "da4e8a97ceb47bb02920a620f1a701c69800554e870d7724f59ea0b54910d13b", func := "ferryman/ferrymanlaw04.Ipv4Options", spec := "ipv4Options", unfollowed := true, recurses := true, apart := false }
def Ipv4OptionsSaid : Prop := ipv4OptionsRow.holds Try.pinned (OpenSpec.ofChange ipv4OptionsSpec)

/-- ITS FALSE NEIGHBOUR: 'it returns false'. Refute it at one input. -/
def ipv4OptionsWrong : ChangeSpec := { name := "ipv4Options", fn := fun _ => fun
  | [d1, d2] => { results := [.lit (.bool false)], args := [d1, d2] }
  | _ => none }
def Ipv4OptionsWrongFalsely : Prop := ipv4OptionsRow.holds Try.pinned (OpenSpec.ofChange ipv4OptionsWrong)

/-- 'ferrymanlaw04.Ipv4Back': WHATEVER THE INPUT: true; the input reads as it did. -/
def ipv4BackSpec : ChangeSpec := { name := "ipv4Back", fn := fun _ => fun
  | [d1, d2, d3] => { results := [.lit (.bool true)], args := [d1, d2, d3] }
  | _ => none }
def ipv4BackRow : OpenClaim := { program := "ytfkcejfjmfliaaa", sum := "da4e8a97ceb47bb02920a620f1a701c69800554e870d7724f59ea0b54910d13b", func := "ferryman/ferrymanlaw04.Ipv4Back", spec := "ipv4Back", unfollowed := true, recurses := true, apart := false }
def Ipv4BackSaid : Prop := ipv4BackRow.holds Try.pinned (OpenSpec.ofChange ipv4BackSpec)

/-- ITS FALSE NEIGHBOUR: 'it returns false'. Refute it at one input. -/
def ipv4BackWrong : ChangeSpec := { name := "ipv4Back", fn := fun _ => fun
  | [d1, d2, d3] => { results := [.lit (.bool false)], args := [d1, d2, d3] }
  | _ => none }
def Ipv4BackWrongFalsely : Prop := ipv4BackRow.holds Try.pinned (OpenSpec.ofChange ipv4BackWrong)

/- THE SECOND FORM. 'bulk': how many values and letters a reading holds, each counted each time it is reached (what is shared counts as often as it is met; a slice's spare places count too). A statement '..UptoSaid' is the law's where the arguments, and the package variables that the reading takes, are together of bulk at most 1048576: NARROWER than '..Said'. Prove '..Said' where nothing that the law and all that it calls make is longer than what came in: it says more and counts as full. Else prove '..UptoSaid'. A law counts once. -/
mutual
def uptoBulk {H : Type} : DataW H → Nat
  | .lit (.string bytes) => bytes.length + 1
  | .lit _ => 1
  | .nil => 1
  | .ptr d => uptoBulk d + 1
  | .slice elems spare => uptoBulkAll elems + uptoBulkAll spare + 1
  | .agg parts => uptoBulkAll parts + 1
  | .iface _ d => uptoBulk d + 1
  | .map entries => uptoBulkEntries entries + 1
  | .held _ => 1
def uptoBulkAll {H : Type} : List (DataW H) → Nat
  | [] => 0
  | d :: r => uptoBulk d + uptoBulkAll r
def uptoBulkEntries {H : Type} : List (Lit × DataW H) → Nat
  | [] => 0
  | x :: r => uptoBulkEntry x + uptoBulkEntries r
def uptoBulkEntry {H : Type} : Lit × DataW H → Nat
  | (.string bytes, d) => bytes.length + uptoBulk d + 1
  | (_, d) => uptoBulk d + 1
 end
def uptoSmall : (H : Type) → List (DataW H) → Bool := fun _ ds => decide (uptoBulkAll ds ≤ 1048576)
def OpenSpec.upto (s : _root_.Go.ChangeSpec) : _root_.Go.OpenSpec := { _root_.Go.OpenSpec.ofChange s with cond := some uptoSmall }

/-- 'ferrymanlaw04.Ipv4Writes', WHERE WHAT IT READS IS OF BULK AT MOST 1048576: true; the input reads as it did. -/
def ipv4WritesUptoRow : OpenClaim := { program := "ytfkcejfjmfliaaa", sum := "da4e8a97ceb47bb02920a620f1a701c69800554e870d7724f59ea0b54910d13b", func := "ferryman/ferrymanlaw04.Ipv4Writes", spec := "ipv4Writes", unfollowed := true, recurses := true, apart := false, narrowed := true }
def Ipv4WritesUptoSaid : Prop := ipv4WritesUptoRow.holds Try.pinned (OpenSpec.upto ipv4WritesSpec)

/-- 'ferrymanlaw04.Ipv4Alike', WHERE WHAT IT READS IS OF BULK AT MOST 1048576: true; the input reads as it did. -/
def ipv4AlikeUptoRow : OpenClaim := { program := "ytfkcejfjmfliaaa", sum := "da4e8a97ceb47bb02920a620f1a701c69800554e870d7724f59ea0b54910d13b", func := "ferryman/ferrymanlaw04.Ipv4Alike", spec := "ipv4Alike", unfollowed := true, recurses := true, apart := false, narrowed := true }
def Ipv4AlikeUptoSaid : Prop := ipv4AlikeUptoRow.holds Try.pinned (OpenSpec.upto ipv4AlikeSpec)

/-- 'ferrymanlaw04.Ipv4Cut', WHERE WHAT IT READS IS OF BULK AT MOST 1048576: true; the input reads as it did. -/
def ipv4CutUptoRow : OpenClaim := { program := "ytfkcejfjmfliaaa", sum := "da4e8a97ceb47bb02920a620f1a701c69800554e870d7724f59ea0b54910d13b", func := "ferryman/ferrymanlaw04.Ipv4Cut", spec := "ipv4Cut", unfollowed := true, recurses := true, apart := false, narrowed := true }
def Ipv4CutUptoSaid : Prop := ipv4CutUptoRow.holds Try.pinned (OpenSpec.upto ipv4CutSpec)

/-- 'ferrymanlaw04.Ipv4OneBit', WHERE WHAT IT READS IS OF BULK AT MOST 1048576: true; the input reads as it did. -/
def ipv4OneBitUptoRow : OpenClaim := { program := "ytfkcejfjmfliaaa", sum := "da4e8a97ceb47bb02920a620f1a701c69800554e870d7724f59ea0b54910d13b", func := "ferryman/ferrymanlaw04.Ipv4OneBit", spec := "ipv4OneBit", unfollowed := true, recurses := true, apart := false, narrowed := true }
def Ipv4OneBitUptoSaid : Prop := ipv4OneBitUptoRow.holds Try.pinned (OpenSpec.upto ipv4OneBitSpec)

/-- 'ferrymanlaw04.Ipv4Owned', WHERE WHAT IT READS IS OF BULK AT MOST 1048576: true; the input reads as it did. -/
def ipv4OwnedUptoRow : OpenClaim := { program := "ytfkcejfjmfliaaa", sum := "da4e8a97ceb47bb02920a620f1a701c69800554e870d7724f59ea0b54910d13b", func := "ferryman/ferrymanlaw04.Ipv4Owned", spec := "ipv4Owned", unfollowed := true, recurses := true, apart := false, narrowed := true }
def Ipv4OwnedUptoSaid : Prop := ipv4OwnedUptoRow.holds Try.pinned (OpenSpec.upto ipv4OwnedSpec)

/-- 'ferrymanlaw04.Ipv4Parses', WHERE WHAT IT READS IS OF BULK AT MOST 1048576: true; the input reads as it did. -/
def ipv4ParsesUptoRow : OpenClaim := { program := "ytfkcejfjmfliaaa", sum := "da4e8a97ceb47bb02920a620f1a701c69800554e870d7724f59ea0b54910d13b", func := "ferryman/ferrymanlaw04.Ipv4Parses", spec := "ipv4Parses", unfollowed := true, recurses := true, apart := false, narrowed := true }
def Ipv4ParsesUptoSaid : Prop := ipv4ParsesUptoRow.holds Try.pinned (OpenSpec.upto ipv4ParsesSpec)

/-- 'ferrymanlaw04.Ipv4Options', WHERE WHAT IT READS IS OF BULK AT MOST 1048576: true; the input reads as it did. -/
def ipv4OptionsUptoRow : OpenClaim := { program := "ytfkcejfjmfliaaa", sum := "da4e8a97ceb47bb02920a620f1a701c69800554e870d7724f59ea0b54910d13b", func := "ferryman/ferrymanlaw04.Ipv4Options", spec := "ipv4Options", unfollowed := true, recurses := true, apart := false, narrowed := true }
def Ipv4OptionsUptoSaid : Prop := ipv4OptionsUptoRow.holds Try.pinned (OpenSpec.upto ipv4OptionsSpec)

/-- 'ferrymanlaw04.Ipv4Back', WHERE WHAT IT READS IS OF BULK AT MOST 1048576: true; the input reads as it did. -/
def ipv4BackUptoRow : OpenClaim := { program := "ytfkcejfjmfliaaa", sum := "da4e8a97ceb47bb02920a620f1a701c69800554e870d7724f59ea0b54910d13b", func := "ferryman/ferrymanlaw04.Ipv4Back", spec := "ipv4Back", unfollowed := true, recurses := true, apart := false, narrowed := true }
def Ipv4BackUptoSaid : Prop := ipv4BackUptoRow.holds Try.pinned (OpenSpec.upto ipv4BackSpec)

end Rows
end Go.Proofs.Ytfkcejfjmfliaaa
