/-
  No cell of these rows narrows 'for every input' (looked for: loops, veiled, ifaces, maps, wideKeys, modest, calm, conditions, laid).
  DERIVED. THE GIVEN ROWS OF THIS SEAT. 8 by the template 'for every input the law returns true; each argument reads behind the call as it read before'; 0 by the template 'total and deterministic' (their statements: YtiplnjpgaiibhaaTotals.lean).
  GIVEN WITH THE SEED: the statements are not yours to turn. If you find one false, say at which input.
  Laid BY PROGRAM, IN A SANDBOX (cutbox-rows.mjs): the forced cells as the released guide's own fill.sh prints them over the translation bf8cceff5d156b91… (all of the seat's roots in one cut). By AI agents, Wed Nov 11 2026. No macro, syntax, notation, axiom, sorry.
-/
import Derived.Test.YtiplnjpgaiibhaaChecked
import GoSem.Claim
import GoSem.ClaimJoined
import GoSem.ClaimMapViews
import Derived.JoinedTies
import Derived.KernelRfl
namespace Go.Proofs.Ytiplnjpgaiibhaa
/- THE CELL 'sum', in the pinned program and in every row, IS THE sha256 OF THE DUMP (.gsa) THAT YtiplnjpgaiibhaaProg.lean LOADS. Nothing in Lean hashes anything: it is a label: what it is worth is what the hold of that sum in a sandbox is worth. -/
noncomputable def Try.pinned : Pinned := { name := "ytiplnjpgaiibhaa", sum := "bf8cceff5d156b91a562080fff90116f0f098dd729de31bb790575613f951ae5", checked := Try.checked }
namespace Rows
def none {H : Type} : Left H := { results := [], args := [] }

/-- 'ferrymanlaw01.SumOrder': WHATEVER THE INPUT: true; the input reads as it did. -/
def sumOrderSpec : ChangeSpec := { name := "sumOrder", fn := fun _ => fun
  | [d1, d2] => { results := [.lit (.bool true)], args := [d1, d2] }
  | _ => none }
def sumOrderRow : OpenClaim := { program := "ytiplnjpgaiibhaa", sum := "bf8cceff5d156b91a562080fff90116f0f098dd729de31bb790575613f951ae5", func := "ferryman/ferrymanlaw01.SumOrder", spec := "sumOrder", unfollowed := true, recurses := true, apart := false }
def SumOrderSaid : Prop := sumOrderRow.holds Try.pinned (OpenSpec.ofChange sumOrderSpec)

/-- ITS FALSE NEIGHBOUR: 'it returns false'. Refute it at one input. -/
def sumOrderWrong : ChangeSpec := { name := "sumOrder", fn := fun _ => fun
  | [d1, d2] => { results := [.lit (.bool false)], args := [d1, d2] }
  | _ => none }
def SumOrderWrongFalsely : Prop := sumOrderRow.holds Try.pinned (OpenSpec.ofChange sumOrderWrong)

/-- 'ferrymanlaw01.SumFolds': WHATEVER THE INPUT: true; the input reads as it did. -/
def sumFoldsSpec : ChangeSpec := { name := "sumFolds", fn := fun _ => fun
  | [d] => { results := [.lit (.bool true)], args := [d] }
  | _ => none }
def sumFoldsRow : OpenClaim := { program := "ytiplnjpgaiibhaa", sum := "bf8cceff5d156b91a562080fff90116f0f098dd729de31bb790575613f951ae5", func := "ferryman/ferrymanlaw01.SumFolds", spec := "sumFolds", unfollowed := true, recurses := true, apart := false }
def SumFoldsSaid : Prop := sumFoldsRow.holds Try.pinned (OpenSpec.ofChange sumFoldsSpec)

/-- ITS FALSE NEIGHBOUR: 'it returns false'. Refute it at one input. -/
def sumFoldsWrong : ChangeSpec := { name := "sumFolds", fn := fun _ => fun
  | [d] => { results := [.lit (.bool false)], args := [d] }
  | _ => none }
def SumFoldsWrongFalsely : Prop := sumFoldsRow.holds Try.pinned (OpenSpec.ofChange sumFoldsWrong)

/-- 'ferrymanlaw01.SumChanges': WHATEVER THE INPUT: true; the input reads as it did. -/
def sumChangesSpec : ChangeSpec := { name := "sumChanges", fn := fun _ => fun
  | [d1, d2, d3, d4] => { results := [.lit (.bool true)], args := [d1, d2, d3, d4] }
  | _ => none }
def sumChangesRow : OpenClaim := { program := "ytiplnjpgaiibhaa", sum := "bf8cceff5d156b91a562080fff90116f0f098dd729de31bb790575613f951ae5", func := "ferryman/ferrymanlaw01.SumChanges", spec := "sumChanges", unfollowed := true, recurses := true, apart := false }
def SumChangesSaid : Prop := sumChangesRow.holds Try.pinned (OpenSpec.ofChange sumChangesSpec)

/-- ITS FALSE NEIGHBOUR: 'it returns false'. Refute it at one input. -/
def sumChangesWrong : ChangeSpec := { name := "sumChanges", fn := fun _ => fun
  | [d1, d2, d3, d4] => { results := [.lit (.bool false)], args := [d1, d2, d3, d4] }
  | _ => none }
def SumChangesWrongFalsely : Prop := sumChangesRow.holds Try.pinned (OpenSpec.ofChange sumChangesWrong)

/-- 'ferrymanlaw01.SumOneWord': WHATEVER THE INPUT: true; the input reads as it did. -/
def sumOneWordSpec : ChangeSpec := { name := "sumOneWord", fn := fun _ => fun
  | [d1, d2, d3, d4] => { results := [.lit (.bool true)], args := [d1, d2, d3, d4] }
  | _ => none }
def sumOneWordRow : OpenClaim := { program := "ytiplnjpgaiibhaa", sum := "bf8cceff5d156b91a562080fff90116f0f098dd729de31bb790575613f951ae5", func := "ferryman/ferrymanlaw01.SumOneWord", spec := "sumOneWord", unfollowed := true, recurses := true, apart := false }
def SumOneWordSaid : Prop := sumOneWordRow.holds Try.pinned (OpenSpec.ofChange sumOneWordSpec)

/-- ITS FALSE NEIGHBOUR: 'it returns false'. Refute it at one input. -/
def sumOneWordWrong : ChangeSpec := { name := "sumOneWord", fn := fun _ => fun
  | [d1, d2, d3, d4] => { results := [.lit (.bool false)], args := [d1, d2, d3, d4] }
  | _ => none }
def SumOneWordWrongFalsely : Prop := sumOneWordRow.holds Try.pinned (OpenSpec.ofChange sumOneWordWrong)

/-- 'ferrymanlaw01.SumOwn': WHATEVER THE INPUT: true; the input reads as it did. -/
def sumOwnSpec : ChangeSpec := { name := "sumOwn", fn := fun _ => fun
  | [d1, d2] => { results := [.lit (.bool true)], args := [d1, d2] }
  | _ => none }
def sumOwnRow : OpenClaim := { program := "ytiplnjpgaiibhaa", sum := "bf8cceff5d156b91a562080fff90116f0f098dd729de31bb790575613f951ae5", func := "ferryman/ferrymanlaw01.SumOwn", spec := "sumOwn", unfollowed := true, recurses := true, apart := false }
def SumOwnSaid : Prop := sumOwnRow.holds Try.pinned (OpenSpec.ofChange sumOwnSpec)

/-- ITS FALSE NEIGHBOUR: 'it returns false'. Refute it at one input. -/
def sumOwnWrong : ChangeSpec := { name := "sumOwn", fn := fun _ => fun
  | [d1, d2] => { results := [.lit (.bool false)], args := [d1, d2] }
  | _ => none }
def SumOwnWrongFalsely : Prop := sumOwnRow.holds Try.pinned (OpenSpec.ofChange sumOwnWrong)

/-- 'ferrymanlaw01.SumUpdates': WHATEVER THE INPUT: true; the input reads as it did. -/
def sumUpdatesSpec : ChangeSpec := { name := "sumUpdates", fn := fun _ => fun
  | [d1, d2, d3, d4] => { results := [.lit (.bool true)], args := [d1, d2, d3, d4] }
  | _ => none }
def sumUpdatesRow : OpenClaim := { program := "ytiplnjpgaiibhaa", sum := "bf8cceff5d156b91a562080fff90116f0f098dd729de31bb790575613f951ae5", func := "ferryman/ferrymanlaw01.SumUpdates", spec := "sumUpdates", unfollowed := true, recurses := true, apart := false }
def SumUpdatesSaid : Prop := sumUpdatesRow.holds Try.pinned (OpenSpec.ofChange sumUpdatesSpec)

/-- ITS FALSE NEIGHBOUR: 'it returns false'. Refute it at one input. -/
def sumUpdatesWrong : ChangeSpec := { name := "sumUpdates", fn := fun _ => fun
  | [d1, d2, d3, d4] => { results := [.lit (.bool false)], args := [d1, d2, d3, d4] }
  | _ => none }
def SumUpdatesWrongFalsely : Prop := sumUpdatesRow.holds Try.pinned (OpenSpec.ofChange sumUpdatesWrong)

/-- 'ferrymanlaw01.SumNeutral': WHATEVER THE INPUT: true; the input reads as it did. -/
def sumNeutralSpec : ChangeSpec := { name := "sumNeutral", fn := fun _ => fun
  | [d1, d2, d3, d4] => { results := [.lit (.bool true)], args := [d1, d2, d3, d4] }
  | _ => none }
def sumNeutralRow : OpenClaim := { program := "ytiplnjpgaiibhaa", sum := "bf8cceff5d156b91a562080fff90116f0f098dd729de31bb790575613f951ae5", func := "ferryman/ferrymanlaw01.SumNeutral", spec := "sumNeutral", unfollowed := true, recurses := true, apart := false }
def SumNeutralSaid : Prop := sumNeutralRow.holds Try.pinned (OpenSpec.ofChange sumNeutralSpec)

/-- ITS FALSE NEIGHBOUR: 'it returns false'. Refute it at one input. -/
def sumNeutralWrong : ChangeSpec := { name := "sumNeutral", fn := fun _ => fun
  | [d1, d2, d3, d4] => { results := [.lit (.bool false)], args := [d1, d2, d3, d4] }
  | _ => none }
def SumNeutralWrongFalsely : Prop := sumNeutralRow.holds Try.pinned (OpenSpec.ofChange sumNeutralWrong)

/-- 'ferrymanlaw01.SumPseudo': WHATEVER THE INPUT: true; the input reads as it did. -/
def sumPseudoSpec : ChangeSpec := { name := "sumPseudo", fn := fun _ => fun
  | [d1, d2, d3, d4, d5, d6] => { results := [.lit (.bool true)], args := [d1, d2, d3, d4, d5, d6] }
  | _ => none }
def sumPseudoRow : OpenClaim := { program := "ytiplnjpgaiibhaa", sum := "bf8cceff5d156b91a562080fff90116f0f098dd729de31bb790575613f951ae5", func := "ferryman/ferrymanlaw01.SumPseudo", spec := "sumPseudo", unfollowed := true, recurses := true, apart := false }
def SumPseudoSaid : Prop := sumPseudoRow.holds Try.pinned (OpenSpec.ofChange sumPseudoSpec)

/-- ITS FALSE NEIGHBOUR: 'it returns false'. Refute it at one input. -/
def sumPseudoWrong : ChangeSpec := { name := "sumPseudo", fn := fun _ => fun
  | [d1, d2, d3, d4, d5, d6] => { results := [.lit (.bool false)], args := [d1, d2, d3, d4, d5, d6] }
  | _ => none }
def SumPseudoWrongFalsely : Prop := sumPseudoRow.holds Try.pinned (OpenSpec.ofChange sumPseudoWrong)

/- THE SECOND FORM. 'bulk': how many values and letters a reading holds, each counted each time it is reached (what is shared counts as often as it is met; a slice's spare places count too). A statement '..UptoSaid' is the law's where the arguments, and the package variables that the reading takes, are together of bulk at most 1048576: NARROWER than '..Said'. Prove '..Said' where nothing that the law and all that it calls make is longer than what came in: it says more and counts as full. Else prove '..UptoSaid'. A law counts once. -/
mutual
def uptoBulk {H : Type} : DataW H → Nat
  | .lit (.string bytes) => bytes.length + 1
  | .lit _ => 1
  | .nil => 1
  | .ptr d => uptoBulk d + 1
  | .slice elems spare => uptoBulkAll elems + uptoBulkAll spare + 1
  | .agg parts => uptoBulkAll parts + 1
  | .iface _ d => uptoBulk d + 1
  | .map entries => uptoBulkEntries entries + 1
  | .held _ => 1
def uptoBulkAll {H : Type} : List (DataW H) → Nat
  | [] => 0
  | d :: r => uptoBulk d + uptoBulkAll r
def uptoBulkEntries {H : Type} : List (Lit × DataW H) → Nat
  | [] => 0
  | x :: r => uptoBulkEntry x + uptoBulkEntries r
def uptoBulkEntry {H : Type} : Lit × DataW H → Nat
  | (.string bytes, d) => bytes.length + uptoBulk d + 1
  | (_, d) => uptoBulk d + 1
 end
def uptoSmall : (H : Type) → List (DataW H) → Bool := fun _ ds => decide (uptoBulkAll ds ≤ 1048576)
def OpenSpec.upto (s : _root_.Go.ChangeSpec) : _root_.Go.OpenSpec := { _root_.Go.OpenSpec.ofChange s with cond := some uptoSmall }

/-- 'ferrymanlaw01.SumOrder', WHERE WHAT IT READS IS OF BULK AT MOST 1048576: true; the input reads as it did. -/
def sumOrderUptoRow : OpenClaim := { program := "ytiplnjpgaiibhaa", sum := "bf8cceff5d156b91a562080fff90116f0f098dd729de31bb790575613f951ae5", func := "ferryman/ferrymanlaw01.SumOrder", spec := "sumOrder", unfollowed := true, recurses := true, apart := false, narrowed := true }
def SumOrderUptoSaid : Prop := sumOrderUptoRow.holds Try.pinned (OpenSpec.upto sumOrderSpec)

/-- 'ferrymanlaw01.SumFolds', WHERE WHAT IT READS IS OF BULK AT MOST 1048576: true; the input reads as it did. -/
def sumFoldsUptoRow : OpenClaim := { program := "ytiplnjpgaiibhaa", sum := "bf8cceff5d156b91a562080fff90116f0f098dd729de31bb790575613f951ae5", func := "ferryman/ferrymanlaw01.SumFolds", spec := "sumFolds", unfollowed := true, recurses := true, apart := false, narrowed := true }
def SumFoldsUptoSaid : Prop := sumFoldsUptoRow.holds Try.pinned (OpenSpec.upto sumFoldsSpec)

/-- 'ferrymanlaw01.SumChanges', WHERE WHAT IT READS IS OF BULK AT MOST 1048576: true; the input reads as it did. -/
def sumChangesUptoRow : OpenClaim := { program := "ytiplnjpgaiibhaa", sum := "bf8cceff5d156b91a562080fff90116f0f098dd729de31bb790575613f951ae5", func := "ferryman/ferrymanlaw01.SumChanges", spec := "sumChanges", unfollowed := true, recurses := true, apart := false, narrowed := true }
def SumChangesUptoSaid : Prop := sumChangesUptoRow.holds Try.pinned (OpenSpec.upto sumChangesSpec)

/-- 'ferrymanlaw01.SumOneWord', WHERE WHAT IT READS IS OF BULK AT MOST 1048576: true; the input reads as it did. -/
def sumOneWordUptoRow : OpenClaim := { program := "ytiplnjpgaiibhaa", sum := "bf8cceff5d156b91a562080fff90116f0f098dd729de31bb790575613f951ae5", func := "ferryman/ferrymanlaw01.SumOneWord", spec := "sumOneWord", unfollowed := true, recurses := true, apart := false, narrowed := true }
def SumOneWordUptoSaid : Prop := sumOneWordUptoRow.holds Try.pinned (OpenSpec.upto sumOneWordSpec)

/-- 'ferrymanlaw01.SumOwn', WHERE WHAT IT READS IS OF BULK AT MOST 1048576: true; the input reads as it did. -/
def sumOwnUptoRow : OpenClaim := { program := "ytiplnjpgaiibhaa", sum := "bf8cceff5d156b91a562080fff90116f0f098dd729de31bb790575613f951ae5", func := "ferryman/ferrymanlaw01.SumOwn", spec := "sumOwn", unfollowed := true, recurses := true, apart := false, narrowed := true }
def SumOwnUptoSaid : Prop := sumOwnUptoRow.holds Try.pinned (OpenSpec.upto sumOwnSpec)

/-- 'ferrymanlaw01.SumUpdates', WHERE WHAT IT READS IS OF BULK AT MOST 1048576: true; the input reads as it did. -/
def sumUpdatesUptoRow : OpenClaim := { program := "ytiplnjpgaiibhaa", sum := "bf8cceff5d156b91a562080fff90116f0f098dd729de31bb790575613f951ae5", func := "ferryman/ferrymanlaw01.SumUpdates", spec := "sumUpdates", unfollowed := true, recurses := true, apart := false, narrowed := true }
def SumUpdatesUptoSaid : Prop := sumUpdatesUptoRow.holds Try.pinned (OpenSpec.upto sumUpdatesSpec)

/-- 'ferrymanlaw01.SumNeutral', WHERE WHAT IT READS IS OF BULK AT MOST 1048576: true; the input reads as it did. -/
def sumNeutralUptoRow : OpenClaim := { program := "ytiplnjpgaiibhaa", sum := "bf8cceff5d156b91a562080fff90116f0f098dd729de31bb790575613f951ae5", func := "ferryman/ferrymanlaw01.SumNeutral", spec := "sumNeutral", unfollowed := true, recurses := true, apart := false, narrowed := true }
def SumNeutralUptoSaid : Prop := sumNeutralUptoRow.holds Try.pinned (OpenSpec.upto sumNeutralSpec)

/-- 'ferrymanlaw01.SumPseudo', WHERE WHAT IT READS IS OF BULK AT MOST 1048576: true; the input reads as it did. -/
def sumPseudoUptoRow : OpenClaim := { program := "ytiplnjpgaiibhaa", sum := "bf8cceff5d156b91a562080fff90116f0f098dd729de31bb790575613f951ae5", func := "ferryman/ferrymanlaw01.SumPseudo", spec := "sumPseudo", unfollowed := true, recurses := true, apart := false, narrowed := true }
def SumPseudoUptoSaid : Prop := sumPseudoUptoRow.holds Try.pinned (OpenSpec.upto sumPseudoSpec)

end Rows
end Go.Proofs.Ytiplnjpgaiibhaa
