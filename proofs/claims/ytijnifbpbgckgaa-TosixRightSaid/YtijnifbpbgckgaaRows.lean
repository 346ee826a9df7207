/-
  No cell of these rows narrows 'for every input' (looked for: loops, veiled, ifaces, maps, wideKeys, modest, calm, conditions, laid).
  DERIVED. THE GIVEN ROWS OF THIS SEAT. 6 by the template 'for every input the law returns true; each argument reads behind the call as it read before'; 0 by the template 'total and deterministic' (their statements: YtijnifbpbgckgaaTotals.lean).
  GIVEN WITH THE SEED: the statements are not yours to turn. If you find one false, say at which input.
  Laid BY PROGRAM, IN A SANDBOX (cutbox-rows.mjs): the forced cells as the released guide's own fill.sh prints them over the translation 679ed16395af4cce… (all of the seat's roots in one cut). By AI agents, Wed Nov 11 2026. No macro, syntax, notation, axiom, sorry.
-/
import Derived.Test.YtijnifbpbgckgaaChecked
import GoSem.Claim
import GoSem.ClaimJoined
import GoSem.ClaimMapViews
import Derived.JoinedTies
import Derived.KernelRfl
namespace Go.Proofs.Ytijnifbpbgckgaa
/- THE CELL 'sum', in the pinned program and in every row, IS THE sha256 OF THE DUMP (.gsa) THAT YtijnifbpbgckgaaProg.lean LOADS. Nothing in Lean hashes anything: it is a label: what it is worth is what the hold of that sum in a sandbox is worth. -/
noncomputable def Try.pinned : Pinned := { name := "ytijnifbpbgckgaa", sum := "679ed16395af4cceeed82a73934eceb4e2e1f5a180666e32700bfca9aa601ad1", checked := Try.checked }
namespace Rows
def none {H : Type} : Left H := { results := [], args := [] }

/-- 'ferrymanlaw17.TosixPackets': WHATEVER THE INPUT: true; the input reads as it did. -/
def tosixPacketsSpec : ChangeSpec := { name := "tosixPackets", fn := fun _ => fun
  | [d1, d2, d3] => { results := [.lit (.bool true)], args := [d1, d2, d3] }
  | _ => none }
def tosixPacketsRow : OpenClaim := { program := "ytijnifbpbgckgaa", sum := "679ed16395af4cceeed82a73934eceb4e2e1f5a180666e32700bfca9aa601ad1", func := "ferryman/ferrymanlaw17.TosixPackets", spec := "tosixPackets", unfollowed := true, recurses := true, apart := false }
def TosixPacketsSaid : Prop := tosixPacketsRow.holds Try.pinned (OpenSpec.ofChange tosixPacketsSpec)

/-- ITS FALSE NEIGHBOUR: 'it returns false'. Refute it at one input. -/
def tosixPacketsWrong : ChangeSpec := { name := "tosixPackets", fn := fun _ => fun
  | [d1, d2, d3] => { results := [.lit (.bool false)], args := [d1, d2, d3] }
  | _ => none }
def TosixPacketsWrongFalsely : Prop := tosixPacketsRow.holds Try.pinned (OpenSpec.ofChange tosixPacketsWrong)

/-- 'ferrymanlaw17.TosixMessages': WHATEVER THE INPUT: true; the input reads as it did. -/
def tosixMessagesSpec : ChangeSpec := { name := "tosixMessages", fn := fun _ => fun
  | [d1, d2] => { results := [.lit (.bool true)], args := [d1, d2] }
  | _ => none }
def tosixMessagesRow : OpenClaim := { program := "ytijnifbpbgckgaa", sum := "679ed16395af4cceeed82a73934eceb4e2e1f5a180666e32700bfca9aa601ad1", func := "ferryman/ferrymanlaw17.TosixMessages", spec := "tosixMessages", unfollowed := true, recurses := true, apart := false }
def TosixMessagesSaid : Prop := tosixMessagesRow.holds Try.pinned (OpenSpec.ofChange tosixMessagesSpec)

/-- ITS FALSE NEIGHBOUR: 'it returns false'. Refute it at one input. -/
def tosixMessagesWrong : ChangeSpec := { name := "tosixMessages", fn := fun _ => fun
  | [d1, d2] => { results := [.lit (.bool false)], args := [d1, d2] }
  | _ => none }
def TosixMessagesWrongFalsely : Prop := tosixMessagesRow.holds Try.pinned (OpenSpec.ofChange tosixMessagesWrong)

/-- 'ferrymanlaw17.TosixInside': WHATEVER THE INPUT: true; the input reads as it did. -/
def tosixInsideSpec : ChangeSpec := { name := "tosixInside", fn := fun _ => fun
  | [d1, d2] => { results := [.lit (.bool true)], args := [d1, d2] }
  | _ => none }
def tosixInsideRow : OpenClaim := { program := "ytijnifbpbgckgaa", sum := "679ed16395af4cceeed82a73934eceb4e2e1f5a180666e32700bfca9aa601ad1", func := "ferryman/ferrymanlaw17.TosixInside", spec := "tosixInside", unfollowed := true, recurses := true, apart := false }
def TosixInsideSaid : Prop := tosixInsideRow.holds Try.pinned (OpenSpec.ofChange tosixInsideSpec)

/-- ITS FALSE NEIGHBOUR: 'it returns false'. Refute it at one input. -/
def tosixInsideWrong : ChangeSpec := { name := "tosixInside", fn := fun _ => fun
  | [d1, d2] => { results := [.lit (.bool false)], args := [d1, d2] }
  | _ => none }
def TosixInsideWrongFalsely : Prop := tosixInsideRow.holds Try.pinned (OpenSpec.ofChange tosixInsideWrong)

/-- 'ferrymanlaw17.TosixRight': WHATEVER THE INPUT: true; the input reads as it did. -/
def tosixRightSpec : ChangeSpec := { name := "tosixRight", fn := fun _ => fun
  | [d1, d2, d3] => { results := [.lit (.bool true)], args := [d1, d2, d3] }
  | _ => none }
def tosixRightRow : OpenClaim := { program := "ytijnifbpbgckgaa", sum := "679ed16395af4cceeed82a73934eceb4e2e1f5a180666e32700bfca9aa601ad1", func := "ferryman/ferrymanlaw17.TosixRight", spec := "tosixRight", unfollowed := true, recurses := true, apart := false }
def TosixRightSaid : Prop := tosixRightRow.holds Try.pinned (OpenSpec.ofChange tosixRightSpec)

/-- ITS FALSE NEIGHBOUR: 'it returns false'. Refute it at one input. -/
def tosixRightWrong : ChangeSpec := { name := "tosixRight", fn := fun _ => fun
  | [d1, d2, d3] => { results := [.lit (.bool false)], args := [d1, d2, d3] }
  | _ => none }
def TosixRightWrongFalsely : Prop := tosixRightRow.holds Try.pinned (OpenSpec.ofChange tosixRightWrong)

/-- 'ferrymanlaw17.TosixLong': WHATEVER THE INPUT: true; the input reads as it did. -/
def tosixLongSpec : ChangeSpec := { name := "tosixLong", fn := fun _ => fun
  | [d1, d2, d3] => { results := [.lit (.bool true)], args := [d1, d2, d3] }
  | _ => none }
def tosixLongRow : OpenClaim := { program := "ytijnifbpbgckgaa", sum := "679ed16395af4cceeed82a73934eceb4e2e1f5a180666e32700bfca9aa601ad1", func := "ferryman/ferrymanlaw17.TosixLong", spec := "tosixLong", unfollowed := true, recurses := true, apart := false }
def TosixLongSaid : Prop := tosixLongRow.holds Try.pinned (OpenSpec.ofChange tosixLongSpec)

/-- ITS FALSE NEIGHBOUR: 'it returns false'. Refute it at one input. -/
def tosixLongWrong : ChangeSpec := { name := "tosixLong", fn := fun _ => fun
  | [d1, d2, d3] => { results := [.lit (.bool false)], args := [d1, d2, d3] }
  | _ => none }
def TosixLongWrongFalsely : Prop := tosixLongRow.holds Try.pinned (OpenSpec.ofChange tosixLongWrong)

/-- 'ferrymanlaw17.TosixTells': WHATEVER THE INPUT: true; the input reads as it did. -/
def tosixTellsSpec : ChangeSpec := { name := "tosixTells", fn := fun _ => fun
  | [d1, d2, d3] => { results := [.lit (.bool true)], args := [d1, d2, d3] }
  | _ => none }
def tosixTellsRow : OpenClaim := { program := "ytijnifbpbgckgaa", sum := "679ed16395af4cceeed82a73934eceb4e2e1f5a180666e32700bfca9aa601ad1", func := "ferryman/ferrymanlaw17.TosixTells", spec := "tosixTells", unfollowed := true, recurses := true, apart := false }
def TosixTellsSaid : Prop := tosixTellsRow.holds Try.pinned (OpenSpec.ofChange tosixTellsSpec)

/-- ITS FALSE NEIGHBOUR: 'it returns false'. Refute it at one input. -/
def tosixTellsWrong : ChangeSpec := { name := "tosixTells", fn := fun _ => fun
  | [d1, d2, d3] => { results := [.lit (.bool false)], args := [d1, d2, d3] }
  | _ => none }
def TosixTellsWrongFalsely : Prop := tosixTellsRow.holds Try.pinned (OpenSpec.ofChange tosixTellsWrong)

/- THE SECOND FORM. 'bulk': how many values and letters a reading holds, each counted each time it is reached (what is shared counts as often as it is met; a slice's spare places count too). A statement '..UptoSaid' is the law's where the arguments, and the package variables that the reading takes, are together of bulk at most 1048576: NARROWER than '..Said'. Prove '..Said' where nothing that the law and all that it calls make is longer than what came in: it says more and counts as full. Else prove '..UptoSaid'. A law counts once. -/
mutual
def uptoBulk {H : Type} : DataW H → Nat
  | .lit (.string bytes) => bytes.length + 1
  | .lit _ => 1
  | .nil => 1
  | .ptr d => uptoBulk d + 1
  | .slice elems spare => uptoBulkAll elems + uptoBulkAll spare + 1
  | .agg parts => uptoBulkAll parts + 1
  | .iface _ d => uptoBulk d + 1
  | .map entries => uptoBulkEntries entries + 1
  | .held _ => 1
def uptoBulkAll {H : Type} : List (DataW H) → Nat
  | [] => 0
  | d :: r => uptoBulk d + uptoBulkAll r
def uptoBulkEntries {H : Type} : List (Lit × DataW H) → Nat
  | [] => 0
  | x :: r => uptoBulkEntry x + uptoBulkEntries r
def uptoBulkEntry {H : Type} : Lit × DataW H → Nat
  | (.string bytes, d) => bytes.length + uptoBulk d + 1
  | (_, d) => uptoBulk d + 1
 end
def uptoSmall : (H : Type) → List (DataW H) → Bool := fun _ ds => decide (uptoBulkAll ds ≤ 1048576)
def OpenSpec.upto (s : _root_.Go.ChangeSpec) : _root_.Go.OpenSpec := { _root_.Go.OpenSpec.ofChange s with cond := some uptoSmall }

/-- 'ferrymanlaw17.TosixPackets', WHERE WHAT IT READS IS OF BULK AT MOST 1048576: true; the input reads as it did. -/
def tosixPacketsUptoRow : OpenClaim := { program := "ytijnifbpbgckgaa", sum := "679ed16395af4cceeed82a73934eceb4e2e1f5a180666e32700bfca9aa601ad1", func := "ferryman/ferrymanlaw17.TosixPackets", spec := "tosixPackets", unfollowed := true, recurses := true, apart := false, narrowed := true }
def TosixPacketsUptoSaid : Prop := tosixPacketsUptoRow.holds Try.pinned (OpenSpec.upto tosixPacketsSpec)

/-- 'ferrymanlaw17.TosixMessages', WHERE WHAT IT READS IS OF BULK AT MOST 1048576: true; the input reads as it did. -/
def tosixMessagesUptoRow : OpenClaim := { program := "ytijnifbpbgckgaa", sum := "679ed16395af4cceeed82a73934eceb4e2e1f5a180666e32700bfca9aa601ad1", func := "ferryman/ferrymanlaw17.TosixMessages", spec := "tosixMessages", unfollowed := true, recurses := true, apart := false, narrowed := true }
def TosixMessagesUptoSaid : Prop := tosixMessagesUptoRow.holds Try.pinned (OpenSpec.upto tosixMessagesSpec)

/-- 'ferrymanlaw17.TosixInside', WHERE WHAT IT READS IS OF BULK AT MOST 1048576: true; the input reads as it did. -/
def tosixInsideUptoRow : OpenClaim := { program := "ytijnifbpbgckgaa", sum := "679ed16395af4cceeed82a73934eceb4e2e1f5a180666e32700bfca9aa601ad1", func := "ferryman/ferrymanlaw17.TosixInside", spec := "tosixInside", unfollowed := true, recurses := true, apart := false, narrowed := true }
def TosixInsideUptoSaid : Prop := tosixInsideUptoRow.holds Try.pinned (OpenSpec.upto tosixInsideSpec)

/-- 'ferrymanlaw17.TosixRight', WHERE WHAT IT READS IS OF BULK AT MOST 1048576: true; the input reads as it did. -/
def tosixRightUptoRow : OpenClaim := { program := "ytijnifbpbgckgaa", sum := "679ed16395af4cceeed82a73934eceb4e2e1f5a180666e32700bfca9aa601ad1", func := "ferryman/ferrymanlaw17.TosixRight", spec := "tosixRight", unfollowed := true, recurses := true, apart := false, narrowed := true }
def TosixRightUptoSaid : Prop := tosixRightUptoRow.holds Try.pinned (OpenSpec.upto tosixRightSpec)

/-- 'ferrymanlaw17.TosixLong', WHERE WHAT IT READS IS OF BULK AT MOST 1048576: true; the input reads as it did. -/
def tosixLongUptoRow : OpenClaim := { program := "ytijnifbpbgckgaa", sum := "679ed16395af4cceeed82a73934eceb4e2e1f5a180666e32700bfca9aa601ad1", func := "ferryman/ferrymanlaw17.TosixLong", spec := "tosixLong", unfollowed := true, recurses := true, apart := false, narrowed := true }
def TosixLongUptoSaid : Prop := tosixLongUptoRow.holds Try.pinned (OpenSpec.upto tosixLongSpec)

/-- 'ferrymanlaw17.TosixTells', WHERE WHAT IT READS IS OF BULK AT MOST 1048576: true; the input reads as it did. -/
def tosixTellsUptoRow : OpenClaim := { program := "ytijnifbpbgckgaa", sum := "679ed16395af4cceeed82a73934eceb4e2e1f5a180666e32700bfca9aa601ad1", func := "ferryman/ferrymanlaw17.TosixTells", spec := "tosixTells", unfollowed := true, recurses := true, apart := false, narrowed := true }
def TosixTellsUptoSaid : Prop := tosixTellsUptoRow.holds Try.pinned (OpenSpec.upto tosixTellsSpec)

end Rows
end Go.Proofs.Ytijnifbpbgckgaa
