/-
  No cell of these rows narrows 'for every input' (looked for: loops, veiled, ifaces, maps, wideKeys, modest, calm, conditions, laid).
  DERIVED. THE GIVEN ROWS OF THIS SEAT. 10 by the template 'for every input the law returns true; each argument reads behind the call as it read before'; 0 by the template 'total and deterministic' (their statements: YtaobnbjkhgcmlaaTotals.lean).
  GIVEN WITH THE SEED: the statements are not yours to turn. If you find one false, say at which input.
  Laid BY PROGRAM, IN A SANDBOX (cutbox-rows.mjs): the forced cells as the released guide's own fill.sh prints them over the translation 5b7514e1c137bbdc… (all of the seat's roots in one cut). By AI agents, Wed Nov 11 2026. No macro, syntax, notation, axiom, sorry.
-/
import Derived.Test.YtaobnbjkhgcmlaaChecked
import GoSem.Claim
import GoSem.ClaimJoined
import GoSem.ClaimMapViews
import Derived.JoinedTies
import Derived.KernelRfl
namespace Go.Proofs.Ytaobnbjkhgcmlaa
/- THE CELL 'sum', in the pinned program and in every row, IS THE sha256 OF THE DUMP (.gsa) THAT YtaobnbjkhgcmlaaProg.lean LOADS. Nothing in Lean hashes anything: it is a label: what it is worth is what the hold of that sum in a sandbox is worth. -/
noncomputable def Try.pinned : Pinned := { name := "ytaobnbjkhgcmlaa", sum := "5b7514e1c137bbdc2580eefaf9076bd6c95cbc6ffe7626499858f14175d91afc", checked := Try.checked }
namespace Rows
def none {H : Type} : Left H := { results := [], args := [] }

/-- 'ferrymanlaw06.SegmentSame': WHATEVER THE INPUT: true; the input reads as it did. -/
def segmentSameSpec : ChangeSpec := { name := "segmentSame", fn := fun _ => fun
  | [d1, d2, d3, d4] => { results := [.lit (.bool true)], args := [d1, d2, d3, d4] }
  | _ => none }
def segmentSameRow : OpenClaim := { program := "ytaobnbjkhgcmlaa", sum := "5b7514e1c137bbdc2580eefaf9076bd6c95cbc6ffe7626499858f14175d91afc", func := "ferryman/ferrymanlaw06.SegmentSame", spec := "segmentSame", unfollowed := true, recurses := true, apart := false }
def SegmentSameSaid : Prop := segmentSameRow.holds Try.pinned (OpenSpec.ofChange segmentSameSpec)

/-- ITS FALSE NEIGHBOUR: 'it returns false'. Refute it at one input. -/
def segmentSameWrong : ChangeSpec := { name := "segmentSame", fn := fun _ => fun
  | [d1, d2, d3, d4] => { results := [.lit (.bool false)], args := [d1, d2, d3, d4] }
  | _ => none }
def SegmentSameWrongFalsely : Prop := segmentSameRow.holds Try.pinned (OpenSpec.ofChange segmentSameWrong)

/-- 'ferrymanlaw06.SegmentSums': WHATEVER THE INPUT: true; the input reads as it did. -/
def segmentSumsSpec : ChangeSpec := { name := "segmentSums", fn := fun _ => fun
  | [d1, d2, d3] => { results := [.lit (.bool true)], args := [d1, d2, d3] }
  | _ => none }
def segmentSumsRow : OpenClaim := { program := "ytaobnbjkhgcmlaa", sum := "5b7514e1c137bbdc2580eefaf9076bd6c95cbc6ffe7626499858f14175d91afc", func := "ferryman/ferrymanlaw06.SegmentSums", spec := "segmentSums", unfollowed := true, recurses := true, apart := false }
def SegmentSumsSaid : Prop := segmentSumsRow.holds Try.pinned (OpenSpec.ofChange segmentSumsSpec)

/-- ITS FALSE NEIGHBOUR: 'it returns false'. Refute it at one input. -/
def segmentSumsWrong : ChangeSpec := { name := "segmentSums", fn := fun _ => fun
  | [d1, d2, d3] => { results := [.lit (.bool false)], args := [d1, d2, d3] }
  | _ => none }
def SegmentSumsWrongFalsely : Prop := segmentSumsRow.holds Try.pinned (OpenSpec.ofChange segmentSumsWrong)

/-- 'ferrymanlaw06.SegmentWrites': WHATEVER THE INPUT: true; the input reads as it did. -/
def segmentWritesSpec : ChangeSpec := { name := "segmentWrites", fn := fun _ => fun
  | [d1, d2, d3] => { results := [.lit (.bool true)], args := [d1, d2, d3] }
  | _ => none }
def segmentWritesRow : OpenClaim := { program := "ytaobnbjkhgcmlaa", sum := "5b7514e1c137bbdc2580eefaf9076bd6c95cbc6ffe7626499858f14175d91afc", func := "ferryman/ferrymanlaw06.SegmentWrites", spec := "segmentWrites", unfollowed := true, recurses := true, apart := false }
def SegmentWritesSaid : Prop := segmentWritesRow.holds Try.pinned (OpenSpec.ofChange segmentWritesSpec)

/-- ITS FALSE NEIGHBOUR: 'it returns false'. Refute it at one input. -/
def segmentWritesWrong : ChangeSpec := { name := "segmentWrites", fn := fun _ => fun
  | [d1, d2, d3] => { results := [.lit (.bool false)], args := [d1, d2, d3] }
  | _ => none }
def SegmentWritesWrongFalsely : Prop := segmentWritesRow.holds Try.pinned (OpenSpec.ofChange segmentWritesWrong)

/-- 'ferrymanlaw06.SegmentUDPs': WHATEVER THE INPUT: true; the input reads as it did. -/
def segmentUDPsSpec : ChangeSpec := { name := "segmentUDPs", fn := fun _ => fun
  | [d1, d2] => { results := [.lit (.bool true)], args := [d1, d2] }
  | _ => none }
def segmentUDPsRow : OpenClaim := { program := "ytaobnbjkhgcmlaa", sum := "5b7514e1c137bbdc2580eefaf9076bd6c95cbc6ffe7626499858f14175d91afc", func := "ferryman/ferrymanlaw06.SegmentUDPs", spec := "segmentUDPs", unfollowed := true, recurses := true, apart := false }
def SegmentUDPsSaid : Prop := segmentUDPsRow.holds Try.pinned (OpenSpec.ofChange segmentUDPsSpec)

/-- ITS FALSE NEIGHBOUR: 'it returns false'. Refute it at one input. -/
def segmentUDPsWrong : ChangeSpec := { name := "segmentUDPs", fn := fun _ => fun
  | [d1, d2] => { results := [.lit (.bool false)], args := [d1, d2] }
  | _ => none }
def SegmentUDPsWrongFalsely : Prop := segmentUDPsRow.holds Try.pinned (OpenSpec.ofChange segmentUDPsWrong)

/-- 'ferrymanlaw06.SegmentTCPs': WHATEVER THE INPUT: true; the input reads as it did. -/
def segmentTCPsSpec : ChangeSpec := { name := "segmentTCPs", fn := fun _ => fun
  | [d1, d2] => { results := [.lit (.bool true)], args := [d1, d2] }
  | _ => none }
def segmentTCPsRow : OpenClaim := { program := "ytaobnbjkhgcmlaa", sum := "5b7514e1c137bbdc2580eefaf9076bd6c95cbc6ffe7626499858f14175d91afc", func := "ferryman/ferrymanlaw06.SegmentTCPs", spec := "segmentTCPs", unfollowed := true, recurses := true, apart := false }
def SegmentTCPsSaid : Prop := segmentTCPsRow.holds Try.pinned (OpenSpec.ofChange segmentTCPsSpec)

/-- ITS FALSE NEIGHBOUR: 'it returns false'. Refute it at one input. -/
def segmentTCPsWrong : ChangeSpec := { name := "segmentTCPs", fn := fun _ => fun
  | [d1, d2] => { results := [.lit (.bool false)], args := [d1, d2] }
  | _ => none }
def SegmentTCPsWrongFalsely : Prop := segmentTCPsRow.holds Try.pinned (OpenSpec.ofChange segmentTCPsWrong)

/-- 'ferrymanlaw06.SegmentClamps': WHATEVER THE INPUT: true; the input reads as it did. -/
def segmentClampsSpec : ChangeSpec := { name := "segmentClamps", fn := fun _ => fun
  | [d1, d2] => { results := [.lit (.bool true)], args := [d1, d2] }
  | _ => none }
def segmentClampsRow : OpenClaim := { program := "ytaobnbjkhgcmlaa", sum := "5b7514e1c137bbdc2580eefaf9076bd6c95cbc6ffe7626499858f14175d91afc", func := "ferryman/ferrymanlaw06.SegmentClamps", spec := "segmentClamps", unfollowed := true, recurses := true, apart := false }
def SegmentClampsSaid : Prop := segmentClampsRow.holds Try.pinned (OpenSpec.ofChange segmentClampsSpec)

/-- ITS FALSE NEIGHBOUR: 'it returns false'. Refute it at one input. -/
def segmentClampsWrong : ChangeSpec := { name := "segmentClamps", fn := fun _ => fun
  | [d1, d2] => { results := [.lit (.bool false)], args := [d1, d2] }
  | _ => none }
def SegmentClampsWrongFalsely : Prop := segmentClampsRow.holds Try.pinned (OpenSpec.ofChange segmentClampsWrong)

/-- 'ferrymanlaw06.SegmentLesser': WHATEVER THE INPUT: true; the input reads as it did. -/
def segmentLesserSpec : ChangeSpec := { name := "segmentLesser", fn := fun _ => fun
  | [d1, d2] => { results := [.lit (.bool true)], args := [d1, d2] }
  | _ => none }
def segmentLesserRow : OpenClaim := { program := "ytaobnbjkhgcmlaa", sum := "5b7514e1c137bbdc2580eefaf9076bd6c95cbc6ffe7626499858f14175d91afc", func := "ferryman/ferrymanlaw06.SegmentLesser", spec := "segmentLesser", unfollowed := true, recurses := true, apart := false }
def SegmentLesserSaid : Prop := segmentLesserRow.holds Try.pinned (OpenSpec.ofChange segmentLesserSpec)

/-- ITS FALSE NEIGHBOUR: 'it returns false'. Refute it at one input. -/
def segmentLesserWrong : ChangeSpec := { name := "segmentLesser", fn := fun _ => fun
  | [d1, d2] => { results := [.lit (.bool false)], args := [d1, d2] }
  | _ => none }
def SegmentLesserWrongFalsely : Prop := segmentLesserRow.holds Try.pinned (OpenSpec.ofChange segmentLesserWrong)

/-- 'ferrymanlaw06.SegmentRewrites': WHATEVER THE INPUT: true; the input reads as it did. -/
def segmentRewritesSpec : ChangeSpec := { name := "segmentRewrites", fn := fun _ => fun
  | [d1, d2, d3, d4, d5, d6] => { results := [.lit (.bool true)], args := [d1, d2, d3, d4, d5, d6] }
  | _ => none }
def segmentRewritesRow : OpenClaim := { program := "ytaobnbjkhgcmlaa", sum := "5b7514e1c137bbdc2580eefaf9076bd6c95cbc6ffe7626499858f14175d91afc", func := "ferryman/ferrymanlaw06.SegmentRewrites", spec := "segmentRewrites", unfollowed := true, recurses := true, apart := false }
def SegmentRewritesSaid : Prop := segmentRewritesRow.holds Try.pinned (OpenSpec.ofChange segmentRewritesSpec)

/-- ITS FALSE NEIGHBOUR: 'it returns false'. Refute it at one input. -/
def segmentRewritesWrong : ChangeSpec := { name := "segmentRewrites", fn := fun _ => fun
  | [d1, d2, d3, d4, d5, d6] => { results := [.lit (.bool false)], args := [d1, d2, d3, d4, d5, d6] }
  | _ => none }
def SegmentRewritesWrongFalsely : Prop := segmentRewritesRow.holds Try.pinned (OpenSpec.ofChange segmentRewritesWrong)

/-- 'ferrymanlaw06.SegmentBack': WHATEVER THE INPUT: true; the input reads as it did. -/
def segmentBackSpec : ChangeSpec := { name := "segmentBack", fn := fun _ => fun
  | [d1, d2, d3] => { results := [.lit (.bool true)], args := [d1, d2, d3] }
  | _ => none }
def segmentBackRow : OpenClaim := { program := "ytaobnbjkhgcmlaa", sum := "5b7514e1c137bbdc2580eefaf9076bd6c95cbc6ffe7626499858f14175d91afc", func := "ferryman/ferrymanlaw06.SegmentBack", spec := "segmentBack", unfollowed := true, recurses := true, apart := false }
def SegmentBackSaid : Prop := segmentBackRow.holds Try.pinned (OpenSpec.ofChange segmentBackSpec)

/-- ITS FALSE NEIGHBOUR: 'it returns false'. Refute it at one input. -/
def segmentBackWrong : ChangeSpec := { name := "segmentBack", fn := fun _ => fun
  | [d1, d2, d3] => { results := [.lit (.bool false)], args := [d1, d2, d3] }
  | _ => none }
def SegmentBackWrongFalsely : Prop := segmentBackRow.holds Try.pinned (OpenSpec.ofChange segmentBackWrong)

/-- 'ferrymanlaw06.SegmentNAT': WHATEVER THE INPUT: true; the input reads as it did. -/
def segmentNATSpec : ChangeSpec := { name := "segmentNAT", fn := fun _ => fun
  | [d1, d2, d3, d4, d5, d6] => { results := [.lit (.bool true)], args := [d1, d2, d3, d4, d5, d6] }
  | _ => none }
def segmentNATRow : OpenClaim := { program := "ytaobnbjkhgcmlaa", sum := "5b7514e1c137bbdc2580eefaf9076bd6c95cbc6ffe7626499858f14175d91afc", func := "ferryman/ferrymanlaw06.SegmentNAT", spec := "segmentNAT", unfollowed := true, recurses := true, apart := false }
def SegmentNATSaid : Prop := segmentNATRow.holds Try.pinned (OpenSpec.ofChange segmentNATSpec)

/-- ITS FALSE NEIGHBOUR: 'it returns false'. Refute it at one input. -/
def segmentNATWrong : ChangeSpec := { name := "segmentNAT", fn := fun _ => fun
  | [d1, d2, d3, d4, d5, d6] => { results := [.lit (.bool false)], args := [d1, d2, d3, d4, d5, d6] }
  | _ => none }
def SegmentNATWrongFalsely : Prop := segmentNATRow.holds Try.pinned (OpenSpec.ofChange segmentNATWrong)

/- THE SECOND FORM. 'bulk': how many values and letters a reading holds, each counted each time it is reached (what is shared counts as often as it is met; a slice's spare places count too). A statement '..UptoSaid' is the law's where the arguments, and the package variables that the reading takes, are together of bulk at most 1048576: NARROWER than '..Said'. Prove '..Said' where nothing that the law and all that it calls make is longer than what came in: it says more and counts as full. Else prove '..UptoSaid'. A law counts once. -/
mutual
def uptoBulk {H : Type} : DataW H → Nat
  | .lit (.string bytes) => bytes.length + 1
  | .lit _ => 1
  | .nil => 1
  | .ptr d => uptoBulk d + 1
  | .slice elems spare => uptoBulkAll elems + uptoBulkAll spare + 1
  | .agg parts => uptoBulkAll parts + 1
  | .iface _ d => uptoBulk d + 1
  | .map entries => uptoBulkEntries entries + 1
  | .held _ => 1
def uptoBulkAll {H : Type} : List (DataW H) → Nat
  | [] => 0
  | d :: r => uptoBulk d + uptoBulkAll r
def uptoBulkEntries {H : Type} : List (Lit × DataW H) → Nat
  | [] => 0
  | x :: r => uptoBulkEntry x + uptoBulkEntries r
def uptoBulkEntry {H : Type} : Lit × DataW H → Nat
  | (.string bytes, d) => bytes.length + uptoBulk d + 1
  | (_, d) => uptoBulk d + 1
 end
def uptoSmall : (H : Type) → List (DataW H) → Bool := fun _ ds => decide (uptoBulkAll ds ≤ 1048576)
def OpenSpec.upto (s : _root_.Go.ChangeSpec) : _root_.Go.OpenSpec := { _root_.Go.OpenSpec.ofChange s with cond := some uptoSmall }

/-- 'ferrymanlaw06.SegmentSame', WHERE WHAT IT READS IS OF BULK AT MOST 1048576: true; the input reads as it did. -/
def segmentSameUptoRow : OpenClaim := { program := "ytaobnbjkhgcmlaa", sum := "5b7514e1c137bbdc2580eefaf9076bd6c95cbc6ffe7626499858f14175d91afc", func := "ferryman/ferrymanlaw06.SegmentSame", spec := "segmentSame", unfollowed := true, recurses := true, apart := false, narrowed := true }
def SegmentSameUptoSaid : Prop := segmentSameUptoRow.holds Try.pinned (OpenSpec.upto segmentSameSpec)

/-- 'ferrymanlaw06.SegmentSums', WHERE WHAT IT READS IS OF BULK AT MOST 1048576: true; the input reads as it did. -/
def segmentSumsUptoRow : OpenClaim := { program := "ytaobnbjkhgcmlaa", sum := "5b7514e1c137bbdc2580eefaf9076bd6c95cbc6ffe7626499858f14175d91afc", func := "ferryman/ferrymanlaw06.SegmentSums", spec := "segmentSums", unfollowed := true, recurses := true, apart := false, narrowed := true }
def SegmentSumsUptoSaid : Prop := segmentSumsUptoRow.holds Try.pinned (OpenSpec.upto segmentSumsSpec)

/-- 'ferrymanlaw06.SegmentWrites', WHERE WHAT IT READS IS OF BULK AT MOST 1048576: true; the input reads as it did. -/
def segmentWritesUptoRow : OpenClaim := { program := "ytaobnbjkhgcmlaa", sum := "5b7514e1c137bbdc2580eefaf9076bd6c95cbc6ffe7626499858f14175d91afc", func := "ferryman/ferrymanlaw06.SegmentWrites", spec := "segmentWrites", unfollowed := true, recurses := true, apart := false, narrowed := true }
def SegmentWritesUptoSaid : Prop := segmentWritesUptoRow.holds Try.pinned (OpenSpec.upto segmentWritesSpec)

/-- 'ferrymanlaw06.SegmentUDPs', WHERE WHAT IT READS IS OF BULK AT MOST 1048576: true; the input reads as it did. -/
def segmentUDPsUptoRow : OpenClaim := { program := "ytaobnbjkhgcmlaa", sum := "5b7514e1c137bbdc2580eefaf9076bd6c95cbc6ffe7626499858f14175d91afc", func := "ferryman/ferrymanlaw06.SegmentUDPs", spec := "segmentUDPs", unfollowed := true, recurses := true, apart := false, narrowed := true }
def SegmentUDPsUptoSaid : Prop := segmentUDPsUptoRow.holds Try.pinned (OpenSpec.upto segmentUDPsSpec)

/-- 'ferrymanlaw06.SegmentTCPs', WHERE WHAT IT READS IS OF BULK AT MOST 1048576: true; the input reads as it did. -/
def segmentTCPsUptoRow : OpenClaim := { program := "ytaobnbjkhgcmlaa", sum := "5b7514e1c137bbdc2580eefaf9076bd6c95cbc6ffe7626499858f14175d91afc", func := "ferryman/ferrymanlaw06.SegmentTCPs", spec := "segmentTCPs", unfollowed := true, recurses := true, apart := false, narrowed := true }
def SegmentTCPsUptoSaid : Prop := segmentTCPsUptoRow.holds Try.pinned (OpenSpec.upto segmentTCPsSpec)

/-- 'ferrymanlaw06.SegmentClamps', WHERE WHAT IT READS IS OF BULK AT MOST 1048576: true; the input reads as it did. -/
def segmentClampsUptoRow : OpenClaim := { program := "ytaobnbjkhgcmlaa", sum := "5b7514e1c137bbdc2580eefaf9076bd6c95cbc6ffe7626499858f14175d91afc", func := "ferryman/ferrymanlaw06.SegmentClamps", spec := "segmentClamps", unfollowed := true, recurses := true, apart := false, narrowed := true }
def SegmentClampsUptoSaid : Prop := segmentClampsUptoRow.holds Try.pinned (OpenSpec.upto segmentClampsSpec)

/-- 'ferrymanlaw06.SegmentLesser', WHERE WHAT IT READS IS OF BULK AT MOST 1048576: true; the input reads as it did. -/
def segmentLesserUptoRow : OpenClaim := { program := "ytaobnbjkhgcmlaa", sum := "5b7514e1c137bbdc2580eefaf9076bd6c95cbc6ffe7626499858f14175d91afc", func := "ferryman/ferrymanlaw06.SegmentLesser", spec := "segmentLesser", unfollowed := true, recurses := true, apart := false, narrowed := true }
def SegmentLesserUptoSaid : Prop := segmentLesserUptoRow.holds Try.pinned (OpenSpec.upto segmentLesserSpec)

/-- 'ferrymanlaw06.SegmentRewrites', WHERE WHAT IT READS IS OF BULK AT MOST 1048576: true; the input reads as it did. -/
def segmentRewritesUptoRow : OpenClaim := { program := "ytaobnbjkhgcmlaa", sum := "5b7514e1c137bbdc2580eefaf9076bd6c95cbc6ffe7626499858f14175d91afc", func := "ferryman/ferrymanlaw06.SegmentRewrites", spec := "segmentRewrites", unfollowed := true, recurses := true, apart := false, narrowed := true }
def SegmentRewritesUptoSaid : Prop := segmentRewritesUptoRow.holds Try.pinned (OpenSpec.upto segmentRewritesSpec)

/-- 'ferrymanlaw06.SegmentBack', WHERE WHAT IT READS IS OF BULK AT MOST 1048576: true; the input reads as it did. -/
def segmentBackUptoRow : OpenClaim := { program := "ytaobnbjkhgcmlaa", sum := "5b7514e1c137bbdc2580eefaf9076bd6c95cbc6ffe7626499858f14175d91afc", func := "ferryman/ferrymanlaw06.SegmentBack", spec := "segmentBack", unfollowed := true, recurses := true, apart := false, narrowed := true }
def SegmentBackUptoSaid : Prop := segmentBackUptoRow.holds Try.pinned (OpenSpec.upto segmentBackSpec)

/-- 'ferrymanlaw06.SegmentNAT', WHERE WHAT IT READS IS OF BULK AT MOST 1048576: true; the input reads as it did. -/
def segmentNATUptoRow : OpenClaim := { program := "ytaobnbjkhgcmlaa", sum := "5b7514e1c137bbdc2580eefaf9076bd6c95cbc6ffe7626499858f14175d91afc", func := "ferryman/ferrymanlaw06.SegmentNAT", spec := "segmentNAT", unfollowed := true, recurses := true, apart := false, narrowed := true }
def SegmentNATUptoSaid : Prop := segmentNATUptoRow.holds Try.pinned (OpenSpec.upto segmentNATSpec)

end Rows
end Go.Proofs.Ytaobnbjkhgcmlaa
