/-
  No cell of these rows narrows 'for every input' (looked for: loops, veiled, ifaces, maps, wideKeys, modest, calm, conditions, laid).
  DERIVED. THE GIVEN ROWS OF THIS SEAT. 5 by the template 'for every input the law returns true; each argument reads behind the call as it read before'; 0 by the template 'total and deterministic' (their statements: YtndmmkadceobjaaTotals.lean).
  GIVEN WITH THE SEED: the statements are not yours to turn. If you find one false, say at which input.
  Laid BY PROGRAM, IN A SANDBOX (cutbox-rows.mjs): the forced cells as the released guide's own fill.sh prints them over the translation 2a68e8b148b47d10… (all of the seat's roots in one cut). By AI agents, Wed Nov 11 2026. No macro, syntax, notation, axiom, sorry.
-/
import Derived.Test.YtndmmkadceobjaaChecked
import GoSem.Claim
import GoSem.ClaimJoined
import GoSem.ClaimMapViews
import Derived.JoinedTies
import Derived.KernelRfl
namespace Go.Proofs.Ytndmmkadceobjaa
/- THE CELL 'sum', in the pinned program and in every row, IS THE sha256 OF THE DUMP (.gsa) THAT YtndmmkadceobjaaProg.lean LOADS. Nothing in Lean hashes anything: it is a label: what it is worth is what the hold of that sum in a sandbox is worth. -/
noncomputable def Try.pinned : Pinned := { name := "ytndmmkadceobjaa", sum := "2a68e8b148b47d10287ba98fb01fd5837130af06c04c4802833377947a94e6b1", checked := Try.checked }
namespace Rows
def none {H : Type} : Left H := { results := [], args := [] }

/-- 'ferrymanlaw05.Ipv6Writes': WHATEVER THE INPUT: true; the input reads as it did. -/
def ipv6WritesSpec : ChangeSpec := { name := "ipv6Writes", fn := fun _ => fun
  | [d] => { results := [.lit (.bool true)], args := [d] }
  | _ => none }
def ipv6WritesRow : OpenClaim := { program := "ytndmmkadceobjaa", sum := "2a68e8b148b47d10287ba98fb01fd5837130af06c04c4802833377947a94e6b1", func := "ferryman/ferrymanlaw05.Ipv6Writes", spec := "ipv6Writes", unfollowed := true, recurses := true, apart := false }
def Ipv6WritesSaid : Prop := ipv6WritesRow.holds Try.pinned (OpenSpec.ofChange ipv6WritesSpec)

/-- ITS FALSE NEIGHBOUR: 'it returns false'. Refute it at one input. -/
def ipv6WritesWrong : ChangeSpec := { name := "ipv6Writes", fn := fun _ => fun
  | [d] => { results := [.lit (.bool false)], args := [d] }
  | _ => none }
def Ipv6WritesWrongFalsely : Prop := ipv6WritesRow.holds Try.pinned (OpenSpec.ofChange ipv6WritesWrong)

/-- 'ferrymanlaw05.Ipv6Bytes': WHATEVER THE INPUT: true; the input reads as it did. -/
def ipv6BytesSpec : ChangeSpec := { name := "ipv6Bytes", fn := fun _ => fun
  | [d] => { results := [.lit (.bool true)], args := [d] }
  | _ => none }
def ipv6BytesRow : OpenClaim := { program := "ytndmmkadceobjaa", sum := "2a68e8b148b47d10287ba98fb01fd5837130af06c04c4802833377947a94e6b1", func := "ferryman/ferrymanlaw05.Ipv6Bytes", spec := "ipv6Bytes", unfollowed := true, recurses := true, apart := false }
def Ipv6BytesSaid : Prop := ipv6BytesRow.holds Try.pinned (OpenSpec.ofChange ipv6BytesSpec)

/-- ITS FALSE NEIGHBOUR: 'it returns false'. Refute it at one input. -/
def ipv6BytesWrong : ChangeSpec := { name := "ipv6Bytes", fn := fun _ => fun
  | [d] => { results := [.lit (.bool false)], args := [d] }
  | _ => none }
def Ipv6BytesWrongFalsely : Prop := ipv6BytesRow.holds Try.pinned (OpenSpec.ofChange ipv6BytesWrong)

/-- 'ferrymanlaw05.Ipv6Parses': WHATEVER THE INPUT: true; the input reads as it did. -/
def ipv6ParsesSpec : ChangeSpec := { name := "ipv6Parses", fn := fun _ => fun
  | [d] => { results := [.lit (.bool true)], args := [d] }
  | _ => none }
def ipv6ParsesRow : OpenClaim := { program := "ytndmmkadceobjaa", sum := "2a68e8b148b47d10287ba98fb01fd5837130af06c04c4802833377947a94e6b1", func := "ferryman/ferrymanlaw05.Ipv6Parses", spec := "ipv6Parses", unfollowed := true, recurses := true, apart := false }
def Ipv6ParsesSaid : Prop := ipv6ParsesRow.holds Try.pinned (OpenSpec.ofChange ipv6ParsesSpec)

/-- ITS FALSE NEIGHBOUR: 'it returns false'. Refute it at one input. -/
def ipv6ParsesWrong : ChangeSpec := { name := "ipv6Parses", fn := fun _ => fun
  | [d] => { results := [.lit (.bool false)], args := [d] }
  | _ => none }
def Ipv6ParsesWrongFalsely : Prop := ipv6ParsesRow.holds Try.pinned (OpenSpec.ofChange ipv6ParsesWrong)

/-- 'ferrymanlaw05.Ipv6Cut': WHATEVER THE INPUT: true; the input reads as it did. -/
def ipv6CutSpec : ChangeSpec := { name := "ipv6Cut", fn := fun _ => fun
  | [d1, d2] => { results := [.lit (.bool true)], args := [d1, d2] }
  | _ => none }
def ipv6CutRow : OpenClaim := { program := "ytndmmkadceobjaa", sum := "2a68e8b148b47d10287ba98fb01fd5837130af06c04c4802833377947a94e6b1", func := "ferryman/ferrymanlaw05.Ipv6Cut", spec := "ipv6Cut", unfollowed := true, recurses := true, apart := false }
def Ipv6CutSaid : Prop := ipv6CutRow.holds Try.pinned (OpenSpec.ofChange ipv6CutSpec)

/-- ITS FALSE NEIGHBOUR: 'it returns false'. Refute it at one input. -/
def ipv6CutWrong : ChangeSpec := { name := "ipv6Cut", fn := fun _ => fun
  | [d1, d2] => { results := [.lit (.bool false)], args := [d1, d2] }
  | _ => none }
def Ipv6CutWrongFalsely : Prop := ipv6CutRow.holds Try.pinned (OpenSpec.ofChange ipv6CutWrong)

/-- 'ferrymanlaw05.Ipv6Back': WHATEVER THE INPUT: true; the input reads as it did. -/
def ipv6BackSpec : ChangeSpec := { name := "ipv6Back", fn := fun _ => fun
  | [d1, d2] => { results := [.lit (.bool true)], args := [d1, d2] }
  | _ => none }
def ipv6BackRow : OpenClaim := { program := "ytndmmkadceobjaa", sum := "2a68e8b148b47d10287ba98fb01fd5837130af06c04c4802833377947a94e6b1", func := "ferryman/ferrymanlaw05.Ipv6Back", spec := "ipv6Back", unfollowed := true, recurses := true, apart := false }
def Ipv6BackSaid : Prop := ipv6BackRow.holds Try.pinned (OpenSpec.ofChange ipv6BackSpec)

/-- ITS FALSE NEIGHBOUR: 'it returns false'. Refute it at one input. -/
def ipv6BackWrong : ChangeSpec := { name := "ipv6Back", fn := fun _ => fun
  | [d1, d2] => { results := [.lit (.bool false)], args := [d1, d2] }
  | _ => none }
def Ipv6BackWrongFalsely : Prop := ipv6BackRow.holds Try.pinned (OpenSpec.ofChange ipv6BackWrong)

/- THE SECOND FORM. 'bulk': how many values and letters a reading holds, each counted each time it is reached (what is shared counts as often as it is met; a slice's spare places count too). A statement '..UptoSaid' is the law's where the arguments, and the package variables that the reading takes, are together of bulk at most 1048576: NARROWER than '..Said'. Prove '..Said' where nothing that the law and all that it calls make is longer than what came in: it says more and counts as full. Else prove '..UptoSaid'. A law counts once. -/
mutual
def uptoBulk {H : Type} : DataW H → Nat
  | .lit (.string bytes) => bytes.length + 1
  | .lit _ => 1
  | .nil => 1
  | .ptr d => uptoBulk d + 1
  | .slice elems spare => uptoBulkAll elems + uptoBulkAll spare + 1
  | .agg parts => uptoBulkAll parts + 1
  | .iface _ d => uptoBulk d + 1
  | .map entries => uptoBulkEntries entries + 1
  | .held _ => 1
def uptoBulkAll {H : Type} : List (DataW H) → Nat
  | [] => 0
  | d :: r => uptoBulk d + uptoBulkAll r
def uptoBulkEntries {H : Type} : List (Lit × DataW H) → Nat
  | [] => 0
  | x :: r => uptoBulkEntry x + uptoBulkEntries r
def uptoBulkEntry {H : Type} : Lit × DataW H → Nat
  | (.string bytes, d) => bytes.length + uptoBulk d + 1
  | (_, d) => uptoBulk d + 1
 end
def uptoSmall : (H : Type) → List (DataW H) → Bool := fun _ ds => decide (uptoBulkAll ds ≤ 1048576)
def OpenSpec.upto (s : _root_.Go.ChangeSpec) : _root_.Go.OpenSpec := { _root_.Go.OpenSpec.ofChange s with cond := some uptoSmall }

/-- 'ferrymanlaw05.Ipv6Writes', WHERE WHAT IT READS IS OF BULK AT MOST 1048576: true; the input reads as it did. -/
def ipv6WritesUptoRow : OpenClaim := { program := "ytndmmkadceobjaa", sum := "2a68e8b148b47d10287ba98fb01fd5837130af06c04c4802833377947a94e6b1", func := "ferryman/ferrymanlaw05.Ipv6Writes", spec := "ipv6Writes", unfollowed := true, recurses := true, apart := false, narrowed := true }
def Ipv6WritesUptoSaid : Prop := ipv6WritesUptoRow.holds Try.pinned (OpenSpec.upto ipv6WritesSpec)

/-- 'ferrymanlaw05.Ipv6Bytes', WHERE WHAT IT READS IS OF BULK AT MOST 1048576: true; the input reads as it did. -/
def ipv6BytesUptoRow : OpenClaim := { program := "ytndmmkadceobjaa", sum := "2a68e8b148b47d10287ba98fb01fd5837130af06c04c4802833377947a94e6b1", func := "ferryman/ferrymanlaw05.Ipv6Bytes", spec := "ipv6Bytes", unfollowed := true, recurses := true, apart := false, narrowed := true }
def Ipv6BytesUptoSaid : Prop := ipv6BytesUptoRow.holds Try.pinned (OpenSpec.upto ipv6BytesSpec)

/-- 'ferrymanlaw05.Ipv6Parses', WHERE WHAT IT READS IS OF BULK AT MOST 1048576: true; the input reads as it did. -/
def ipv6ParsesUptoRow : OpenClaim := { program := "ytndmmkadceobjaa", sum := "2a68e8b148b47d10287ba98fb01fd5837130af06c04c4802833377947a94e6b1", func := "ferryman/ferrymanlaw05.Ipv6Parses", spec := "ipv6Parses", unfollowed := true, recurses := true, apart := false, narrowed := true }
def Ipv6ParsesUptoSaid : Prop := ipv6ParsesUptoRow.holds Try.pinned (OpenSpec.upto ipv6ParsesSpec)

/-- 'ferrymanlaw05.Ipv6Cut', WHERE WHAT IT READS IS OF BULK AT MOST 1048576: true; the input reads as it did. -/
def ipv6CutUptoRow : OpenClaim := { program := "ytndmmkadceobjaa", sum := "2a68e8b148b47d10287ba98fb01fd5837130af06c04c4802833377947a94e6b1", func := "ferryman/ferrymanlaw05.Ipv6Cut", spec := "ipv6Cut", unfollowed := true, recurses := true, apart := false, narrowed := true }
def Ipv6CutUptoSaid : Prop := ipv6CutUptoRow.holds Try.pinned (OpenSpec.upto ipv6CutSpec)

/-- 'ferrymanlaw05.Ipv6Back', WHERE WHAT IT READS IS OF BULK AT MOST 1048576: true; the input reads as it did. -/
def ipv6BackUptoRow : OpenClaim := { program := "ytndmmkadceobjaa", sum := "2a68e8b148b47d10287ba98fb01fd5837130af06c04c4802833377947a94e6b1", func := "ferryman/ferrymanlaw05.Ipv6Back", spec := "ipv6Back", unfollowed := true, recurses := true, apart := false, narrowed := true }
def Ipv6BackUptoSaid : Prop := ipv6BackUptoRow.holds Try.pinned (OpenSpec.upto ipv6BackSpec)

end Rows
end Go.Proofs.Ytndmmkadceobjaa
