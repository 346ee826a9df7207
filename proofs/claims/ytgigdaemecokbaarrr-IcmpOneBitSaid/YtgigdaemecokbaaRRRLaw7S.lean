/-
  The walk of IcmpOneBit as its row wants it.
-/
import Derived.Test.YtgigdaemecokbaaRRRLaw7D
namespace Go.Proofs.YtgigdaemecokbaaRRR
open Go.RowKit Go.Shelf

theorem bit_row (a b : List Int) (d : D7) (A : Option Addr) (c : Nat) (bit : Int) (w : World) (ha : a.length = 16) (ra : InB a) (hb : b.length = 16) (rb : InB b) (hR : Rd7 w.heap.size w d A c) (h1 : 0 ≤ bit) (h2 : bit < 4294967296) :
    Calls Try.prog 5 #[.agg (u8s a).toArray, .agg (u8s b).toArray, .agg (d.cells A c), .int .u32 bit] w fun e w' => e = .returned (.bool true) ∧ Below w.heap.size w w' := bit_walk a b ha ra hb rb d A c bit ⟨h1, h2⟩ w hR
end Go.Proofs.YtgigdaemecokbaaRRR
