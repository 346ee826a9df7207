/-
  The walks of chapter 7 as their rows want them.
-/
import Derived.Test.YtgigdaemecokbaaRRRLaw7B
import Derived.Test.YtgigdaemecokbaaRRRLaw7C
namespace Go.Proofs.YtgigdaemecokbaaRRR
open Go.RowKit Go.Shelf

theorem kinds_row (d : D7) (A : Option Addr) (c : Nat) (o : D7) (A2 : Option Addr) (c2 : Nat) (id : Int) (w : World) (hR : Rd7 w.heap.size w d A c) (hO : Rd7 w.heap.size w o A2 c2) (h1 : 0 ≤ id) (h2 : id < 65536) :
    Calls Try.prog 3 #[.agg (d.cells A c), .agg (o.cells A2 c2), .int .u16 id] w fun e w' => e = .returned (.bool true) ∧ Below w.heap.size w w' := kinds_walk d o A A2 c c2 id ⟨h1, h2⟩ w hR hO
theorem back_row (a b : List Int) (d : D7) (A : Option Addr) (c : Nat) (w : World) (ha : a.length = 16) (ra : InB a) (hb : b.length = 16) (rb : InB b) (hR : Rd7 w.heap.size w d A c) :
    Calls Try.prog 4 #[.agg (u8s a).toArray, .agg (u8s b).toArray, .agg (d.cells A c)] w fun e w' => e = .returned (.bool true) ∧ Below w.heap.size w w' := back_walk a b ha ra hb rb d A c w hR
end Go.Proofs.YtgigdaemecokbaaRRR
