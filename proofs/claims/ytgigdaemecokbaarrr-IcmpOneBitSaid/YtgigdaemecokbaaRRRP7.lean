/-
  An ICMP message as data: its cells, its bytes; no program in sight but for the cells.
-/
import Derived.Below
import Derived.Test.YtgigdaemecokbaaRRRMem
import Derived.Test.YtgigdaemecokbaaRRRPlainSum2
namespace Go.Proofs.YtgigdaemecokbaaRRR
open Go.RowKit

/-- a message's numbers and bytes -/
structure D7 where
  (ty code rest : Int) (bl : List Int)
def D7.cells (d : D7) (A : Option Addr) (c : Nat) : Array Value := #[.int .u8 d.ty, .int .u8 d.code, .int .u32 d.rest, .slice A d.bl.length c]
structure D7.ok (d : D7) : Prop where
  ty : 0 ≤ d.ty ∧ d.ty ≤ 255
  code : 0 ≤ d.code ∧ d.code ≤ 255
  rest : 0 ≤ d.rest ∧ d.rest < 4294967296
/-- the message reads so in a world -/
structure Rd7 (B : Nat) (w : World) (d : D7) (A : Option Addr) (c : Nat) : Prop where
  ok : d.ok
  body : By B w A d.bl.length c d.bl
theorem Rd7.below {B B' : Nat} {w w' : World} {d : D7} {A : Option Addr} {c : Nat} (h : Rd7 B w d A c) (hb : Below B' w w') (hB : B ≤ B') : Rd7 B w' d A c := ⟨h.ok, h.body.below hb hB⟩
theorem Rd7.more {B B' : Nat} {w : World} {d : D7} {A : Option Addr} {c : Nat} (h : Rd7 B w d A c) (hB : B ≤ B') : Rd7 B' w d A c := ⟨h.ok, h.body.more hB⟩

/-- the first eight bytes, with a checksum -/
def D7.first (d : D7) (s : Int) : List Int := [d.ty, d.code, s / 256, s % 256, d.rest / 16777216, d.rest / 65536 % 256, d.rest / 256 % 256, d.rest % 256]
def D7.sum (d : D7) (ps : List Int) : Int := 65535 - sumw (ps ++ d.first 0 ++ d.bl)
/-- the bytes behind a pseudo header -/
def D7.bytes (d : D7) (ps : List Int) : List Int := d.first (d.sum ps) ++ d.bl
def D7.err (d : D7) : Int := if 65527 < d.bl.length then 2 else 0
def D7.write (d : D7) (ps : List Int) : List Int := if 65527 < d.bl.length then [] else d.bytes ps
/-- the pseudo header of IPv6 -/
def pse6 (a b : List Int) (n p : Int) : List Int := a ++ b ++ [0, 0, n / 256, n % 256, 0, 0, 0, p]
theorem pse6_rng {a b : List Int} (ha : InB a) (hb : InB b) {n p : Int} (hn : 0 ≤ n ∧ n < 65536) (hp : 0 ≤ p ∧ p ≤ 255) : InB (pse6 a b n p) :=
  (ha.app hb).app fun x hx => by
    simp only [List.mem_cons, List.not_mem_nil, or_false] at hx
    omega
theorem D7.first_rng {d : D7} (hd : d.ok) {s : Int} (hs : 0 ≤ s ∧ s < 65536) : InB (d.first s) := by
  have h1 := hd.ty; have h2 := hd.code; have h3 := hd.rest
  intro x hx
  simp only [D7.first, List.mem_cons, List.not_mem_nil, or_false] at hx
  rcases hx with rfl | rfl | rfl | rfl | rfl | rfl | rfl | rfl
  all_goals omega
theorem D7.sum_rng {d : D7} (hd : d.ok) {ps : List Int} (hp : InB ps) (hb : InB d.bl) : 0 ≤ d.sum ps ∧ d.sum ps < 65536 := by
  have := sumw_rng _ ((hp.app (d.first_rng hd (s := 0) (by decide))).app hb)
  unfold D7.sum
  omega
theorem D7.bytes_rng {d : D7} (hd : d.ok) {ps : List Int} (hp : InB ps) (hb : InB d.bl) : InB (d.bytes ps) := (d.first_rng hd (d.sum_rng hd hp hb)).app hb
theorem D7.bytes_len (d : D7) (ps : List Int) : (d.bytes ps).length = 8 + d.bl.length := by unfold D7.bytes; rw [List.length_append, Nat.add_comm 8]; rw [show (d.first (d.sum ps)).length = 8 from rfl, Nat.add_comm]

/-- no message -/
def zero7 : D7 := ⟨0, 0, 0, []⟩
theorem zero7_ok : zero7.ok := ⟨by decide, by decide, by decide⟩
/-- the message of bytes behind a pseudo header -/
def of7 (l : List Int) : D7 := ⟨l.getD 0 0, l.getD 1 0, l.getD 4 0 * 16777216 + l.getD 5 0 * 65536 + l.getD 6 0 * 256 + l.getD 7 0, l.drop 8⟩
def parse7 (l ps : List Int) : D7 := if l.length < 8 ∨ 65535 < l.length ∨ sumw (ps ++ l) ≠ 65535 then zero7 else of7 l
def perr7 (l ps : List Int) : Int := if l.length < 8 then 70 else if 65535 < l.length then 2 else if sumw (ps ++ l) ≠ 65535 then 71 else 0
theorem getD_rng {l : List Int} (h : InB l) (k : Nat) : 0 ≤ l.getD k 0 ∧ l.getD k 0 ≤ 255 := by
  rw [List.getD_eq_getElem?_getD]
  by_cases hk : k < l.length
  · rw [List.getElem?_eq_getElem hk]; exact h.get hk
  · rw [List.getElem?_eq_none (by omega)]; exact ⟨by decide, by decide⟩
theorem of7_ok {l : List Int} (h : InB l) : (of7 l).ok := by
  have h0 := getD_rng h 0; have h1 := getD_rng h 1; have h4 := getD_rng h 4; have h5 := getD_rng h 5; have h6 := getD_rng h 6; have h7 := getD_rng h 7
  exact ⟨h0, h1, by simp only [of7]; omega⟩
theorem parse7_ok {l ps : List Int} (h : InB l) : (parse7 l ps).ok := by
  unfold parse7
  split
  · exact zero7_ok
  · exact of7_ok h

/-- what a message over IPv4, IPv6 is good for -/
def kind4 (t c : Int) : Int := if t = 8 then 1 else if t = 0 then 2 else if t = 3 then (if c = 4 then 4 else 3) else if t = 11 then 5 else if t = 12 then 6 else 0
def kind6 (t : Int) : Int := if t = 128 then 1 else if t = 129 then 2 else if t = 1 then 3 else if t = 2 then 4 else if t = 3 then 5 else if t = 4 then 6 else 0
end Go.Proofs.YtgigdaemecokbaaRRR
