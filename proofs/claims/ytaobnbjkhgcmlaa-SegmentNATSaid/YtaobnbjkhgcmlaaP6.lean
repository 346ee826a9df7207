/-
  UDP datagrams and TCP segments as data: their cells, their bytes; no program in sight but for the cells.
-/
import Derived.Below
import Derived.Test.YtaobnbjkhgcmlaaMem
import Derived.Test.YtaobnbjkhgcmlaaPlainSum2
namespace Go.Proofs.Ytaobnbjkhgcmlaa
open Go.RowKit

/-- a UDP datagram's numbers and bytes -/
structure DU where
  (src dst : Int) (bl : List Int)
def DU.cells (u : DU) (A : Option Addr) (c : Nat) : Array Value := #[.int .u16 u.src, .int .u16 u.dst, .slice A u.bl.length c]
structure DU.ok (u : DU) : Prop where
  src : 0 ≤ u.src ∧ u.src < 65536
  dst : 0 ≤ u.dst ∧ u.dst < 65536
structure RdU (B : Nat) (w : World) (u : DU) (A : Option Addr) (c : Nat) : Prop where
  ok : u.ok
  body : By B w A u.bl.length c u.bl
theorem RdU.below {B B' : Nat} {w w' : World} {u : DU} {A : Option Addr} {c : Nat} (h : RdU B w u A c) (hb : Below B' w w') (hB : B ≤ B') : RdU B w' u A c := ⟨h.ok, h.body.below hb hB⟩
theorem RdU.more {B B' : Nat} {w : World} {u : DU} {A : Option Addr} {c : Nat} (h : RdU B w u A c) (hB : B ≤ B') : RdU B' w u A c := ⟨h.ok, h.body.more hB⟩
/-- a segment's numbers and bytes -/
structure DT where
  (src dst seq ack flags window urgent : Int) (ol bl : List Int)
structure WT where
  (oA : Option Addr) (oc : Nat) (bA : Option Addr) (bc : Nat)
def DT.cells (t : DT) (p : WT) : Array Value := #[.int .u16 t.src, .int .u16 t.dst, .int .u32 t.seq, .int .u32 t.ack, .int .u8 t.flags, .int .u16 t.window, .int .u16 t.urgent, .slice p.oA t.ol.length p.oc, .slice p.bA t.bl.length p.bc]
structure DT.ok (t : DT) : Prop where
  src : 0 ≤ t.src ∧ t.src < 65536
  dst : 0 ≤ t.dst ∧ t.dst < 65536
  seq : 0 ≤ t.seq ∧ t.seq < 4294967296
  ack : 0 ≤ t.ack ∧ t.ack < 4294967296
  flags : 0 ≤ t.flags ∧ t.flags ≤ 255
  window : 0 ≤ t.window ∧ t.window < 65536
  urgent : 0 ≤ t.urgent ∧ t.urgent < 65536
structure RdT (B : Nat) (w : World) (t : DT) (p : WT) : Prop where
  ok : t.ok
  opt : By B w p.oA t.ol.length p.oc t.ol
  body : By B w p.bA t.bl.length p.bc t.bl
theorem RdT.below {B B' : Nat} {w w' : World} {t : DT} {p : WT} (h : RdT B w t p) (hb : Below B' w w') (hB : B ≤ B') : RdT B w' t p := ⟨h.ok, h.opt.below hb hB, h.body.below hb hB⟩
theorem RdT.more {B B' : Nat} {w : World} {t : DT} {p : WT} (h : RdT B w t p) (hB : B ≤ B') : RdT B' w t p := ⟨h.ok, h.opt.more hB, h.body.more hB⟩

/-- the pseudo header of IPv4 -/
def pse4 (a b : List Int) (n p : Int) : List Int := a ++ b ++ [0, p, n / 256, n % 256]
/-- the pseudo header of IPv6 -/
def pse6 (a b : List Int) (n p : Int) : List Int := a ++ b ++ [0, 0, n / 256, n % 256, 0, 0, 0, p]
theorem pse4_rng {a b : List Int} (ha : InB a) (hb : InB b) {n p : Int} (hn : 0 ≤ n ∧ n < 65536) (hp : 0 ≤ p ∧ p ≤ 255) : InB (pse4 a b n p) :=
  (ha.app hb).app fun x hx => by
    simp only [List.mem_cons, List.not_mem_nil, or_false] at hx
    omega
theorem pse6_rng {a b : List Int} (ha : InB a) (hb : InB b) {n p : Int} (hn : 0 ≤ n ∧ n < 65536) (hp : 0 ≤ p ∧ p ≤ 255) : InB (pse6 a b n p) :=
  (ha.app hb).app fun x hx => by
    simp only [List.mem_cons, List.not_mem_nil, or_false] at hx
    omega

/-- a UDP datagram's first eight bytes, with a checksum -/
def DU.first (u : DU) (s : Int) : List Int := [u.src / 256, u.src % 256, u.dst / 256, u.dst % 256, (8 + u.bl.length : Int) / 256, (8 + u.bl.length : Int) % 256, s / 256, s % 256]
def nz (s : Int) : Int := if s = 0 then 65535 else s
def DU.sum (u : DU) (ps : List Int) : Int := nz (65535 - sumw (ps ++ (u.first 0 ++ u.bl)))
def DU.bytes (u : DU) (ps : List Int) : List Int := u.first (u.sum ps) ++ u.bl
def DU.err (u : DU) : Int := if 65527 < u.bl.length then 2 else 0
def DU.write (u : DU) (ps : List Int) : List Int := if 65527 < u.bl.length then [] else u.bytes ps
theorem DU.first_rng {u : DU} (hu : u.ok) (h : u.bl.length ≤ 65527) {s : Int} (hs : 0 ≤ s ∧ s < 65536) : InB (u.first s) := by
  have h1 := hu.src; have h2 := hu.dst
  intro x hx
  simp only [DU.first, List.mem_cons, List.not_mem_nil, or_false] at hx
  rcases hx with rfl | rfl | rfl | rfl | rfl | rfl | rfl | rfl
  all_goals omega
theorem nz_rng {s : Int} (h : 0 ≤ s ∧ s < 65536) : 0 ≤ nz s ∧ nz s < 65536 := by unfold nz; split <;> omega
theorem DU.sum_rng {u : DU} (hu : u.ok) (h : u.bl.length ≤ 65527) {ps : List Int} (hp : InB ps) (hb : InB u.bl) : 0 ≤ u.sum ps ∧ u.sum ps < 65536 := by
  have := sumw_rng _ (hp.app ((DU.first_rng hu h (s := 0) (by decide)).app hb))
  exact nz_rng (by omega)

/-- may a segment be -/
def DT.check (t : DT) : Int := if 64 ≤ t.flags ∨ 40 < t.ol.length ∨ t.ol.length % 4 ≠ 0 then 63 else if 65515 - t.ol.length < t.bl.length then 2 else 0
def DT.first (t : DT) (s : Int) : List Int :=
  [t.src / 256, t.src % 256, t.dst / 256, t.dst % 256, t.seq / 16777216, t.seq / 65536 % 256, t.seq / 256 % 256, t.seq % 256, t.ack / 16777216, t.ack / 65536 % 256, t.ack / 256 % 256, t.ack % 256,
    (20 + t.ol.length : Int) / 4 * 16, t.flags, t.window / 256, t.window % 256, s / 256, s % 256, t.urgent / 256, t.urgent % 256]
def DT.sum (t : DT) (ps : List Int) : Int := 65535 - sumw (ps ++ (t.first 0 ++ t.ol ++ t.bl))
def DT.bytes (t : DT) (ps : List Int) : List Int := t.first (t.sum ps) ++ t.ol ++ t.bl
def DT.write (t : DT) (ps : List Int) : List Int := if t.check = 0 then t.bytes ps else []

def sameU (u v : DU) : Bool := decide (u.src = v.src ∧ u.dst = v.dst ∧ u.bl = v.bl)
def sameT (t s : DT) : Bool := decide (t.src = s.src ∧ t.dst = s.dst ∧ t.seq = s.seq ∧ t.ack = s.ack ∧ t.flags = s.flags ∧ t.window = s.window ∧ t.urgent = s.urgent ∧ t.ol = s.ol ∧ t.bl = s.bl)
theorem sameU_self (u : DU) : sameU u u = true := by simp [sameU]
theorem sameT_self (t : DT) : sameT t t = true := by simp [sameT]
end Go.Proofs.Ytaobnbjkhgcmlaa
