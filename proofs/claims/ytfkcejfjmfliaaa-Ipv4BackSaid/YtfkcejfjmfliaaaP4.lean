/-
  An IPv4 datagram as data: its cells, when it may be, its bytes; no program in sight but for the cells.
-/
import Derived.Below
import Derived.Test.YtfkcejfjmfliaaaMem
import Derived.Test.YtfkcejfjmfliaaaPlainSum2
namespace Go.Proofs.Ytfkcejfjmfliaaa
open Go.RowKit

/-- a datagram's numbers and bytes -/
structure D4 where
  (tos id : Int) (df mf : Bool) (off ttl proto s0 s1 s2 s3 d0 d1 d2 d3 : Int) (ol bl : List Int)
/-- where its options and its body lie -/
structure W4 where
  (oA : Option Addr) (oc : Nat) (bA : Option Addr) (bc : Nat)
def D4.cells (d : D4) (p : W4) : Array Value :=
  #[.int .u8 d.tos, .int .u16 d.id, .bool d.df, .bool d.mf, .int .i64 d.off, .int .u8 d.ttl, .int .u8 d.proto, .int .u8 d.s0, .int .u8 d.s1, .int .u8 d.s2, .int .u8 d.s3, .int .u8 d.d0, .int .u8 d.d1, .int .u8 d.d2, .int .u8 d.d3,
    .slice p.oA d.ol.length p.oc, .slice p.bA d.bl.length p.bc]
def D4.src (d : D4) : List Int := [d.s0, d.s1, d.s2, d.s3]
def D4.dst (d : D4) : List Int := [d.d0, d.d1, d.d2, d.d3]
structure D4.ok (d : D4) : Prop where
  tos : 0 ≤ d.tos ∧ d.tos ≤ 255
  id : 0 ≤ d.id ∧ d.id < 65536
  off : -9223372036854775808 ≤ d.off ∧ d.off ≤ 9223372036854775807
  ttl : 0 ≤ d.ttl ∧ d.ttl ≤ 255
  proto : 0 ≤ d.proto ∧ d.proto ≤ 255
  src : InB d.src
  dst : InB d.dst
/-- the datagram reads so in a world -/
structure Rd4 (B : Nat) (w : World) (d : D4) (p : W4) : Prop where
  ok : d.ok
  opt : By B w p.oA d.ol.length p.oc d.ol
  body : By B w p.bA d.bl.length p.bc d.bl
theorem Rd4.below {B B' : Nat} {w w' : World} {d : D4} {p : W4} (h : Rd4 B w d p) (hb : Below B' w w') (hB : B ≤ B') : Rd4 B w' d p := ⟨h.ok, h.opt.below hb hB, h.body.below hb hB⟩
theorem Rd4.more {B B' : Nat} {w : World} {d : D4} {p : W4} (h : Rd4 B w d p) (hB : B ≤ B') : Rd4 B' w d p := ⟨h.ok, h.opt.more hB, h.body.more hB⟩

/-- may it be: 0, or the error's number -/
def D4.check (d : D4) : Int :=
  if d.off < 0 ∨ d.off > 8191 ∨ d.ol.length > 40 ∨ d.ol.length % 4 ≠ 0 then 45 else if d.bl.length > 65515 - d.ol.length then 2 else 0
theorem D4.check_cases (d : D4) : d.check = 0 ∨ d.check = 45 ∨ d.check = 2 := by unfold D4.check; split <;> (try split) <;> simp
def D4.hl (d : D4) : Nat := 20 + d.ol.length
def D4.offw (d : D4) : Int := d.off + (if d.df then 16384 else 0) + (if d.mf then 8192 else 0)
/-- the first twenty bytes -/
def D4.first (d : D4) (s : Int) : List Int :=
  [64 + (d.hl : Int) / 4, d.tos, (d.hl + d.bl.length : Int) / 256, (d.hl + d.bl.length : Int) % 256, d.id / 256, d.id % 256, d.offw / 256, d.offw % 256, d.ttl, d.proto, s / 256, s % 256, d.s0, d.s1, d.s2, d.s3, d.d0, d.d1, d.d2, d.d3]
def D4.sum (d : D4) : Int := 65535 - sumw (d.first 0 ++ d.ol)
/-- the bytes -/
def D4.bytes (d : D4) : List Int := d.first d.sum ++ d.ol ++ d.bl
/-- what Write answers -/
def D4.write (d : D4) : List Int := if d.check = 0 then d.bytes else []
theorem D4.ok_of_check {d : D4} (h : d.check = 0) : (0 ≤ d.off ∧ d.off ≤ 8191) ∧ d.ol.length ≤ 40 ∧ d.ol.length % 4 = 0 ∧ d.bl.length ≤ 65515 - d.ol.length := by
  unfold D4.check at h
  split at h
  · cases h
  · split at h
    · cases h
    · omega
theorem D4.first_rng {d : D4} (hd : d.ok) (h : d.check = 0) {s : Int} (hs : 0 ≤ s ∧ s < 65536) : InB (d.first s) := by
  obtain ⟨h1, h2, h3, h4⟩ := d.ok_of_check h
  have h5 := hd.tos; have h6 := hd.id; have h7 := hd.ttl; have h8 := hd.proto
  have ho : 0 ≤ d.offw ∧ d.offw < 65536 := by unfold D4.offw; split <;> split <;> omega
  have hs1 := hd.src
  have hd1 := hd.dst
  intro x hx
  simp only [D4.first, D4.hl, List.mem_cons, List.not_mem_nil, or_false] at hx
  rcases hx with rfl | rfl | rfl | rfl | rfl | rfl | rfl | rfl | rfl | rfl | rfl | rfl | rfl | rfl | rfl | rfl | rfl | rfl | rfl | rfl
  all_goals first
    | omega
    | (refine hs1 _ ?_; simp [D4.src]; done)
    | (refine hd1 _ ?_; simp [D4.dst]; done)
end Go.Proofs.Ytfkcejfjmfliaaa
