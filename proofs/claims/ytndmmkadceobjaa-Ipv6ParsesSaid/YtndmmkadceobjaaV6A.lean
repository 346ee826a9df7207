/-
  An IPv6 datagram as data: its cells, when it may be, its bytes; no program in sight but for the cells.
-/
import Derived.Below
import Derived.Test.YtndmmkadceobjaaMem
import Derived.Test.YtndmmkadceobjaaOpt
namespace Go.Proofs.Ytndmmkadceobjaa
open Go.RowKit

/-- a datagram's numbers and bytes -/
structure D6 where
  (cls lab hop : Int) (src dst : List Int) (hs : List (Int × List Int)) (frag : Bool) (id off : Int) (more : Bool) (pro : Int) (bl : List Int)
/-- where its heads and its body lie -/
structure W6 where
  (hA : Option Addr) (hc : Nat) (ps : List Kd) (bA : Option Addr) (bc : Nat)
def l16 (s : List Int) : List Int := [s.getD 0 0, s.getD 1 0, s.getD 2 0, s.getD 3 0, s.getD 4 0, s.getD 5 0, s.getD 6 0, s.getD 7 0, s.getD 8 0, s.getD 9 0, s.getD 10 0, s.getD 11 0, s.getD 12 0, s.getD 13 0, s.getD 14 0, s.getD 15 0]
theorem l16_eq {s : List Int} (h : s.length = 16) : l16 s = s := by
  obtain ⟨x0, x1, x2, x3, x4, x5, x6, x7, x8, x9, x10, x11, x12, x13, x14, x15, rfl⟩ := len16 h
  rfl
def D6.cells (d : D6) (p : W6) : Array Value :=
  #[.int .u8 d.cls, .int .u32 d.lab, .int .u8 d.hop,
    .int .u8 (d.src.getD 0 0), .int .u8 (d.src.getD 1 0), .int .u8 (d.src.getD 2 0), .int .u8 (d.src.getD 3 0), .int .u8 (d.src.getD 4 0), .int .u8 (d.src.getD 5 0), .int .u8 (d.src.getD 6 0), .int .u8 (d.src.getD 7 0), .int .u8 (d.src.getD 8 0), .int .u8 (d.src.getD 9 0), .int .u8 (d.src.getD 10 0), .int .u8 (d.src.getD 11 0), .int .u8 (d.src.getD 12 0), .int .u8 (d.src.getD 13 0), .int .u8 (d.src.getD 14 0), .int .u8 (d.src.getD 15 0),
    .int .u8 (d.dst.getD 0 0), .int .u8 (d.dst.getD 1 0), .int .u8 (d.dst.getD 2 0), .int .u8 (d.dst.getD 3 0), .int .u8 (d.dst.getD 4 0), .int .u8 (d.dst.getD 5 0), .int .u8 (d.dst.getD 6 0), .int .u8 (d.dst.getD 7 0), .int .u8 (d.dst.getD 8 0), .int .u8 (d.dst.getD 9 0), .int .u8 (d.dst.getD 10 0), .int .u8 (d.dst.getD 11 0), .int .u8 (d.dst.getD 12 0), .int .u8 (d.dst.getD 13 0), .int .u8 (d.dst.getD 14 0), .int .u8 (d.dst.getD 15 0),
    .slice p.hA d.hs.length p.hc, .bool d.frag, .int .u32 d.id, .int .i64 d.off, .bool d.more, .int .u8 d.pro, .slice p.bA d.bl.length p.bc]
theorem D6.cells_one (d : D6) (p : W6) : (d.cells p).all (·.oneCell') = true := by simp [D6.cells, Value.oneCell']
structure D6.ok (d : D6) : Prop where
  cls : 0 ≤ d.cls ∧ d.cls ≤ 255
  lab : 0 ≤ d.lab ∧ d.lab < 4294967296
  hop : 0 ≤ d.hop ∧ d.hop ≤ 255
  srcL : d.src.length = 16
  src : InB d.src
  dstL : d.dst.length = 16
  dst : InB d.dst
  id : 0 ≤ d.id ∧ d.id < 4294967296
  off : -9223372036854775808 ≤ d.off ∧ d.off ≤ 9223372036854775807
  pro : 0 ≤ d.pro ∧ d.pro ≤ 255
/-- the datagram reads so in a world -/
structure Rd6 (B : Nat) (w : World) (d : D6) (p : W6) : Prop where
  ok : d.ok
  hl : kdL p.ps = d.hs
  hd : Kds B w p.hA d.hs.length p.hc p.ps
  body : By B w p.bA d.bl.length p.bc d.bl
theorem Rd6.below {B B' : Nat} {w w' : World} {d : D6} {p : W6} (h : Rd6 B w d p) (hb : Below B' w w') (hB : B ≤ B') : Rd6 B w' d p := ⟨h.ok, h.hl, h.hd.below hb hB, h.body.below hb hB⟩
theorem Rd6.more {B B' : Nat} {w : World} {d : D6} {p : W6} (h : Rd6 B w d p) (hB : B ≤ B') : Rd6 B' w d p := ⟨h.ok, h.hl, h.hd.more hB, h.body.more hB⟩

/-- the kinds of a head -/
def extra6 (k : Int) : Bool := decide (k = 0 ∨ k = 43 ∨ k = 60)
def badH (i : Nat) (h : Int × List Int) : Bool := !extra6 h.1 || (decide (h.1 = 0) && decide (0 < i)) || decide (h.2.length % 8 ≠ 6) || decide (2046 < h.2.length)
def okH : Nat → List (Int × List Int) → Bool
  | _, [] => true
  | i, h :: t => !badH i h && okH (i + 1) t
def D6.tail (d : D6) : Bool := if d.frag then decide (0 ≤ d.off ∧ d.off ≤ 8191) else decide (d.id = 0 ∧ d.off = 0 ∧ d.more = false ∧ extra6 d.pro = false ∧ d.pro ≠ 44)
def D6.right (d : D6) : Bool := decide (d.lab < 1048576) && (decide (d.hs.length ≤ 8) && (okH 0 d.hs && d.tail))
def hsz : List (Int × List Int) → Nat
  | [] => 0
  | h :: t => 2 + h.2.length + hsz t
theorem hsz_append (a b : List (Int × List Int)) : hsz (a ++ b) = hsz a + hsz b := by
  induction a with
  | nil => simp [hsz]
  | cons h t ih => simp only [List.cons_append, hsz, ih]; omega
def D6.ahead (d : D6) : Nat := 40 + hsz d.hs + (if d.frag then 8 else 0)
/-- may it be: 0, or the error's number -/
def D6.check (d : D6) : Int := if d.right = false then 54 else if 65535 < d.bl.length + (d.ahead - 40) then 2 else 0
theorem D6.check_cases (d : D6) : d.check = 0 ∨ d.check = 54 ∨ d.check = 2 := by unfold D6.check; split <;> (try split) <;> simp
theorem badH_false {i : Nat} {h : Int × List Int} (hb : badH i h = false) : (h.1 = 0 ∨ h.1 = 43 ∨ h.1 = 60) ∧ (h.1 = 0 → i = 0) ∧ h.2.length % 8 = 6 ∧ h.2.length ≤ 2046 := by
  simp only [badH, extra6, Bool.or_eq_false_iff, Bool.not_eq_false', decide_eq_true_eq, decide_eq_false_iff_not, Bool.and_eq_false_iff, ne_eq] at hb
  obtain ⟨⟨⟨h1, h2⟩, h3⟩, h4⟩ := hb
  refine ⟨h1, fun h0 => ?_, by omega, by omega⟩
  rcases h2 with h2 | h2
  · exact absurd h0 h2
  · omega
theorem okH_hsz : ∀ (i : Nat) (hs : List (Int × List Int)), okH i hs = true → hsz hs ≤ 2048 * hs.length
  | _, [], _ => Nat.le_refl _
  | i, h :: t, ho => by
    simp only [okH, Bool.and_eq_true, Bool.not_eq_true'] at ho
    have h1 := badH_false ho.1
    have h2 := okH_hsz (i + 1) t ho.2
    simp only [hsz, List.length_cons]
    omega
theorem D6.right_true {d : D6} (h : d.right = true) : d.lab < 1048576 ∧ d.hs.length ≤ 8 ∧ okH 0 d.hs = true ∧ d.tail = true := by
  simp only [D6.right, Bool.and_eq_true, decide_eq_true_eq] at h
  exact h
theorem D6.ahead_le {d : D6} (h : d.right = true) : hsz d.hs ≤ 16384 ∧ d.ahead ≤ 16432 ∧ 40 ≤ d.ahead := by
  obtain ⟨_, h2, h3, _⟩ := d.right_true h
  have := okH_hsz 0 d.hs h3
  unfold D6.ahead
  refine ⟨by omega, ?_, by omega⟩
  split <;> omega
theorem D6.ok_of_check {d : D6} (h : d.check = 0) : d.right = true ∧ d.bl.length + (d.ahead - 40) ≤ 65535 := by
  unfold D6.check at h
  split at h
  · cases h
  · split at h
    · cases h
    · rename_i h1 h2
      exact ⟨by simpa using h1, by omega⟩

/-- the kind of what stands ahead of a row of heads -/
def nxt (last : Int) : List (Int × List Int) → Int
  | [] => last
  | h :: _ => h.1
/-- the heads' bytes -/
def hb (last : Int) : List (Int × List Int) → List Int
  | [] => []
  | h :: t => nxt last t :: (((h.2.length : Int) + 2) / 8 - 1) :: (h.2 ++ hb last t)
theorem hb_len (last : Int) : ∀ hs, (hb last hs).length = hsz hs
  | [] => rfl
  | h :: t => by simp only [hb, hsz, List.length_cons, List.length_append, hb_len last t]; omega
def D6.last (d : D6) : Int := if d.frag then 44 else d.pro
def D6.fb (d : D6) : List Int := if d.frag then [d.pro, 0, d.off / 32, d.off % 32 * 8 + (if d.more then 1 else 0), d.id / 16777216, d.id / 65536 % 256, d.id / 256 % 256, d.id % 256] else []
theorem D6.fb_len (d : D6) : d.fb.length = if d.frag then 8 else 0 := by unfold D6.fb; split <;> rfl
def D6.plen (d : D6) : Nat := d.bl.length + (d.ahead - 40)
def D6.first (d : D6) : List Int := [96 + d.cls / 16, d.cls % 16 * 16 + d.lab / 65536, d.lab / 256 % 256, d.lab % 256, (d.plen : Int) / 256, (d.plen : Int) % 256, nxt d.last d.hs, d.hop]
def D6.pre (d : D6) : List Int := d.first ++ d.src ++ d.dst
/-- the bytes -/
def D6.bytes (d : D6) : List Int := d.pre ++ hb d.last d.hs ++ d.fb ++ d.bl
/-- what Write answers -/
def D6.write (d : D6) : List Int := if d.check = 0 then d.bytes else []
theorem D6.pre_len (d : D6) (h : d.ok) : d.pre.length = 40 := by simp [D6.pre, D6.first, h.srcL, h.dstL]
theorem D6.bytes_len (d : D6) (h : d.ok) : d.bytes.length = d.ahead + d.bl.length := by
  simp only [D6.bytes, List.length_append, d.pre_len h, hb_len, d.fb_len, D6.ahead]
theorem nxt_rng {last : Int} (h : 0 ≤ last ∧ last ≤ 255) {hs : List (Int × List Int)} (hh : ∀ x ∈ hs, 0 ≤ x.1 ∧ x.1 ≤ 255 ∧ InB x.2) : 0 ≤ nxt last hs ∧ nxt last hs ≤ 255 := by
  cases hs with
  | nil => exact h
  | cons x t => have := hh x List.mem_cons_self; exact ⟨this.1, this.2.1⟩
theorem hb_rng {last : Int} (h : 0 ≤ last ∧ last ≤ 255) : ∀ {i : Nat} {hs : List (Int × List Int)}, okH i hs = true → (∀ x ∈ hs, 0 ≤ x.1 ∧ x.1 ≤ 255 ∧ InB x.2) → InB (hb last hs)
  | _, [], _, _ => InB.nil
  | i, x :: t, ho, hh => by
    simp only [okH, Bool.and_eq_true, Bool.not_eq_true'] at ho
    have h1 := badH_false ho.1
    have hr := hb_rng h ho.2 (fun y hy => hh y (List.mem_cons_of_mem _ hy))
    have hn := nxt_rng h (fun y hy => hh y (List.mem_cons_of_mem _ hy))
    intro y hy
    simp only [hb, List.mem_cons, List.mem_append] at hy
    rcases hy with rfl | rfl | hy | hy
    · exact hn
    · omega
    · exact (hh x List.mem_cons_self).2.2 y hy
    · exact hr y hy
theorem Kds.rng {B : Nat} {w : World} {A : Option Addr} {n c : Nat} {ps : List Kd} (h : Kds B w A n c ps) : ∀ x ∈ kdL ps, 0 ≤ x.1 ∧ x.1 ≤ 255 ∧ InB x.2 := by
  intro x hx
  obtain ⟨p, hp, rfl⟩ := List.mem_map.1 hx
  obtain ⟨k, hk⟩ := List.mem_iff_getElem?.1 hp
  obtain ⟨_, _, _, _, _, _, r1, r2, hy⟩ := h.at_ k p hk
  exact ⟨r1, r2, hy.rng⟩
theorem D6.last_rng {d : D6} (h : d.ok) : 0 ≤ d.last ∧ d.last ≤ 255 := by
  unfold D6.last
  split
  · decide
  · exact h.pro
end Go.Proofs.Ytndmmkadceobjaa
