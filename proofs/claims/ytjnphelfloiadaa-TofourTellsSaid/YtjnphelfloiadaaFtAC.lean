/-
  Lemmas and walks for the row of TofourTells (part 3 of 37).
-/
import Derived.Test.YtjnphelfloiadaaFtAA
import Derived.Test.YtjnphelfloiadaaFtAB
import Derived.Below
import Derived.Test.YtjnphelfloiadaaProg
import Derived.Lib.AppendZeros
import Derived.Lib.SliceRun
set_option linter.unusedVariables false
set_option linter.unusedSimpArgs false
namespace Go.Proofs.Ytjnphelfloiadaa

/-- one byte more: the words that are whole, and the high byte that waits -/
def stp (s : List Int × Option Int) (c : Int) : List Int × Option Int :=
 match s.2 with
 | none => (s.1, some c)
 | some h => (s.1 ++ [h * 256 + c], none)
def runw (l : List Int) : List Int × Option Int := l.foldl stp ([], none)
def rest : Option Int → List Int
 | none => []
 | some h => [h * 256]
/-- the words of bytes -/
def wds (l : List Int) : List Int := (runw l).1 ++ rest (runw l).2
/-- two sums -/
def addw (a b : Int) : Int := (a + b) % 65536 + (a + b) / 65536
/-- the sum of words, from a start -/
def fold (n : Int) (ws : List Int) : Int := ws.foldl addw n
def sumw (l : List Int) : Int := fold 0 (wds l)

theorem runw_snoc (l : List Int) (c : Int) : runw (l ++ [c]) = stp (runw l) c := by simp [runw]
theorem fold_snoc (n : Int) (l : List Int) (c : Int) : fold n (l ++ [c]) = addw (fold n l) c := by simp [fold]
theorem stp_le (s : List Int × Option Int) (c : Int) : (stp s c).1.length ≤ s.1.length + 1 := by
 unfold stp
 split <;> simp
theorem foldl_stp_le (l : List Int) : ∀ s : List Int × Option Int, (l.foldl stp s).1.length ≤ s.1.length + l.length := by
 induction l with
 | nil => intro s; simp
 | cons c l ih =>
  intro s
  have h := ih (stp s c)
  have := stp_le s c
  simp only [List.foldl_cons, List.length_cons]
  omega
theorem runw_le (l : List Int) : (runw l).1.length ≤ l.length := by
 have := foldl_stp_le l ([], none)
 simpa [runw] using this
theorem addw_rng {a b : Int} (ha : 0 ≤ a ∧ a < 65536) (hb : 0 ≤ b ∧ b < 65536) : 0 ≤ addw a b ∧ addw a b < 65536 := by unfold addw; omega
theorem fold_rng (n : Int) (hn : 0 ≤ n ∧ n < 65536) (l : List Int) (h : ∀ x ∈ l, 0 ≤ x ∧ x < 65536) : 0 ≤ fold n l ∧ fold n l < 65536 := by
 induction l generalizing n with
 | nil => exact hn
 | cons c l ih => exact ih (addw n c) (addw_rng hn (h c (by simp))) (fun x hx => h x (by simp [hx]))
theorem stp_rng {s : List Int × Option Int} {c : Int} (h1 : ∀ x ∈ s.1, 0 ≤ x ∧ x < 65536) (h2 : ∀ h, s.2 = some h → 0 ≤ h ∧ h ≤ 255) (hc : 0 ≤ c ∧ c ≤ 255) :
  (∀ x ∈ (stp s c).1, 0 ≤ x ∧ x < 65536) ∧ ∀ h, (stp s c).2 = some h → 0 ≤ h ∧ h ≤ 255 := by
 unfold stp
 split
 ·exact ⟨h1, fun h e => by injection e with e; omega⟩
 ·rename_i h e
  have := h2 h e
  refine ⟨fun x hx => ?_, fun h e => by cases e⟩
  rcases List.mem_append.1 hx with hx | hx
  ·exact h1 x hx
  ·simp at hx; omega
theorem foldl_stp_rng (l : List Int) (hl : ∀ x ∈ l, 0 ≤ x ∧ x ≤ 255) : ∀ s : List Int × Option Int, (∀ x ∈ s.1, 0 ≤ x ∧ x < 65536) → (∀ h, s.2 = some h → 0 ≤ h ∧ h ≤ 255) →
  (∀ x ∈ (l.foldl stp s).1, 0 ≤ x ∧ x < 65536) ∧ ∀ h, (l.foldl stp s).2 = some h → 0 ≤ h ∧ h ≤ 255 := by
 induction l with
 | nil => exact fun s h1 h2 => ⟨h1, h2⟩
 | cons c l ih =>
  intro s h1 h2
  have := stp_rng h1 h2 (hl c (by simp))
  exact ih (fun x hx => hl x (by simp [hx])) _ this.1 this.2
theorem wds_rng (l : List Int) (hl : ∀ x ∈ l, 0 ≤ x ∧ x ≤ 255) : ∀ x ∈ wds l, 0 ≤ x ∧ x < 65536 := by
 have h := foldl_stp_rng l hl ([], none) (by simp) (by simp)
 intro x hx
 unfold wds at hx
 rcases List.mem_append.1 hx with hx | hx
 ·exact h.1 x hx
 ·cases e : (runw l).2 with
  | none => rw [e] at hx; simp [rest] at hx
  | some y =>
   have := h.2 y e
   rw [e] at hx
   simp [rest] at hx
   omega
theorem sumw_rng (l : List Int) (hl : ∀ x ∈ l, 0 ≤ x ∧ x ≤ 255) : 0 ≤ sumw l ∧ sumw l < 65536 := fold_rng 0 (by omega) _ (wds_rng l hl)

theorem foldl_stp_even : ∀ (l : List Int) (ws : List Int), l.length % 2 = 0 → (l.foldl stp (ws, none)).2 = none
 | [], _, _ => rfl
 | [_], _, h => by simp at h
 | a :: b :: l, ws, h => by
  simp only [List.foldl_cons, stp]
  exact foldl_stp_even l _ (by simp only [List.length_cons] at h; omega)
theorem runw_even (l : List Int) (h : l.length % 2 = 0) : (runw l).2 = none := foldl_stp_even l [] h
theorem wds_even (l : List Int) (h : l.length % 2 = 0) : wds l = (runw l).1 := by unfold wds; rw [runw_even l h]; simp [rest]
/-- two bytes more behind an even number of them; or one, the last -/
theorem wds_two (l : List Int) (h : l.length % 2 = 0) (a b : Int) : wds (l ++ [a, b]) = wds l ++ [a * 256 + b] := by
 have h1 : l ++ [a, b] = (l ++ [a]) ++ [b] := by simp
 rw [wds_even (l ++ [a, b]) (by simp; omega), h1, runw_snoc, runw_snoc, wds_even l h]
 have := runw_even l h
 generalize runw l = r at this
 obtain ⟨x, y⟩ := r
 simp only at this
 subst this
 rfl
theorem wds_one (l : List Int) (h : l.length % 2 = 0) (a : Int) : wds (l ++ [a]) = wds l ++ [a * 256] := by
 unfold wds
 rw [runw_snoc, runw_even l h]
 have := runw_even l h
 generalize runw l = r at this
 obtain ⟨x, y⟩ := r
 simp only at this
 subst this
 simp [stp, rest]
/-- ones' complement of each word -/
def neg (l : List Int) : List Int := l.map (65535 - ·)
theorem neg_snoc (l : List Int) (x : Int) : neg (l ++ [x]) = neg l ++ [65535 - x] := by simp [neg]
/-- the sum of a start, words of one row turned, words of another one; and the error's number -/
def changedS (n : Int) (t p : List Int) : Int × Int :=
 if t.length = p.length ∧ p.length % 2 = 0 then (fold (fold n (neg (wds t))) (wds p), 0) else (0, 10)
end Go.Proofs.Ytjnphelfloiadaa
namespace Go.Proofs.Ytjnphelfloiadaa

/-- the sum of words whose total is t -/
def cs (t : Int) : Int := if t = 0 then 0 else (t - 1) % 65535 + 1
theorem neg_rng (l : List Int) (h : ∀ x ∈ l, 0 ≤ x ∧ x < 65536) : ∀ x ∈ neg l, 0 ≤ x ∧ x < 65536 := fun x hx => by
 obtain ⟨y, hy, rfl⟩ := List.mem_map.1 hx
 have := h y hy
 omega
end Go.Proofs.Ytjnphelfloiadaa
namespace Go.Proofs.Ytjnphelfloiadaa
open Go.RowKit

/-- a datagram's numbers and bytes -/
structure D4 where
 (tos id : Int) (df mf : Bool) (off ttl proto s0 s1 s2 s3 d0 d1 d2 d3 : Int) (ol bl : List Int)
/-- where its options and its body lie -/
structure W4 where
 (oA : Option Addr) (oc : Nat) (bA : Option Addr) (bc : Nat)
def D4.cells (d : D4) (p : W4) : Array Value :=
 #[.int .u8 d.tos, .int .u16 d.id, .bool d.df, .bool d.mf, .int .i64 d.off, .int .u8 d.ttl, .int .u8 d.proto, .int .u8 d.s0, .int .u8 d.s1, .int .u8 d.s2, .int .u8 d.s3, .int .u8 d.d0, .int .u8 d.d1, .int .u8 d.d2, .int .u8 d.d3,
  .slice p.oA d.ol.length p.oc, .slice p.bA d.bl.length p.bc]
def D4.src (d : D4) : List Int := [d.s0, d.s1, d.s2, d.s3]
def D4.dst (d : D4) : List Int := [d.d0, d.d1, d.d2, d.d3]
structure D4.ok (d : D4) : Prop where
 tos : 0 ≤ d.tos ∧ d.tos ≤ 255
 id : 0 ≤ d.id ∧ d.id < 65536
 off : -9223372036854775808 ≤ d.off ∧ d.off ≤ 9223372036854775807
 ttl : 0 ≤ d.ttl ∧ d.ttl ≤ 255
 proto : 0 ≤ d.proto ∧ d.proto ≤ 255
 src : InB d.src
 dst : InB d.dst
/-- the datagram reads so in a world -/
structure Rd4 (B : Nat) (w : World) (d : D4) (p : W4) : Prop where
 ok : d.ok
 opt : By B w p.oA d.ol.length p.oc d.ol
 body : By B w p.bA d.bl.length p.bc d.bl
theorem Rd4.below {B B' : Nat} {w w' : World} {d : D4} {p : W4} (h : Rd4 B w d p) (hb : Below B' w w') (hB : B ≤ B') : Rd4 B w' d p := ⟨h.ok, h.opt.below hb hB, h.body.below hb hB⟩
theorem Rd4.more {B B' : Nat} {w : World} {d : D4} {p : W4} (h : Rd4 B w d p) (hB : B ≤ B') : Rd4 B' w d p := ⟨h.ok, h.opt.more hB, h.body.more hB⟩

/-- may it be: 0, or the error's number -/
def D4.check (d : D4) : Int :=
 if d.off < 0 ∨ d.off > 8191 ∨ d.ol.length > 40 ∨ d.ol.length % 4 ≠ 0 then 45 else if d.bl.length > 65515 - d.ol.length then 2 else 0
theorem D4.check_cases (d : D4) : d.check = 0 ∨ d.check = 45 ∨ d.check = 2 := by unfold D4.check; split <;> (try split) <;> simp
def D4.hl (d : D4) : Nat := 20 + d.ol.length
def D4.offw (d : D4) : Int := d.off + (if d.df then 16384 else 0) + (if d.mf then 8192 else 0)
/-- the first twenty bytes -/
def D4.first (d : D4) (s : Int) : List Int :=
 [64 + (d.hl : Int) / 4, d.tos, (d.hl + d.bl.length : Int) / 256, (d.hl + d.bl.length : Int) % 256, d.id / 256, d.id % 256, d.offw / 256, d.offw % 256, d.ttl, d.proto, s / 256, s % 256, d.s0, d.s1, d.s2, d.s3, d.d0, d.d1, d.d2, d.d3]
def D4.sum (d : D4) : Int := 65535 - sumw (d.first 0 ++ d.ol)
/-- the bytes -/
def D4.bytes (d : D4) : List Int := d.first d.sum ++ d.ol ++ d.bl
/-- what Write answers -/
def D4.write (d : D4) : List Int := if d.check = 0 then d.bytes else []
theorem D4.ok_of_check {d : D4} (h : d.check = 0) : (0 ≤ d.off ∧ d.off ≤ 8191) ∧ d.ol.length ≤ 40 ∧ d.ol.length % 4 = 0 ∧ d.bl.length ≤ 65515 - d.ol.length := by
 unfold D4.check at h
 split at h
 ·cases h
 ·split at h
  ·cases h
  ·omega
theorem D4.first_rng {d : D4} (hd : d.ok) (h : d.check = 0) {s : Int} (hs : 0 ≤ s ∧ s < 65536) : InB (d.first s) := by
 obtain ⟨h1, h2, h3, h4⟩ := d.ok_of_check h
 have h5 := hd.tos; have h6 := hd.id; have h7 := hd.ttl; have h8 := hd.proto
 have ho : 0 ≤ d.offw ∧ d.offw < 65536 := by unfold D4.offw; split <;> split <;> omega
 have hs1 := hd.src
 have hd1 := hd.dst
 intro x hx
 simp only [D4.first, D4.hl, List.mem_cons, List.not_mem_nil, or_false] at hx
 rcases hx with rfl | rfl | rfl | rfl | rfl | rfl | rfl | rfl | rfl | rfl | rfl | rfl | rfl | rfl | rfl | rfl | rfl | rfl | rfl | rfl
 all_goals first
  | omega
  | (refine hs1 _ ?_; simp [D4.src]; done)
  | (refine hd1 _ ?_; simp [D4.dst]; done)
end Go.Proofs.Ytjnphelfloiadaa
namespace Go.Proofs.Ytjnphelfloiadaa
open Go.RowKit Go.Shelf

/-- an error's number that reads as said -/
def One (x : Int) (e : Ending) : Prop := ∃ q : Int, e = .returned (.int .i64 q) ∧ Hid (q = x)
theorem One.mk {x q : Int} (h : q = x) : One x (.returned (.int .i64 q)) := ⟨q, rfl, Lib.hid h⟩

set_option maxRecDepth 100000 in
theorem check_any (d : D4) (p : W4) (w : World) (ho : d.ol.length ≤ 9223372036854775807) (hb : d.bl.length ≤ 9223372036854775807) : Calls Try.prog 35 #[.agg (d.cells p)] w fun e w' => One d.check e ∧ Below w.heap.size w w' := by
 have hB : Below w.heap.size w (w.alloc (.cells (d.cells p) 35)) := (Below.refl _ _).alloc (Nat.le_refl _) _
 by_cases h1 : d.off < 0
 ·have hc : d.check = 45 := by unfold D4.check; rw [if_pos (by omega)]
  rw [hc]
  clear hc
  obtain ⟨tos, id, df, mf, off, ttl, proto, s0, s1, s2, s3, d0, d1, d2, d3, ol, bl⟩ := d
  obtain ⟨oA, oc, bA, bc⟩ := p
  unfold D4.cells at *
  simp only at *
  go_enter Try.func35, Try.ntmps35
  go_wp2
  go_ret
  exact ⟨One.mk rfl, hB⟩
 ·by_cases h2 : d.off > 8191
  ·have hc : d.check = 45 := by unfold D4.check; rw [if_pos (by omega)]
   rw [hc]
   clear hc
   obtain ⟨tos, id, df, mf, off, ttl, proto, s0, s1, s2, s3, d0, d1, d2, d3, ol, bl⟩ := d
   obtain ⟨oA, oc, bA, bc⟩ := p
   unfold D4.cells at *
   simp only at *
   go_enter Try.func35, Try.ntmps35
   go_wp2
   go_ret
   exact ⟨One.mk rfl, hB⟩
  ·by_cases h3 : d.ol.length > 40
   ·have hc : d.check = 45 := by unfold D4.check; rw [if_pos (by omega)]
    rw [hc]
    clear hc
    obtain ⟨tos, id, df, mf, off, ttl, proto, s0, s1, s2, s3, d0, d1, d2, d3, ol, bl⟩ := d
    obtain ⟨oA, oc, bA, bc⟩ := p
    unfold D4.cells at *
    simp only at *
    go_enter Try.func35, Try.ntmps35
    go_wp2
    go_ret
    exact ⟨One.mk rfl, hB⟩
   ·by_cases h4 : d.ol.length % 4 = 0
    ·by_cases h5 : d.bl.length > 65515 - d.ol.length
     ·have hc : d.check = 2 := by unfold D4.check; rw [if_neg (by omega), if_pos (by omega)]
      rw [hc]
      clear hc
      obtain ⟨tos, id, df, mf, off, ttl, proto, s0, s1, s2, s3, d0, d1, d2, d3, ol, bl⟩ := d
      obtain ⟨oA, oc, bA, bc⟩ := p
      unfold D4.cells at *
      simp only at *
      have t4 : ((ol.length : Int) % 4 != 0) = false := by simp; omega
      clear h4
      go_enter Try.func35, Try.ntmps35
      go_wp2
      go_ret
      exact ⟨One.mk rfl, hB⟩
     ·have hc : d.check = 0 := by unfold D4.check; rw [if_neg (by omega), if_neg (by omega)]
      rw [hc]
      clear hc
      obtain ⟨tos, id, df, mf, off, ttl, proto, s0, s1, s2, s3, d0, d1, d2, d3, ol, bl⟩ := d
      obtain ⟨oA, oc, bA, bc⟩ := p
      unfold D4.cells at *
      simp only at *
      have t4 : ((ol.length : Int) % 4 != 0) = false := by simp; omega
      clear h4
      go_enter Try.func35, Try.ntmps35
      go_wp2
      go_ret
      exact ⟨One.mk rfl, hB⟩
    ·have hc : d.check = 45 := by unfold D4.check; rw [if_pos (by omega)]
     rw [hc]
     clear hc
     obtain ⟨tos, id, df, mf, off, ttl, proto, s0, s1, s2, s3, d0, d1, d2, d3, ol, bl⟩ := d
     obtain ⟨oA, oc, bA, bc⟩ := p
     unfold D4.cells at *
     simp only at *
     have t4 : ((ol.length : Int) % 4 != 0) = true := by simp; omega
     clear h4
     go_enter Try.func35, Try.ntmps35
     go_wp2
     go_ret
     exact ⟨One.mk rfl, hB⟩

end Go.Proofs.Ytjnphelfloiadaa
namespace Go.Proofs.Ytjnphelfloiadaa
open Go.RowKit Go.Shelf

/-- three numbers that read as said -/
def Three (x y z : Int) (e : Ending) : Prop := ∃ q r s : Int, e = .returned (.tuple #[.int .i64 q, .int .i64 r, .int .i64 s]) ∧ Hid (q = x ∧ r = y ∧ s = z)
theorem Three.mk {x y z q r s : Int} (h1 : q = x) (h2 : r = y) (h3 : s = z) : Three x y z (.returned (.tuple #[.int .i64 q, .int .i64 r, .int .i64 s])) := ⟨q, r, s, rfl, Lib.hid ⟨h1, h2, h3⟩⟩
def D4.all (d : D4) : Int := if d.check = 0 then (d.hl : Int) + d.bl.length else 0
def D4.head (d : D4) : Int := if d.check = 0 then (d.hl : Int) else 0

theorem v4_info : (Try.prog.info? 35).map (·.size) = some 17 := by kernel_rfl

set_option maxRecDepth 100000 in
theorem size_any (d : D4) (p : W4) (w : World) (ho : d.ol.length ≤ 9223372036854775807) (hb : d.bl.length ≤ 9223372036854775807) :
  Calls Try.prog 79 #[.agg (d.cells p)] w fun e w' => Three d.all d.head d.check e ∧ Below w.heap.size w w' := by
 have hB : Below w.heap.size w (w.alloc (.cells (d.cells p) 35)) := (Below.refl _ _).alloc (Nat.le_refl _) _
 have hH : Has (w.alloc (.cells (d.cells p) 35)) w.heap.size (.cells (d.cells p) 35 (0, 0)) := Has.newAt rfl
 have hcH := Lib.hid (check_any d p (w.alloc (.cells (d.cells p) 35)) ho hb)
 have hz : (d.cells p).size = 17 := rfl
 by_cases h0 : d.check = 0
 ·obtain ⟨h1, h2, h3, h4⟩ := d.ok_of_check h0
  have e1 : d.all = (20 + d.ol.length : Int) + d.bl.length := by unfold D4.all D4.hl; rw [if_pos h0]; omega
  have e2 : d.head = 20 + d.ol.length := by unfold D4.head D4.hl; rw [if_pos h0]; omega
  have e1H := Lib.hid e1
  have e2H := Lib.hid e2
  have h0H := Lib.hid h0
  clear e1 e2 h0 h3
  go_enter Try.func79, Try.ntmps79
  go_wp2_with (refine wpList_load_row rfl 35 (.tmp 1) rfl w.heap.size rfl 35 (d.cells p) (0, 0) _ (World.alloc_heap_new _ _) Try.underlying35 rfl v4_info ?_)
  refine hcH.out.mono ?_
  rintro e w1 ⟨⟨q, rfl, hq⟩, hb1⟩
  obtain rfl : q = 0 := hq.out.trans h0H.out
  have hH1 := hH.below hb1 hH.lt
  have c15 := hH1.cell 15 (v := .slice p.oA d.ol.length p.oc) rfl
  have c16 := hH1.cell 16 (v := .slice p.bA d.bl.length p.bc) rfl
  clear hq hcH
  go_wp2
  go_ret3
  exact ⟨Three.mk e1H.out.symm e2H.out.symm h0H.out.symm, hB.trans (hb1.mono hB.size)⟩
 ·have e1 : d.all = 0 := by unfold D4.all; rw [if_neg h0]
  have e2 : d.head = 0 := by unfold D4.head; rw [if_neg h0]
  have e1H := Lib.hid e1
  have e2H := Lib.hid e2
  have hcs := d.check_cases
  have hcsH := Lib.hid (hcs.resolve_left h0)
  clear e1 e2 h0 hcs
  go_enter Try.func79, Try.ntmps79
  go_wp2_with (refine wpList_load_row rfl 35 (.tmp 1) rfl w.heap.size rfl 35 (d.cells p) (0, 0) _ (World.alloc_heap_new _ _) Try.underlying35 rfl v4_info ?_)
  refine hcH.out.mono ?_
  rintro e w1 ⟨⟨q, rfl, hq⟩, hb1⟩
  clear hcH
  have hq2 : q = 45 ∨ q = 2 := by rw [hq.out]; exact hcsH.out
  rcases hq2 with rfl | rfl
  ·go_wp2
   go_ret3
   exact ⟨Three.mk e1H.out.symm e2H.out.symm hq.out, hB.trans (hb1.mono hB.size)⟩
  ·go_wp2
   go_ret3
   exact ⟨Three.mk e1H.out.symm e2H.out.symm hq.out, hB.trans (hb1.mono hB.size)⟩

end Go.Proofs.Ytjnphelfloiadaa
namespace Go.Proofs.Ytjnphelfloiadaa
open Go.RowKit Go.Shelf

theorem info8 : (Try.prog.info? 5).map (fun i => (i.zero, i.size, i.bytes)) = some (some (.int .u8 0), 1, 1) := by kernel_rfl

theorem grow_zero (w : World) : Calls Try.prog 103 #[.slice none 0 0, .int .i64 0] w fun e w' => e = .returned (.slice none 0 0) ∧ w = w' := by
 go_enter Try.func103, Try.ntmps103
 go_wp2
 go_ret
 exact ⟨rfl, rfl⟩
set_option maxRecDepth 100000 in
theorem grow_pos (n : Nat) (h0 : 0 < n) (hn : n ≤ 140737488355328) (w : World) : Calls Try.prog 103 #[.slice none 0 0, .int .i64 n] w fun e w' => ∃ v, e = .returned v ∧ OwnB w' w.heap.size v [] ∧ Below w.heap.size w w' := by
 obtain ⟨i, hi, hz, hsz, hby⟩ := info_parts info8
 have hr := @Lib.run_append_nil_zeros Try.prog w 26 3 26 5 i (.int .u8 0) .i64 .i64 Try.underlying26 Try.underlying3 hi hz n h0 (by omega) (by omega) (by rw [hby]; omega)
 have hge := grownCap_ge w n 0 5
 have hle := grownCap_le_maxLen w n 0 5 (by simp only [maxLen]; omega)
 obtain ⟨cap, hcap⟩ : ∃ cap, grownCap w n 0 5 = cap := ⟨_, rfl⟩
 rw [hcap] at hr hge hle
 obtain ⟨cs, hcs⟩ : ∃ cs, (Builtin.zeroCells (Value.int .u8 0).cells n ++ Builtin.zeroCells (Value.int .u8 0).cells (cap - n)) = cs := ⟨_, rfl⟩
 have hsz' : cs.size = cap := by rw [← hcs, Array.size_append, size_zeroCells, size_zeroCells]; simp [Value.cells]; omega
 rw [hcs] at hr
 have hrH := Lib.hid hr
 clear hr hcs hcap hi hz hsz hby
 go_enter Try.func103, Try.ntmps103
 go_wp2_with (at_builtin; refine Lib.wpList_append_run _ rfl _ _ _ _ rfl _ _ rfl rfl _ _ hrH.out ?_)
 go_ret
 refine ⟨_, rfl, ⟨?_, InB.nil⟩, ((Below.refl _ w).drew).alloc (Nat.le_refl _) _⟩
 exact World.ownsRow_made w.drew cs cap (Nat.le_refl _) hle (by omega)

theorem grow_nil (n : Nat) (hn : n ≤ 140737488355328) (w : World) : Calls Try.prog 103 #[.slice none 0 0, .int .i64 n] w fun e w' => ∃ v, e = .returned v ∧ OwnB w' w.heap.size v [] ∧ Below w.heap.size w w' := by
 rcases Nat.eq_zero_or_pos n with h0 | h0
 ·subst h0
  exact (grow_zero w).mono fun e w' ⟨he, hw⟩ => by subst hw; exact ⟨_, he, OwnB.nil _ _, Below.refl _ _⟩
 ·exact grow_pos n h0 hn w

set_option maxRecDepth 100000 in
set_option maxHeartbeats 1000000 in
theorem concat_any (A : Option Addr) (c : Nat) (xs : List Sl) (w : World) (hI : Parts w.heap.size w A xs.length c xs) (htot : (flat xs).length ≤ 140737488355328) :
  Calls Try.prog 81 #[.slice A xs.length c] w fun e w' => ∃ v, e = .returned v ∧ OwnB w' w.heap.size v (flat xs) ∧ Below w.heap.size w w' := by
 have hc63 : xs.length ≤ 9223372036854775807 := by have := hI.cap; have := hI.big; omega
 go_enter Try.func81, Try.ntmps81
 go_wp2
 go_loop [3, 11] (fun s i => ∃ k : Nat, k ≤ xs.length ∧ i = .int .i64 k ∧ s = .int .i64 (flat (xs.take k)).length) (fun _ i => xs.length - (intOf i).toNat)
 case atStart => exact ⟨0, Nat.zero_le _, rfl, rfl⟩
 case round =>
  obtain ⟨k, hk, rfl, rfl⟩ := hrel
  by_cases hlt : k < xs.length
  ·obtain ⟨b, off, hA, hb, hcell, hy⟩ := hI.at_ k xs[k] (List.getElem?_eq_getElem hlt)
   subst hA
   have hts := flat_take_succ hlt
   have h1 := flat_take_le xs (k + 1)
   rw [hts, List.length_append] at h1
   have hk63 : k < 9223372036854775807 := by omega
   have htsH := Lib.hid hts
   clear hts
   go_wp2
   go_round
   case rel => exact ⟨k + 1, by omega, by go_num, by rw [htsH.out, List.length_append]; go_num⟩
   case measure => simp [intOf]; omega
  ·obtain rfl : k = xs.length := by omega
   rw [List.take_length]
   go_wp2_with (go_at_call 103; refine (grow_nil _ htot _).mono ?_; rintro e w' ⟨v0, rfl, hown0, hb0⟩)
   go_loopw [6, 27] (fun v i wr => ∃ k : Nat, k ≤ xs.length ∧ i = .int .i64 k ∧ OwnB wr w.heap.size v (flat (xs.take k)) ∧ Below w.heap.size w wr) (fun _ i _ => xs.length - (intOf i).toNat)
   case atStart => exact ⟨0, Nat.zero_le _, rfl, hown0, hb0⟩
   case round =>
    clear hown0 hb0
    obtain ⟨k, hk, rfl, hown, hB⟩ := hrel
    by_cases hlt : k < xs.length
    ·obtain ⟨b, off, hA, hb, hcell, hy⟩ := (hI.below hB (Nat.le_refl _)).at_ k xs[k] (List.getElem?_eq_getElem hlt)
     subst hA
     have hts := flat_take_succ hlt
     have h1 := flat_take_le xs (k + 1)
     rw [hts, List.length_append] at h1
     have hk63 : k < 9223372036854775807 := by omega
     have htsH := Lib.hid hts
     clear hts
     go_wp2_with (at_builtin; refine wpList_appB _ rfl _ _ _ rfl Try.underlying26 info8 _ _ _ rfl hown _ _ _ _ _ rfl hy (by omega) hB.size ?_; intro v' w' hown' hg _; have hB' := hB.trans (below_app hown hg hB.size))
     go_roundw
     case rel => exact ⟨k + 1, by omega, by go_num, by rw [htsH.out]; exact hown', hB'⟩
     case measure => simp [intOf]; omega
    ·obtain rfl : k = xs.length := by omega
     rw [List.take_length] at hown
     obtain ⟨A', c', rfl, _⟩ := own_shape hown.own
     go_wp2
     go_ret
     exact ⟨_, rfl, hown, hB⟩
end Go.Proofs.Ytjnphelfloiadaa
namespace Go.Proofs.Ytjnphelfloiadaa
open Go.RowKit Go.Shelf

theorem OwnB.blk {w : World} {g base n : Nat} {l : List Int} (h : Has w g (.cells (u8s l).toArray 5 (0, 0))) (hg : base ≤ g) (hn : n = l.length) (hl : InB l) (hm : l.length ≤ 9223372036854775807) : OwnB w base (.slice (some ⟨g, 0, none⟩) n n) l := by
 subst hn
 exact ⟨⟨by rw [Nat.mul_one]; exact u8s_length l, .inr ⟨g, l.length, _, rfl, hg, h, Nat.le_refl _, by simp only [maxLen]; omega, by simp [u8s_length], by rw [Nat.mul_one, List.take_of_length_le (by simp [u8s_length])]⟩⟩, hl⟩

theorem clone_any (A : Option Addr) (c : Nat) (l : List Int) (w : World) (hy : By w.heap.size w A l.length c l) (hb : l.length ≤ 140737488355328) :
  Calls Try.prog 46 #[.slice A l.length c] w fun e w' => ∃ v, e = .returned v ∧ OwnB w' w.heap.size v l ∧ Below w.heap.size w w' := by
 have q22 : ∀ (w : World) (a : Option Addr) (n c n' c' : Nat), (binOp .eql 26 (.slice a n c) (.slice none n' c')).run Try.prog w = .ok (.bool a.isNone) w := fun w a n c n' c' => Lib.run_eql_slice_nil w _ _ a n c n' c' Try.underlying26
 cases A with
 | none =>
  have h0 : l.length = 0 := by
   rcases Nat.eq_zero_or_pos l.length with h | h
   ·exact h
   ·obtain ⟨_, _, e, _⟩ := hy.row.at_ h; cases e
  have hl : l = [] := List.eq_nil_of_length_eq_zero h0
  subst hl
  go_enter Try.func46, Try.ntmps46
  go_wp2
  go_ret
  exact ⟨_, rfl, OwnB.nil _ _, Below.refl _ _⟩
 | some ad =>
  go_enter Try.func46, Try.ntmps46
  go_wp2_with (at_builtin; refine wpList_appB _ rfl _ _ _ rfl Try.underlying26 info8 w.heap.size _ _ rfl (OwnB.made w w.heap.size (Nat.le_refl _)) _ (some ad) l.length c l rfl (hy.alloc (Nat.le_refl _) _) (by simpa using hb) (by simp) ?_; intro v' w1 own hg hat; have hbel := below_app (OwnB.made w w.heap.size (Nat.le_refl _)) hg (by simp); obtain ⟨A', c', rfl, _⟩ := own_shape own.own)
  go_ret
  exact ⟨_, rfl, by simpa using own, ((Below.refl _ _).alloc (Nat.le_refl _) _).trans hbel⟩

theorem clone_n (A : Option Addr) (c n : Nat) (l : List Int) (w : World) (hy : By w.heap.size w A n c l) (hb : l.length ≤ 140737488355328) :
  Calls Try.prog 46 #[.slice A n c] w fun e w' => ∃ v, e = .returned v ∧ OwnB w' w.heap.size v l ∧ Below w.heap.size w w' := by
 have := hy.len
 subst this
 exact clone_any A c l w hy hb

end Go.Proofs.Ytjnphelfloiadaa
