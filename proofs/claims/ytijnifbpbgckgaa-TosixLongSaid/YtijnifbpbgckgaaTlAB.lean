/-
  Lemmas and walks for the row of TosixLong (part 2 of 37).
-/
import Derived.Test.YtijnifbpbgckgaaTlAA
import Derived.Test.YtijnifbpbgckgaaRows
import Derived.WalkKit
import Derived.ProofKit
import Derived.OpenShut
import Derived.ShutString
import Derived.ChangeOld
import Derived.Below
import Derived.Deep.Slices
import Derived.Laws.Tables
import Derived.Laws.CopyOwn
import Derived.Great.BuildSlice
set_option linter.unusedVariables false
set_option linter.unusedSimpArgs false
namespace Go.Proofs.Ytijnifbpbgckgaa
open Go.ChangeShapes Go.WideShapes Go.ChangeAt Go.RowKit

section
variable {H : Type} {enc : TypeId × Value → H} {P : Program} {W : World} {base : Nat} {spare : Nat → Bool} {held : Bool}

theorem cell_bytes {t e : TypeId} {fuel : Nat} {cs : List Value} {x : DataW H × List MemPlace} (ht : P.underlying t = some (.slice e)) (he : P.underlying e = some (.int .u8)) (hc : P.cellsOf e = 1)
    (h : DataW.trod enc P W base spare held fuel t cs = some x) : ∃ A c l, cs = [.slice A (List.length l) c] ∧ By W.heap.size W A l.length c l := by
  rcases open_ints ht he hc h with ⟨rfl, _⟩ | ⟨a, len, cap, zs, rfl, _, hl, hm, hz, _, hcell, hwz⟩
  · exact ⟨none, 0, [], rfl, By.nil _ _ _ (by omega)⟩
  · have hzl : len ≤ zs.length := by rw [hz]; split <;> omega
    have hlen : (zs.take len).length = len := by rw [List.length_take]; omega
    refine ⟨some a, cap, zs.take len, by rw [hlen], ?_⟩
    rw [hlen]
    refine ⟨⟨by rw [u8s_length, hlen], hl, fun hp => ?_⟩, fun y hy => bounds_u8 (hwz y (List.mem_of_mem_take hy)), hm⟩
    obtain ⟨b, off, rfl, hc'⟩ := ints_at hcell (by omega)
    refine ⟨b, off, rfl, World.block_lt_of_cell? W _ (hc' 0 (by omega)), fun j hj => ?_⟩
    rw [hc' j (by omega)]
    have hj' : j < zs.length := by omega
    simp [u8s, List.getElem?_take, hj, List.getElem?_eq_getElem hj']

theorem trod_u8s {t e : TypeId} {n fuel : Nat} {cs : List Value} {x : DataW H × List MemPlace} (ht : P.underlying t = some (.array n e)) (he : P.underlying e = some (.int .u8)) (hc : P.cellsOf e = 1) (hc2 : P.cellsOf t = n)
    (h : DataW.trod enc P W base spare held fuel t cs = some x) : ∃ l, cs = u8s l ∧ List.length l = n ∧ InB l := by
  obtain ⟨xs, m, _, _, hlen, hxl, hi⟩ := DataW.trod_array ht h
  have hel : ∀ i : Nat, i < n → ∃ y : Int, cs[i]? = some (.int .u8 y) ∧ 0 ≤ y ∧ y ≤ 255 := fun i hin => by
    have h1 := hi i hin
    rw [List.getElem?_eq_getElem (by omega)] at h1
    obtain ⟨y, hy, _, hwf⟩ := DataW.trod_int he h1
    rw [hc, Nat.mul_one] at hy
    refine ⟨y, ?_, bounds_u8 hwf⟩
    have hd : cs.drop i = cs[i]'(by omega) :: cs.drop (i + 1) := List.drop_eq_getElem_cons (by omega)
    rw [hd, List.take_succ_cons, List.take_zero] at hy
    injection hy with hy _
    rw [List.getElem?_eq_getElem (by omega), hy]
  have key : ∀ cs : List Value, (∀ i, i < cs.length → ∃ y : Int, cs[i]? = some (.int .u8 y) ∧ 0 ≤ y ∧ y ≤ 255) → ∃ l, cs = u8s l ∧ InB l := fun cs => by
    induction cs with
    | nil => exact fun _ => ⟨[], rfl, InB.nil⟩
    | cons c cs ih =>
      intro h
      obtain ⟨y, hy, hy0⟩ := h 0 (by simp)
      obtain ⟨l, rfl, hl⟩ := ih (fun i hi => by
        obtain ⟨z, hz, hz0⟩ := h (i + 1) (by simp; omega)
        exact ⟨z, by simpa using hz, hz0⟩)
      refine ⟨y :: l, by simp at hy; simp [u8s, hy], fun z hz => ?_⟩
      rcases List.mem_cons.1 hz with rfl | hz
      · exact hy0
      · exact hl z hz
  obtain ⟨l, rfl, hl⟩ := key cs (fun i hi => hel i (by omega))
  exact ⟨l, rfl, by rw [← hc2, ← hlen, u8s_length], hl⟩

end
theorem own_ : ownKnob Try.prog.godebug = none := by kernel_rfl
theorem laidOut_ : laidOutB Try.prog = true := by kernel_rfl
end Go.Proofs.Ytijnifbpbgckgaa
namespace Go.Proofs.Ytijnifbpbgckgaa
open Go.ChangeShapes Go.WideShapes Go.ChangeAt Go.RowKit

section
variable {H : Type} {enc : TypeId × Value → H} {P : Program} {W : World} {base : Nat} {spare : Nat → Bool} {held : Bool}
theorem field_at {t : TypeId} {fs : Array Field} {fuel : Nat} {cs : List Value} {x : DataW H × List MemPlace} (ht : P.underlying t = some (.struct fs)) (h : DataW.trod enc P W base spare held fuel t cs = some x) :
    ∃ m, ∀ (i : Nat) (f : Field) (n : Nat), fs[i]? = some f → P.cellsOf f.type = n → ∃ y, DataW.trod enc P W base spare held m f.type ((cs.drop f.offset).take n) = some y := by
  obtain ⟨xs, m, _, _, _, hxl, hi⟩ := DataW.trod_struct ht h
  refine ⟨m, fun i f n hf hn => ?_⟩
  subst hn
  have hlt : i < xs.length := by have := (Array.getElem?_eq_some_iff.1 hf).1; omega
  exact ⟨xs[i], (hi i f hf).trans (List.getElem?_eq_getElem hlt)⟩
theorem struct_len {t : TypeId} {fs : Array Field} {fuel : Nat} {cs : List Value} {x : DataW H × List MemPlace} (ht : P.underlying t = some (.struct fs)) (h : DataW.trod enc P W base spare held fuel t cs = some x) : cs.length = P.cellsOf t := by
  obtain ⟨xs, m, _, _, hl, _, _⟩ := DataW.trod_struct ht h
  exact hl
end
theorem one_eq {a b : Value} (h : [a] = [b]) : a = b := by injection h
end Go.Proofs.Ytijnifbpbgckgaa
namespace Go.Proofs.Ytijnifbpbgckgaa

/-- one byte more: the words that are whole, and the high byte that waits -/
def stp (s : List Int × Option Int) (c : Int) : List Int × Option Int :=
  match s.2 with
  | none => (s.1, some c)
  | some h => (s.1 ++ [h * 256 + c], none)
def runw (l : List Int) : List Int × Option Int := l.foldl stp ([], none)
def rest : Option Int → List Int
  | none => []
  | some h => [h * 256]
/-- the words of bytes -/
def wds (l : List Int) : List Int := (runw l).1 ++ rest (runw l).2
/-- two sums -/
def addw (a b : Int) : Int := (a + b) % 65536 + (a + b) / 65536
/-- the sum of words, from a start -/
def fold (n : Int) (ws : List Int) : Int := ws.foldl addw n
def sumw (l : List Int) : Int := fold 0 (wds l)

theorem runw_snoc (l : List Int) (c : Int) : runw (l ++ [c]) = stp (runw l) c := by simp [runw]
theorem fold_snoc (n : Int) (l : List Int) (c : Int) : fold n (l ++ [c]) = addw (fold n l) c := by simp [fold]
theorem stp_le (s : List Int × Option Int) (c : Int) : (stp s c).1.length ≤ s.1.length + 1 := by
  unfold stp
  split <;> simp
theorem foldl_stp_le (l : List Int) : ∀ s : List Int × Option Int, (l.foldl stp s).1.length ≤ s.1.length + l.length := by
  induction l with
  | nil => intro s; simp
  | cons c l ih =>
    intro s
    have h := ih (stp s c)
    have := stp_le s c
    simp only [List.foldl_cons, List.length_cons]
    omega
theorem runw_le (l : List Int) : (runw l).1.length ≤ l.length := by
  have := foldl_stp_le l ([], none)
  simpa [runw] using this
theorem addw_rng {a b : Int} (ha : 0 ≤ a ∧ a < 65536) (hb : 0 ≤ b ∧ b < 65536) : 0 ≤ addw a b ∧ addw a b < 65536 := by unfold addw; omega
theorem fold_rng (n : Int) (hn : 0 ≤ n ∧ n < 65536) (l : List Int) (h : ∀ x ∈ l, 0 ≤ x ∧ x < 65536) : 0 ≤ fold n l ∧ fold n l < 65536 := by
  induction l generalizing n with
  | nil => exact hn
  | cons c l ih => exact ih (addw n c) (addw_rng hn (h c (by simp))) (fun x hx => h x (by simp [hx]))
theorem stp_rng {s : List Int × Option Int} {c : Int} (h1 : ∀ x ∈ s.1, 0 ≤ x ∧ x < 65536) (h2 : ∀ h, s.2 = some h → 0 ≤ h ∧ h ≤ 255) (hc : 0 ≤ c ∧ c ≤ 255) :
    (∀ x ∈ (stp s c).1, 0 ≤ x ∧ x < 65536) ∧ ∀ h, (stp s c).2 = some h → 0 ≤ h ∧ h ≤ 255 := by
  unfold stp
  split
  · exact ⟨h1, fun h e => by injection e with e; omega⟩
  · rename_i h e
    have := h2 h e
    refine ⟨fun x hx => ?_, fun h e => by cases e⟩
    rcases List.mem_append.1 hx with hx | hx
    · exact h1 x hx
    · simp at hx; omega
theorem foldl_stp_rng (l : List Int) (hl : ∀ x ∈ l, 0 ≤ x ∧ x ≤ 255) : ∀ s : List Int × Option Int, (∀ x ∈ s.1, 0 ≤ x ∧ x < 65536) → (∀ h, s.2 = some h → 0 ≤ h ∧ h ≤ 255) →
    (∀ x ∈ (l.foldl stp s).1, 0 ≤ x ∧ x < 65536) ∧ ∀ h, (l.foldl stp s).2 = some h → 0 ≤ h ∧ h ≤ 255 := by
  induction l with
  | nil => exact fun s h1 h2 => ⟨h1, h2⟩
  | cons c l ih =>
    intro s h1 h2
    have := stp_rng h1 h2 (hl c (by simp))
    exact ih (fun x hx => hl x (by simp [hx])) _ this.1 this.2
theorem wds_rng (l : List Int) (hl : ∀ x ∈ l, 0 ≤ x ∧ x ≤ 255) : ∀ x ∈ wds l, 0 ≤ x ∧ x < 65536 := by
  have h := foldl_stp_rng l hl ([], none) (by simp) (by simp)
  intro x hx
  unfold wds at hx
  rcases List.mem_append.1 hx with hx | hx
  · exact h.1 x hx
  · cases e : (runw l).2 with
    | none => rw [e] at hx; simp [rest] at hx
    | some y =>
      have := h.2 y e
      rw [e] at hx
      simp [rest] at hx
      omega
theorem sumw_rng (l : List Int) (hl : ∀ x ∈ l, 0 ≤ x ∧ x ≤ 255) : 0 ≤ sumw l ∧ sumw l < 65536 := fold_rng 0 (by omega) _ (wds_rng l hl)

theorem foldl_stp_even : ∀ (l : List Int) (ws : List Int), l.length % 2 = 0 → (l.foldl stp (ws, none)).2 = none
  | [], _, _ => rfl
  | [_], _, h => by simp at h
  | a :: b :: l, ws, h => by
    simp only [List.foldl_cons, stp]
    exact foldl_stp_even l _ (by simp only [List.length_cons] at h; omega)
theorem runw_even (l : List Int) (h : l.length % 2 = 0) : (runw l).2 = none := foldl_stp_even l [] h
theorem wds_even (l : List Int) (h : l.length % 2 = 0) : wds l = (runw l).1 := by unfold wds; rw [runw_even l h]; simp [rest]
/-- two bytes more behind an even number of them; or one, the last -/
theorem wds_two (l : List Int) (h : l.length % 2 = 0) (a b : Int) : wds (l ++ [a, b]) = wds l ++ [a * 256 + b] := by
  have h1 : l ++ [a, b] = (l ++ [a]) ++ [b] := by simp
  rw [wds_even (l ++ [a, b]) (by simp; omega), h1, runw_snoc, runw_snoc, wds_even l h]
  have := runw_even l h
  generalize runw l = r at this
  obtain ⟨x, y⟩ := r
  simp only at this
  subst this
  rfl
theorem wds_one (l : List Int) (h : l.length % 2 = 0) (a : Int) : wds (l ++ [a]) = wds l ++ [a * 256] := by
  unfold wds
  rw [runw_snoc, runw_even l h]
  have := runw_even l h
  generalize runw l = r at this
  obtain ⟨x, y⟩ := r
  simp only at this
  subst this
  simp [stp, rest]
/-- ones' complement of each word -/
def neg (l : List Int) : List Int := l.map (65535 - ·)
theorem neg_snoc (l : List Int) (x : Int) : neg (l ++ [x]) = neg l ++ [65535 - x] := by simp [neg]
/-- the sum of a start, words of one row turned, words of another one; and the error's number -/
def changedS (n : Int) (t p : List Int) : Int × Int :=
  if t.length = p.length ∧ p.length % 2 = 0 then (fold (fold n (neg (wds t))) (wds p), 0) else (0, 10)
end Go.Proofs.Ytijnifbpbgckgaa
namespace Go.Proofs.Ytijnifbpbgckgaa

/-- the sum of words whose total is t -/
def cs (t : Int) : Int := if t = 0 then 0 else (t - 1) % 65535 + 1
theorem neg_rng (l : List Int) (h : ∀ x ∈ l, 0 ≤ x ∧ x < 65536) : ∀ x ∈ neg l, 0 ≤ x ∧ x < 65536 := fun x hx => by
  obtain ⟨y, hy, rfl⟩ := List.mem_map.1 hx
  have := h y hy
  omega
end Go.Proofs.Ytijnifbpbgckgaa
namespace Go.Proofs.Ytijnifbpbgckgaa
open Go.RowKit

/-- a datagram's numbers and bytes -/
structure D4 where
  (tos id : Int) (df mf : Bool) (off ttl proto s0 s1 s2 s3 d0 d1 d2 d3 : Int) (ol bl : List Int)
/-- where its options and its body lie -/
structure W4 where
  (oA : Option Addr) (oc : Nat) (bA : Option Addr) (bc : Nat)
def D4.cells (d : D4) (p : W4) : Array Value :=
  #[.int .u8 d.tos, .int .u16 d.id, .bool d.df, .bool d.mf, .int .i64 d.off, .int .u8 d.ttl, .int .u8 d.proto, .int .u8 d.s0, .int .u8 d.s1, .int .u8 d.s2, .int .u8 d.s3, .int .u8 d.d0, .int .u8 d.d1, .int .u8 d.d2, .int .u8 d.d3,
    .slice p.oA d.ol.length p.oc, .slice p.bA d.bl.length p.bc]
def D4.src (d : D4) : List Int := [d.s0, d.s1, d.s2, d.s3]
def D4.dst (d : D4) : List Int := [d.d0, d.d1, d.d2, d.d3]
structure D4.ok (d : D4) : Prop where
  tos : 0 ≤ d.tos ∧ d.tos ≤ 255
  id : 0 ≤ d.id ∧ d.id < 65536
  off : -9223372036854775808 ≤ d.off ∧ d.off ≤ 9223372036854775807
  ttl : 0 ≤ d.ttl ∧ d.ttl ≤ 255
  proto : 0 ≤ d.proto ∧ d.proto ≤ 255
  src : InB d.src
  dst : InB d.dst
/-- the datagram reads so in a world -/
structure Rd4 (B : Nat) (w : World) (d : D4) (p : W4) : Prop where
  ok : d.ok
  opt : By B w p.oA d.ol.length p.oc d.ol
  body : By B w p.bA d.bl.length p.bc d.bl
theorem Rd4.below {B B' : Nat} {w w' : World} {d : D4} {p : W4} (h : Rd4 B w d p) (hb : Below B' w w') (hB : B ≤ B') : Rd4 B w' d p := ⟨h.ok, h.opt.below hb hB, h.body.below hb hB⟩
theorem Rd4.more {B B' : Nat} {w : World} {d : D4} {p : W4} (h : Rd4 B w d p) (hB : B ≤ B') : Rd4 B' w d p := ⟨h.ok, h.opt.more hB, h.body.more hB⟩

/-- may it be: 0, or the error's number -/
def D4.check (d : D4) : Int :=
  if d.off < 0 ∨ d.off > 8191 ∨ d.ol.length > 40 ∨ d.ol.length % 4 ≠ 0 then 45 else if d.bl.length > 65515 - d.ol.length then 2 else 0
theorem D4.check_cases (d : D4) : d.check = 0 ∨ d.check = 45 ∨ d.check = 2 := by unfold D4.check; split <;> (try split) <;> simp
def D4.hl (d : D4) : Nat := 20 + d.ol.length
def D4.offw (d : D4) : Int := d.off + (if d.df then 16384 else 0) + (if d.mf then 8192 else 0)
/-- the first twenty bytes -/
def D4.first (d : D4) (s : Int) : List Int :=
  [64 + (d.hl : Int) / 4, d.tos, (d.hl + d.bl.length : Int) / 256, (d.hl + d.bl.length : Int) % 256, d.id / 256, d.id % 256, d.offw / 256, d.offw % 256, d.ttl, d.proto, s / 256, s % 256, d.s0, d.s1, d.s2, d.s3, d.d0, d.d1, d.d2, d.d3]
def D4.sum (d : D4) : Int := 65535 - sumw (d.first 0 ++ d.ol)
/-- the bytes -/
def D4.bytes (d : D4) : List Int := d.first d.sum ++ d.ol ++ d.bl
/-- what Write answers -/
def D4.write (d : D4) : List Int := if d.check = 0 then d.bytes else []
theorem D4.ok_of_check {d : D4} (h : d.check = 0) : (0 ≤ d.off ∧ d.off ≤ 8191) ∧ d.ol.length ≤ 40 ∧ d.ol.length % 4 = 0 ∧ d.bl.length ≤ 65515 - d.ol.length := by
  unfold D4.check at h
  split at h
  · cases h
  · split at h
    · cases h
    · omega
theorem D4.first_rng {d : D4} (hd : d.ok) (h : d.check = 0) {s : Int} (hs : 0 ≤ s ∧ s < 65536) : InB (d.first s) := by
  obtain ⟨h1, h2, h3, h4⟩ := d.ok_of_check h
  have h5 := hd.tos; have h6 := hd.id; have h7 := hd.ttl; have h8 := hd.proto
  have ho : 0 ≤ d.offw ∧ d.offw < 65536 := by unfold D4.offw; split <;> split <;> omega
  have hs1 := hd.src
  have hd1 := hd.dst
  intro x hx
  simp only [D4.first, D4.hl, List.mem_cons, List.not_mem_nil, or_false] at hx
  rcases hx with rfl | rfl | rfl | rfl | rfl | rfl | rfl | rfl | rfl | rfl | rfl | rfl | rfl | rfl | rfl | rfl | rfl | rfl | rfl | rfl
  all_goals first
    | omega
    | (refine hs1 _ ?_; simp [D4.src]; done)
    | (refine hd1 _ ?_; simp [D4.dst]; done)
end Go.Proofs.Ytijnifbpbgckgaa
namespace Go.Proofs.Ytijnifbpbgckgaa
open Go.ChangeShapes Go.WideShapes Go.ChangeAt Go.RowKit

section
variable {H : Type} {enc : TypeId × Value → H} {P : Program} {W : World} {base : Nat} {spare : Nat → Bool} {held : Bool}
end
theorem len17 {α : Type} {l : List α} (h : l.length = 17) : ∃ x0 x1 x2 x3 x4 x5 x6 x7 x8 x9 x10 x11 x12 x13 x14 x15 x16, l = [x0, x1, x2, x3, x4, x5, x6, x7, x8, x9, x10, x11, x12, x13, x14, x15, x16] := by
  match l, h with
  | [x0, x1, x2, x3, x4, x5, x6, x7, x8, x9, x10, x11, x12, x13, x14, x15, x16], _ => exact ⟨x0, x1, x2, x3, x4, x5, x6, x7, x8, x9, x10, x11, x12, x13, x14, x15, x16, rfl⟩
section
variable {H : Type} {enc : TypeId × Value → H} {W : World} {base : Nat} {spare : Nat → Bool} {held : Bool}
set_option maxRecDepth 100000 in
theorem open_v4 {v : Value} {d : DataW H} {p : List MemPlace} {r : Reach} {b0 : Nat} (hv : Value.okWide Try.prog W r b0 27 v) (h : DataW.Trod enc Try.prog W base spare held 27 v d p) :
    ∃ D w4, v = .agg (D4.cells D w4) ∧ Rd4 W.heap.size W D w4 := by
  have ht := Try.underlying27
  simp only [Value.okWide, ht] at hv
  obtain ⟨cs, rfl, _⟩ := hv
  obtain ⟨fuel, hf⟩ := h
  have hlen : cs.toList.length = 17 := (struct_len ht hf).trans (by kernel_rfl)
  have hk : ∃ m, _ := field_at ht hf
  obtain ⟨m, g⟩ := hk
  obtain ⟨c0, c1, c2, c3, c4, c5, c6, c7, c8, c9, c10, c11, c12, c13, c14, c15, c16, hcs⟩ := len17 hlen
  have g : ∀ (i : Nat) (f : Field) (n : Nat), _ → _ → ∃ y, DataW.trod enc Try.prog W base spare held m f.type (([c0, c1, c2, c3, c4, c5, c6, c7, c8, c9, c10, c11, c12, c13, c14, c15, c16].drop f.offset).take n) = some y := hcs ▸ g
  obtain ⟨y0, e0⟩ := g 0 _ 1 rfl (by kernel_rfl)
  obtain ⟨y1, e1⟩ := g 1 _ 1 rfl (by kernel_rfl)
  obtain ⟨y2, e2⟩ := g 2 _ 1 rfl (by kernel_rfl)
  obtain ⟨y3, e3⟩ := g 3 _ 1 rfl (by kernel_rfl)
  obtain ⟨y4, e4⟩ := g 4 _ 1 rfl (by kernel_rfl)
  obtain ⟨y5, e5⟩ := g 5 _ 1 rfl (by kernel_rfl)
  obtain ⟨y6, e6⟩ := g 6 _ 1 rfl (by kernel_rfl)
  obtain ⟨y7, e7⟩ := g 7 _ 4 rfl (by kernel_rfl)
  obtain ⟨y8, e8⟩ := g 8 _ 4 rfl (by kernel_rfl)
  obtain ⟨y9, e9⟩ := g 9 _ 1 rfl (by kernel_rfl)
  obtain ⟨y10, e10⟩ := g 10 _ 1 rfl (by kernel_rfl)
  obtain ⟨tos, q0, _, w0⟩ := DataW.trod_int Try.underlying5 e0
  obtain ⟨id, q1, _, w1⟩ := DataW.trod_int Try.underlying22 e1
  obtain ⟨df, q2, _⟩ := DataW.trod_bool Try.underlying4 e2
  obtain ⟨mf, q3, _⟩ := DataW.trod_bool Try.underlying4 e3
  obtain ⟨off, q4, _, w4⟩ := DataW.trod_int Try.underlying3 e4
  obtain ⟨ttl, q5, _, w5⟩ := DataW.trod_int Try.underlying5 e5
  obtain ⟨pro, q6, _, w6⟩ := DataW.trod_int Try.underlying5 e6
  obtain ⟨s, q7, n7, r7⟩ := trod_u8s Try.underlying24 Try.underlying5 (by kernel_rfl) (by kernel_rfl) e7
  obtain ⟨t, q8, n8, r8⟩ := trod_u8s Try.underlying24 Try.underlying5 (by kernel_rfl) (by kernel_rfl) e8
  obtain ⟨oA, oc, ol, q9, yo⟩ := cell_bytes Try.underlying25 Try.underlying5 (by kernel_rfl) e9
  obtain ⟨bA, bc, bl, q10, yb⟩ := cell_bytes Try.underlying25 Try.underlying5 (by kernel_rfl) e10
  obtain ⟨s0, s1, s2, s3, rfl⟩ := len4 n7
  obtain ⟨t0, t1, t2, t3, rfl⟩ := len4 n8
  have k0 : c0 = .int .u8 tos := one_eq q0
  have k1 : c1 = .int .u16 id := one_eq q1
  have k2 : c2 = .bool df := one_eq q2
  have k3 : c3 = .bool mf := one_eq q3
  have k4 : c4 = .int .i64 off := one_eq q4
  have k5 : c5 = .int .u8 ttl := one_eq q5
  have k6 : c6 = .int .u8 pro := one_eq q6
  have k9 : c15 = .slice oA ol.length oc := one_eq q9
  have k10 : c16 = .slice bA bl.length bc := one_eq q10
  have q7 : [c7, c8, c9, c10] = [.int .u8 s0, .int .u8 s1, .int .u8 s2, .int .u8 s3] := q7
  have q8 : [c11, c12, c13, c14] = [.int .u8 t0, .int .u8 t1, .int .u8 t2, .int .u8 t3] := q8
  simp only [List.cons.injEq, and_true] at q7 q8
  obtain ⟨rfl, rfl, rfl, rfl⟩ := q7
  obtain ⟨rfl, rfl, rfl, rfl⟩ := q8
  subst k0 k1 k2 k3 k4 k5 k6 k9 k10
  refine ⟨⟨tos, id, df, mf, off, ttl, pro, s0, s1, s2, s3, t0, t1, t2, t3, ol, bl⟩, ⟨oA, oc, bA, bc⟩, ?_, ⟨⟨?_, ?_, ?_, ?_, ?_, ?_, ?_⟩, yo, yb⟩⟩
  · rw [← Array.toArray_toList (xs := cs), hcs]; rfl
  · exact bounds_u8 w0
  · have h16 := bounds_u16 w1; have h17 : id < 65536 := by omega
    exact ⟨h16.1, h17⟩
  · exact bounds_i64 w4
  · exact bounds_u8 w5
  · exact bounds_u8 w6
  · exact r7
  · exact r8
end
end Go.Proofs.Ytijnifbpbgckgaa
namespace Go.Proofs.Ytijnifbpbgckgaa
open Go.RowKit

theorem Has.setRow_same {w : World} {g : Nat} {cs cs' : Array Value} {t : TypeId} {fz : Nat × Nat} (h : Has w g (.cells cs t fz)) : Has (w.setRow g cs') g (.cells cs' t fz) := Go.setRow_heap w g cs cs' t fz h
theorem Has.setRow_other {w : World} {g k : Nat} {cs' : Array Value} {o : Obj} (h : Has w k o) (hk : k ≠ g) : Has (w.setRow g cs') k o := (Go.setRow_other w g k cs' hk).trans h

theorem Has.setCell {w : World} {g : Nat} {cs : Array Value} {t : TypeId} {fz : Nat × Nat} (h : Has w g (.cells cs t fz)) (k : Nat) (v : Value) : Has (w.setCell ⟨g, k, none⟩ v) g (.cells (cs.setIfInBounds k v) t fz) := by
  have hlt := h.lt
  have hv : w.heap[g] = .cells cs t fz := (Array.getElem?_eq_some_iff.1 h).2
  unfold Has World.setCell
  rw [Array.getElem?_eq_getElem (by simpa using hlt), Array.getElem_modify]
  simp [hv]
theorem Has.setCell_other {w : World} {g j : Nat} {o : Obj} (h : Has w j o) (hj : j ≠ g) (k : Nat) (v : Value) : Has (w.setCell ⟨g, k, none⟩ v) j o := by
  unfold Has World.setCell
  simpa [Array.getElem?_modify, Ne.symm hj] using show w.heap[j]? = some o from h
theorem below_setCell {B g : Nat} {w0 w : World} (hb : Below B w0 w) (hg : B ≤ g) (k : Nat) (v : Value) : Below B w0 (w.setCell ⟨g, k, none⟩ v) :=
  hb.trans ⟨rfl, rfl, rfl, by simp [World.setCell], fun j hj => by simp [World.setCell, Array.getElem?_modify]; intro h; omega⟩
theorem OwnB.setCell {w : World} {base g : Nat} {v : Value} {l : List Int} (h : OwnB w base v l) (hg : g < base) (k : Nat) (u : Value) : OwnB (w.setCell ⟨g, k, none⟩ u) base v l := by
  refine ⟨⟨h.own.1, ?_⟩, h.rng⟩
  rcases h.own.2 with h0 | ⟨g', cap, cur, h0, hb, hh, rest⟩
  · exact .inl h0
  · exact .inr ⟨g', cap, cur, h0, hb, Has.setCell_other hh (by omega) k u, rest⟩
theorem below_drew (B : Nat) (w : World) : Below B w w.drew := ⟨rfl, rfl, rfl, Nat.le_refl _, fun _ _ => rfl⟩

/-- a whole row into a block of the call's own -/
theorem wpList_store_has {P : Program} {ops : Array Oper} {rest : List Oper} {o : Oper} {a : Act} {w : World} {Q : Exit → Act → World → Prop} (hgd : o.guard = none) (ty : TypeId) (x y : Operand) (ho : o.op = .store ty x y)
    (g : Nat) (cells : Array Value) (hx : a.eval x = .pointer (some ⟨g, 0, none⟩)) (hy : a.eval y = .agg cells)
    (t : TypeId) (old : Array Value) (hg : Has w g (.cells old t (0, 0))) (hi : (P.info? ty).map (·.size) = some cells.size)
    (hold : old.size = cells.size) (h1 : cells.all (·.oneCell') = true)
    (h : ∀ w', Has w' g (.cells cells t (0, 0)) → Below g w w' → wpList P ops Q rest (a.put o.dst undef) w') : wpList P ops Q (o :: rest) a w :=
  wpList_store_row hgd ty x y ho g cells hx hy t old hg hi hold h1 (h _ hg.setRow_same (below_setRow (Below.refl _ _) (Nat.le_refl _) _))
end Go.Proofs.Ytijnifbpbgckgaa
namespace Go.Proofs.Ytijnifbpbgckgaa
open Go.RowKit

/-- a byte of an own row, and the row with another one in its place -/
theorem OwnB.byte {w : World} {base n c : Nat} {A : Option Addr} {l : List Int} (h : OwnB w base (.slice A n c) l) (hn : n = l.length) {i : Nat} (hi : i < n) :
    ∃ g, A = some ⟨g, 0, none⟩ ∧ base ≤ g ∧ g < w.heap.size ∧ w.cell? ⟨g, i, none⟩ = some (.int .u8 (l.getD i 0)) ∧ w.frozen? ⟨g, i, none⟩ = false ∧
      ∀ y, 0 ≤ y ∧ y ≤ 255 → OwnB (w.setCell ⟨g, i, none⟩ (.int .u8 y)) base (.slice A n c) (l.set i y) := by
  subst hn
  rcases h.own.2 with ⟨h0, h1⟩ | ⟨g, cap, cur, h0, hb, hh, hnc, hmx, hsz, htk⟩
  · injection h0 with e1 e2 e3
    omega
  · injection h0 with e1 e2 e3
    subst e1 e3
    rw [Nat.mul_one] at hsz htk
    have hcur : cur[i]? = some (.int .u8 (l.getD i 0)) := by
      have h1 : (cur.toList.take l.length)[i]? = (u8s l)[i]? := by rw [htk]
      rw [List.getElem?_take, if_pos hi] at h1
      rw [← Array.getElem?_toList, h1]
      simp [u8s, List.getD, List.getElem?_eq_getElem hi]
    have hH : Has w g (.cells cur 5 (0, 0)) := hh
    refine ⟨g, rfl, hb, hH.lt, hH.cell i hcur, hH.free i, fun y hy => ⟨⟨?_, .inr ⟨g, c, cur.setIfInBounds i (.int .u8 y), ?_, hb, hH.setCell i (.int .u8 y), ?_, hmx, ?_, ?_⟩⟩, ?_⟩⟩
    · rw [u8s_length, Nat.mul_one]
    · rw [List.length_set]
    · rw [List.length_set]; exact hnc
    · rw [Nat.mul_one]; simpa using hsz
    · rw [List.length_set, Nat.mul_one, Array.toList_setIfInBounds, List.take_set, htk]
      simp [u8s, List.map_set]
    · intro x hx
      rcases List.mem_or_eq_of_mem_set hx with h1 | h1
      · exact h.rng x h1
      · rw [h1]; exact hy
end Go.Proofs.Ytijnifbpbgckgaa
namespace Go.Proofs.Ytijnifbpbgckgaa
open Go.RowKit

/-- an option (a head): its kind, where its bytes lie, their capacity, the bytes -/
abbrev Kd := Int × Option Addr × Nat × List Int
def kdV (p : Kd) : Value := .slice p.2.1 p.2.2.2.length p.2.2.1
def kdC (ps : List Kd) : List Value := ps.flatMap fun p => [.int .u8 p.1, kdV p]
def kdL (ps : List Kd) : List (Int × List Int) := ps.map fun p => (p.1, p.2.2.2)
theorem kdL_len (ps : List Kd) : (kdL ps).length = ps.length := by simp [kdL]
theorem kdC_get {ps : List Kd} {k : Nat} {p : Kd} (h : ps[k]? = some p) : (kdC ps)[k * 2]? = some (.int .u8 p.1) ∧ (kdC ps)[k * 2 + 1]? = some (kdV p) := by
  induction ps generalizing k with
  | nil => simp at h
  | cons q ps ih =>
    have hc : kdC (q :: ps) = .int .u8 q.1 :: kdV q :: kdC ps := rfl
    cases k with
    | zero =>
      rw [List.getElem?_cons_zero, Option.some.injEq] at h
      subst h
      exact ⟨rfl, rfl⟩
    | succ k =>
      rw [List.getElem?_cons_succ] at h
      have := ih h
      rw [hc]
      rw [show (k + 1) * 2 = k * 2 + 1 + 1 from by omega, List.getElem?_cons_succ, List.getElem?_cons_succ, List.getElem?_cons_succ, List.getElem?_cons_succ]
      exact this

theorem By.atO {B : Nat} {w : World} {b off n c k : Nat} {l : List Int} (h : By B w (some ⟨b, off, none⟩) n c l) (hk : k < n) : w.cell? ⟨b, off + k, none⟩ = some (.int .u8 (l.getD k 0)) := by
  obtain ⟨b', off', x, e, _, hx, hc, _⟩ := h.get hk
  injection e with e
  injection e with e1 e2 e3
  subst e1 e2
  rw [hc, List.getD_eq_getElem?_getD, hx]
  rfl
/-- the slice holds these -/
structure Kds (B : Nat) (w : World) (A : Option Addr) (n c : Nat) (ps : List Kd) : Prop where
  len : ps.length = n
  cap : n ≤ c
  big : c ≤ 9223372036854775807
  at_ : ∀ k p, ps[k]? = some p → ∃ b off, A = some ⟨b, off, none⟩ ∧ b < B ∧ w.cell? ⟨b, off + k * 2, none⟩ = some (.int .u8 p.1) ∧ w.cell? ⟨b, off + k * 2 + 1, none⟩ = some (kdV p) ∧ 0 ≤ p.1 ∧ p.1 ≤ 255 ∧ By B w p.2.1 p.2.2.2.length p.2.2.1 p.2.2.2
theorem Kds.below {B B' : Nat} {w w' : World} {A : Option Addr} {n c : Nat} {ps : List Kd} (h : Kds B w A n c ps) (hb : Below B' w w') (hB : B ≤ B') : Kds B w' A n c ps :=
  ⟨h.len, h.cap, h.big, fun k l hk => by
    obtain ⟨b, off, e, hlt, hc, hc2, r1, r2, hy⟩ := h.at_ k l hk
    exact ⟨b, off, e, hlt, (hb.cell (p := ⟨b, off + k * 2, none⟩) (Nat.lt_of_lt_of_le hlt hB)).trans hc, (hb.cell (p := ⟨b, off + k * 2 + 1, none⟩) (Nat.lt_of_lt_of_le hlt hB)).trans hc2, r1, r2, hy.below hb hB⟩⟩
theorem Kds.more {B B' : Nat} {w : World} {A : Option Addr} {n c : Nat} {ps : List Kd} (h : Kds B w A n c ps) (hB : B ≤ B') : Kds B' w A n c ps :=
  ⟨h.len, h.cap, h.big, fun k l hk => by
    obtain ⟨b, off, e, hlt, hc, hc2, r1, r2, hy⟩ := h.at_ k l hk
    exact ⟨b, off, e, Nat.lt_of_lt_of_le hlt hB, hc, hc2, r1, r2, hy.more hB⟩⟩
theorem Kds.nil (B : Nat) (w : World) : Kds B w none 0 0 [] := ⟨rfl, Nat.le_refl _, by decide, fun _ _ hk => by simp at hk⟩

/-- a row of the call's own of these, their bytes own too -/
structure OwnK (w : World) (base : Nat) (e : TypeId) (v : Value) (ps : List Kd) : Prop where
  own : w.ownsRow base e 2 v ps.length (kdC ps)
  each : ∀ p ∈ ps, 0 ≤ p.1 ∧ p.1 ≤ 255 ∧ OwnB w base (kdV p) p.2.2.2 ∧ NeB v (kdV p)
theorem OwnK.nil (w : World) (base : Nat) (e : TypeId) : OwnK w base e (.slice none 0 0) [] := ⟨World.ownsRow_nil w base _ 2, fun _ h => by cases h⟩
theorem OwnK.below {w w' : World} {base : Nat} {e : TypeId} {v : Value} {ps : List Kd} (h : OwnK w base e v ps) (hb : Below w.heap.size w w') : OwnK w' base e v ps :=
  ⟨own_below h.own hb, fun p hp => ⟨(h.each p hp).1, (h.each p hp).2.1, (h.each p hp).2.2.1.below hb, (h.each p hp).2.2.2⟩⟩
theorem OwnK.more {w : World} {base base' : Nat} {e : TypeId} {v : Value} {ps : List Kd} (h : OwnK w base e v ps) (hb : base' ≤ base) : OwnK w base' e v ps := by
  refine ⟨⟨h.own.1, ?_⟩, fun p hp => ⟨(h.each p hp).1, (h.each p hp).2.1, (h.each p hp).2.2.1.more hb, (h.each p hp).2.2.2⟩⟩
  rcases h.own.2 with h0 | ⟨g, cap, cur, h0, hg, rest⟩
  · exact .inl h0
  · exact .inr ⟨g, cap, cur, h0, Nat.le_trans hb hg, rest⟩
/-- a row of the call's own, read -/
theorem OwnK.kds {w : World} {base : Nat} {e : TypeId} {v : Value} {ps : List Kd} (h : OwnK w base e v ps) : ∃ A c, v = .slice A ps.length c ∧ Kds w.heap.size w A ps.length c ps := by
  have hy : ∀ p ∈ ps, By w.heap.size w p.2.1 p.2.2.2.length p.2.2.1 p.2.2.2 := fun p hp => by
    obtain ⟨A, c, he, hr⟩ := (h.each p hp).2.2.1.by_
    unfold kdV at he
    injection he with h1 h2 h3
    rw [h1, h3]; exact hr
  rcases h.own.2 with ⟨rfl, h0⟩ | ⟨g, cap, cur, rfl, _, hh, hnc, h1, hsz, htk⟩
  · have hn : ps = [] := List.eq_nil_of_length_eq_zero h0
    subst hn
    exact ⟨none, 0, rfl, Kds.nil _ _⟩
  · refine ⟨_, cap, rfl, rfl, hnc, h1, fun k p hk => ?_⟩
    have hkl : k < ps.length := (List.getElem?_eq_some_iff.1 hk).1
    obtain ⟨g1, g2⟩ := kdC_get hk
    have hm := List.mem_of_getElem? hk
    have hat : ∀ j v, j < ps.length * 2 → (kdC ps)[j]? = some v → w.cell? ⟨g, 0 + j, none⟩ = some v := fun j v hj hv => by
      rw [← htk, List.getElem?_take, if_pos hj] at hv
      simp only [World.cell?, hh, Option.isSome_none, Bool.false_eq_true, if_false, Nat.zero_add]
      simpa using hv
    exact ⟨g, 0, rfl, (Array.getElem?_eq_some_iff.1 hh).1, hat _ _ (by omega) g1, by have := hat (k * 2 + 1) _ (by omega) g2; rwa [← Nat.add_assoc] at this, (h.each p hm).1, (h.each p hm).2.1, hy p hm⟩

section
variable {P : Program} (w : World)
end
end Go.Proofs.Ytijnifbpbgckgaa
