/-
  Lemmas and walks for the row of TosixMessages (part 2 of 43).
-/
import Derived.Test.YtijnifbpbgckgaaTmAA
import Derived.Test.YtijnifbpbgckgaaRows
import Derived.WalkKit
import Derived.ProofKit
import Derived.OpenShut
import Derived.ShutString
import Derived.ChangeOld
import Derived.Below
import Derived.Deep.Slices
import Derived.Laws.Tables
import Derived.Laws.CopyOwn
import Derived.Great.BuildSlice
set_option linter.unusedVariables false
set_option linter.unusedSimpArgs false
namespace Go.Proofs.Ytijnifbpbgckgaa
open Go.ChangeShapes Go.WideShapes Go.ChangeAt Go.RowKit

section
variable {H : Type} {enc : TypeId × Value → H} {P : Program} {W : World} {base : Nat} {spare : Nat → Bool} {held : Bool}

theorem cell_bytes {t e : TypeId} {fuel : Nat} {cs : List Value} {x : DataW H × List MemPlace} (ht : P.underlying t = some (.slice e)) (he : P.underlying e = some (.int .u8)) (hc : P.cellsOf e = 1)
    (h : DataW.trod enc P W base spare held fuel t cs = some x) : ∃ A c l, cs = [.slice A (List.length l) c] ∧ By W.heap.size W A l.length c l := by
  rcases open_ints ht he hc h with ⟨rfl, _⟩ | ⟨a, len, cap, zs, rfl, _, hl, hm, hz, _, hcell, hwz⟩
  · exact ⟨none, 0, [], rfl, By.nil _ _ _ (by omega)⟩
  · have hzl : len ≤ zs.length := by rw [hz]; split <;> omega
    have hlen : (zs.take len).length = len := by rw [List.length_take]; omega
    refine ⟨some a, cap, zs.take len, by rw [hlen], ?_⟩
    rw [hlen]
    refine ⟨⟨by rw [u8s_length, hlen], hl, fun hp => ?_⟩, fun y hy => bounds_u8 (hwz y (List.mem_of_mem_take hy)), hm⟩
    obtain ⟨b, off, rfl, hc'⟩ := ints_at hcell (by omega)
    refine ⟨b, off, rfl, World.block_lt_of_cell? W _ (hc' 0 (by omega)), fun j hj => ?_⟩
    rw [hc' j (by omega)]
    have hj' : j < zs.length := by omega
    simp [u8s, List.getElem?_take, hj, List.getElem?_eq_getElem hj']

theorem trod_u8s {t e : TypeId} {n fuel : Nat} {cs : List Value} {x : DataW H × List MemPlace} (ht : P.underlying t = some (.array n e)) (he : P.underlying e = some (.int .u8)) (hc : P.cellsOf e = 1) (hc2 : P.cellsOf t = n)
    (h : DataW.trod enc P W base spare held fuel t cs = some x) : ∃ l, cs = u8s l ∧ List.length l = n ∧ InB l := by
  obtain ⟨xs, m, _, _, hlen, hxl, hi⟩ := DataW.trod_array ht h
  have hel : ∀ i : Nat, i < n → ∃ y : Int, cs[i]? = some (.int .u8 y) ∧ 0 ≤ y ∧ y ≤ 255 := fun i hin => by
    have h1 := hi i hin
    rw [List.getElem?_eq_getElem (by omega)] at h1
    obtain ⟨y, hy, _, hwf⟩ := DataW.trod_int he h1
    rw [hc, Nat.mul_one] at hy
    refine ⟨y, ?_, bounds_u8 hwf⟩
    have hd : cs.drop i = cs[i]'(by omega) :: cs.drop (i + 1) := List.drop_eq_getElem_cons (by omega)
    rw [hd, List.take_succ_cons, List.take_zero] at hy
    injection hy with hy _
    rw [List.getElem?_eq_getElem (by omega), hy]
  have key : ∀ cs : List Value, (∀ i, i < cs.length → ∃ y : Int, cs[i]? = some (.int .u8 y) ∧ 0 ≤ y ∧ y ≤ 255) → ∃ l, cs = u8s l ∧ InB l := fun cs => by
    induction cs with
    | nil => exact fun _ => ⟨[], rfl, InB.nil⟩
    | cons c cs ih =>
      intro h
      obtain ⟨y, hy, hy0⟩ := h 0 (by simp)
      obtain ⟨l, rfl, hl⟩ := ih (fun i hi => by
        obtain ⟨z, hz, hz0⟩ := h (i + 1) (by simp; omega)
        exact ⟨z, by simpa using hz, hz0⟩)
      refine ⟨y :: l, by simp at hy; simp [u8s, hy], fun z hz => ?_⟩
      rcases List.mem_cons.1 hz with rfl | hz
      · exact hy0
      · exact hl z hz
  obtain ⟨l, rfl, hl⟩ := key cs (fun i hi => hel i (by omega))
  exact ⟨l, rfl, by rw [← hc2, ← hlen, u8s_length], hl⟩

end
theorem own_ : ownKnob Try.prog.godebug = none := by kernel_rfl
theorem laidOut_ : laidOutB Try.prog = true := by kernel_rfl
end Go.Proofs.Ytijnifbpbgckgaa
namespace Go.Proofs.Ytijnifbpbgckgaa
open Go.ChangeShapes Go.WideShapes Go.ChangeAt Go.RowKit

section
variable {H : Type} {enc : TypeId × Value → H} {P : Program} {W : World} {base : Nat} {spare : Nat → Bool} {held : Bool}
theorem field_at {t : TypeId} {fs : Array Field} {fuel : Nat} {cs : List Value} {x : DataW H × List MemPlace} (ht : P.underlying t = some (.struct fs)) (h : DataW.trod enc P W base spare held fuel t cs = some x) :
    ∃ m, ∀ (i : Nat) (f : Field) (n : Nat), fs[i]? = some f → P.cellsOf f.type = n → ∃ y, DataW.trod enc P W base spare held m f.type ((cs.drop f.offset).take n) = some y := by
  obtain ⟨xs, m, _, _, _, hxl, hi⟩ := DataW.trod_struct ht h
  refine ⟨m, fun i f n hf hn => ?_⟩
  subst hn
  have hlt : i < xs.length := by have := (Array.getElem?_eq_some_iff.1 hf).1; omega
  exact ⟨xs[i], (hi i f hf).trans (List.getElem?_eq_getElem hlt)⟩
theorem struct_len {t : TypeId} {fs : Array Field} {fuel : Nat} {cs : List Value} {x : DataW H × List MemPlace} (ht : P.underlying t = some (.struct fs)) (h : DataW.trod enc P W base spare held fuel t cs = some x) : cs.length = P.cellsOf t := by
  obtain ⟨xs, m, _, _, hl, _, _⟩ := DataW.trod_struct ht h
  exact hl
end
theorem one_eq {a b : Value} (h : [a] = [b]) : a = b := by injection h
end Go.Proofs.Ytijnifbpbgckgaa
namespace Go.Proofs.Ytijnifbpbgckgaa

/-- one byte more: the words that are whole, and the high byte that waits -/
def stp (s : List Int × Option Int) (c : Int) : List Int × Option Int :=
  match s.2 with
  | none => (s.1, some c)
  | some h => (s.1 ++ [h * 256 + c], none)
def runw (l : List Int) : List Int × Option Int := l.foldl stp ([], none)
def rest : Option Int → List Int
  | none => []
  | some h => [h * 256]
/-- the words of bytes -/
def wds (l : List Int) : List Int := (runw l).1 ++ rest (runw l).2
/-- two sums -/
def addw (a b : Int) : Int := (a + b) % 65536 + (a + b) / 65536
/-- the sum of words, from a start -/
def fold (n : Int) (ws : List Int) : Int := ws.foldl addw n
def sumw (l : List Int) : Int := fold 0 (wds l)

theorem runw_snoc (l : List Int) (c : Int) : runw (l ++ [c]) = stp (runw l) c := by simp [runw]
theorem fold_snoc (n : Int) (l : List Int) (c : Int) : fold n (l ++ [c]) = addw (fold n l) c := by simp [fold]
theorem fold_append (n : Int) (l m : List Int) : fold n (l ++ m) = fold (fold n l) m := by simp [fold]
theorem stp_le (s : List Int × Option Int) (c : Int) : (stp s c).1.length ≤ s.1.length + 1 := by
  unfold stp
  split <;> simp
theorem foldl_stp_le (l : List Int) : ∀ s : List Int × Option Int, (l.foldl stp s).1.length ≤ s.1.length + l.length := by
  induction l with
  | nil => intro s; simp
  | cons c l ih =>
    intro s
    have h := ih (stp s c)
    have := stp_le s c
    simp only [List.foldl_cons, List.length_cons]
    omega
theorem runw_le (l : List Int) : (runw l).1.length ≤ l.length := by
  have := foldl_stp_le l ([], none)
  simpa [runw] using this
theorem addw_rng {a b : Int} (ha : 0 ≤ a ∧ a < 65536) (hb : 0 ≤ b ∧ b < 65536) : 0 ≤ addw a b ∧ addw a b < 65536 := by unfold addw; omega
theorem fold_rng (n : Int) (hn : 0 ≤ n ∧ n < 65536) (l : List Int) (h : ∀ x ∈ l, 0 ≤ x ∧ x < 65536) : 0 ≤ fold n l ∧ fold n l < 65536 := by
  induction l generalizing n with
  | nil => exact hn
  | cons c l ih => exact ih (addw n c) (addw_rng hn (h c (by simp))) (fun x hx => h x (by simp [hx]))
theorem stp_rng {s : List Int × Option Int} {c : Int} (h1 : ∀ x ∈ s.1, 0 ≤ x ∧ x < 65536) (h2 : ∀ h, s.2 = some h → 0 ≤ h ∧ h ≤ 255) (hc : 0 ≤ c ∧ c ≤ 255) :
    (∀ x ∈ (stp s c).1, 0 ≤ x ∧ x < 65536) ∧ ∀ h, (stp s c).2 = some h → 0 ≤ h ∧ h ≤ 255 := by
  unfold stp
  split
  · exact ⟨h1, fun h e => by injection e with e; omega⟩
  · rename_i h e
    have := h2 h e
    refine ⟨fun x hx => ?_, fun h e => by cases e⟩
    rcases List.mem_append.1 hx with hx | hx
    · exact h1 x hx
    · simp at hx; omega
theorem foldl_stp_rng (l : List Int) (hl : ∀ x ∈ l, 0 ≤ x ∧ x ≤ 255) : ∀ s : List Int × Option Int, (∀ x ∈ s.1, 0 ≤ x ∧ x < 65536) → (∀ h, s.2 = some h → 0 ≤ h ∧ h ≤ 255) →
    (∀ x ∈ (l.foldl stp s).1, 0 ≤ x ∧ x < 65536) ∧ ∀ h, (l.foldl stp s).2 = some h → 0 ≤ h ∧ h ≤ 255 := by
  induction l with
  | nil => exact fun s h1 h2 => ⟨h1, h2⟩
  | cons c l ih =>
    intro s h1 h2
    have := stp_rng h1 h2 (hl c (by simp))
    exact ih (fun x hx => hl x (by simp [hx])) _ this.1 this.2
theorem wds_rng (l : List Int) (hl : ∀ x ∈ l, 0 ≤ x ∧ x ≤ 255) : ∀ x ∈ wds l, 0 ≤ x ∧ x < 65536 := by
  have h := foldl_stp_rng l hl ([], none) (by simp) (by simp)
  intro x hx
  unfold wds at hx
  rcases List.mem_append.1 hx with hx | hx
  · exact h.1 x hx
  · cases e : (runw l).2 with
    | none => rw [e] at hx; simp [rest] at hx
    | some y =>
      have := h.2 y e
      rw [e] at hx
      simp [rest] at hx
      omega
theorem sumw_rng (l : List Int) (hl : ∀ x ∈ l, 0 ≤ x ∧ x ≤ 255) : 0 ≤ sumw l ∧ sumw l < 65536 := fold_rng 0 (by omega) _ (wds_rng l hl)

theorem foldl_stp_even : ∀ (l : List Int) (ws : List Int), l.length % 2 = 0 → (l.foldl stp (ws, none)).2 = none
  | [], _, _ => rfl
  | [_], _, h => by simp at h
  | a :: b :: l, ws, h => by
    simp only [List.foldl_cons, stp]
    exact foldl_stp_even l _ (by simp only [List.length_cons] at h; omega)
theorem runw_even (l : List Int) (h : l.length % 2 = 0) : (runw l).2 = none := foldl_stp_even l [] h
theorem wds_even (l : List Int) (h : l.length % 2 = 0) : wds l = (runw l).1 := by unfold wds; rw [runw_even l h]; simp [rest]
/-- two bytes more behind an even number of them; or one, the last -/
theorem wds_two (l : List Int) (h : l.length % 2 = 0) (a b : Int) : wds (l ++ [a, b]) = wds l ++ [a * 256 + b] := by
  have h1 : l ++ [a, b] = (l ++ [a]) ++ [b] := by simp
  rw [wds_even (l ++ [a, b]) (by simp; omega), h1, runw_snoc, runw_snoc, wds_even l h]
  have := runw_even l h
  generalize runw l = r at this
  obtain ⟨x, y⟩ := r
  simp only at this
  subst this
  rfl
theorem wds_one (l : List Int) (h : l.length % 2 = 0) (a : Int) : wds (l ++ [a]) = wds l ++ [a * 256] := by
  unfold wds
  rw [runw_snoc, runw_even l h]
  have := runw_even l h
  generalize runw l = r at this
  obtain ⟨x, y⟩ := r
  simp only at this
  subst this
  simp [stp, rest]
theorem wds_len (l : List Int) : (wds l).length ≤ l.length + 1 := by
  have := runw_le l
  unfold wds
  rw [List.length_append]
  cases (runw l).2 <;> simp [rest] <;> omega

/-- ones' complement of each word -/
def neg (l : List Int) : List Int := l.map (65535 - ·)
theorem neg_snoc (l : List Int) (x : Int) : neg (l ++ [x]) = neg l ++ [65535 - x] := by simp [neg]
/-- the sum of a start, words of one row turned, words of another one; and the error's number -/
def changedS (n : Int) (t p : List Int) : Int × Int :=
  if t.length = p.length ∧ p.length % 2 = 0 then (fold (fold n (neg (wds t))) (wds p), 0) else (0, 10)
end Go.Proofs.Ytijnifbpbgckgaa
namespace Go.Proofs.Ytijnifbpbgckgaa

/-- the sum of words whose total is t -/
def cs (t : Int) : Int := if t = 0 then 0 else (t - 1) % 65535 + 1
theorem neg_rng (l : List Int) (h : ∀ x ∈ l, 0 ≤ x ∧ x < 65536) : ∀ x ∈ neg l, 0 ≤ x ∧ x < 65536 := fun x hx => by
  obtain ⟨y, hy, rfl⟩ := List.mem_map.1 hx
  have := h y hy
  omega
/-- the reference's order of a change -/
theorem rupdate_eq (was : Int) (hw : 0 ≤ was ∧ was < 65536) (f t : List Int) (hf : ∀ x ∈ f, 0 ≤ x ∧ x ≤ 255) (ht : ∀ x ∈ t, 0 ≤ x ∧ x ≤ 255) :
    fold 0 ([65535 - was] ++ neg (wds f) ++ wds t) = fold (fold (65535 - was) (neg (wds f))) (wds t) := by
  rw [fold_append, fold_append]
  have : fold 0 [65535 - was] = 65535 - was := by simp only [fold, List.foldl_cons, List.foldl_nil, addw]; omega
  rw [this]
end Go.Proofs.Ytijnifbpbgckgaa
namespace Go.Proofs.Ytijnifbpbgckgaa
open Go.RowKit

/-- a message's numbers and bytes -/
structure D7 where
  (ty code rest : Int) (bl : List Int)
def D7.cells (d : D7) (A : Option Addr) (c : Nat) : Array Value := #[.int .u8 d.ty, .int .u8 d.code, .int .u32 d.rest, .slice A d.bl.length c]
structure D7.ok (d : D7) : Prop where
  ty : 0 ≤ d.ty ∧ d.ty ≤ 255
  code : 0 ≤ d.code ∧ d.code ≤ 255
  rest : 0 ≤ d.rest ∧ d.rest < 4294967296
/-- the message reads so in a world -/
structure Rd7 (B : Nat) (w : World) (d : D7) (A : Option Addr) (c : Nat) : Prop where
  ok : d.ok
  body : By B w A d.bl.length c d.bl
theorem Rd7.below {B B' : Nat} {w w' : World} {d : D7} {A : Option Addr} {c : Nat} (h : Rd7 B w d A c) (hb : Below B' w w') (hB : B ≤ B') : Rd7 B w' d A c := ⟨h.ok, h.body.below hb hB⟩
theorem Rd7.more {B B' : Nat} {w : World} {d : D7} {A : Option Addr} {c : Nat} (h : Rd7 B w d A c) (hB : B ≤ B') : Rd7 B' w d A c := ⟨h.ok, h.body.more hB⟩

/-- the first eight bytes, with a checksum -/
def D7.first (d : D7) (s : Int) : List Int := [d.ty, d.code, s / 256, s % 256, d.rest / 16777216, d.rest / 65536 % 256, d.rest / 256 % 256, d.rest % 256]
def D7.sum (d : D7) (ps : List Int) : Int := 65535 - sumw (ps ++ d.first 0 ++ d.bl)
/-- the bytes behind a pseudo header -/
def D7.bytes (d : D7) (ps : List Int) : List Int := d.first (d.sum ps) ++ d.bl
def D7.err (d : D7) : Int := if 65527 < d.bl.length then 2 else 0
def D7.write (d : D7) (ps : List Int) : List Int := if 65527 < d.bl.length then [] else d.bytes ps
/-- the pseudo header of IPv6 -/
def pse6 (a b : List Int) (n p : Int) : List Int := a ++ b ++ [0, 0, n / 256, n % 256, 0, 0, 0, p]
theorem D7.first_rng {d : D7} (hd : d.ok) {s : Int} (hs : 0 ≤ s ∧ s < 65536) : InB (d.first s) := by
  have h1 := hd.ty; have h2 := hd.code; have h3 := hd.rest
  intro x hx
  simp only [D7.first, List.mem_cons, List.not_mem_nil, or_false] at hx
  rcases hx with rfl | rfl | rfl | rfl | rfl | rfl | rfl | rfl
  all_goals omega
theorem D7.bytes_len (d : D7) (ps : List Int) : (d.bytes ps).length = 8 + d.bl.length := by unfold D7.bytes; rw [List.length_append, Nat.add_comm 8]; rw [show (d.first (d.sum ps)).length = 8 from rfl, Nat.add_comm]

/-- no message -/
def zero7 : D7 := ⟨0, 0, 0, []⟩
theorem zero7_ok : zero7.ok := ⟨by decide, by decide, by decide⟩
/-- the message of bytes behind a pseudo header -/
def of7 (l : List Int) : D7 := ⟨l.getD 0 0, l.getD 1 0, l.getD 4 0 * 16777216 + l.getD 5 0 * 65536 + l.getD 6 0 * 256 + l.getD 7 0, l.drop 8⟩
def parse7 (l ps : List Int) : D7 := if l.length < 8 ∨ 65535 < l.length ∨ sumw (ps ++ l) ≠ 65535 then zero7 else of7 l
def perr7 (l ps : List Int) : Int := if l.length < 8 then 70 else if 65535 < l.length then 2 else if sumw (ps ++ l) ≠ 65535 then 71 else 0
theorem getD_rng {l : List Int} (h : InB l) (k : Nat) : 0 ≤ l.getD k 0 ∧ l.getD k 0 ≤ 255 := by
  rw [List.getD_eq_getElem?_getD]
  by_cases hk : k < l.length
  · rw [List.getElem?_eq_getElem hk]; exact h.get hk
  · rw [List.getElem?_eq_none (by omega)]; exact ⟨by decide, by decide⟩
theorem of7_ok {l : List Int} (h : InB l) : (of7 l).ok := by
  have h0 := getD_rng h 0; have h1 := getD_rng h 1; have h4 := getD_rng h 4; have h5 := getD_rng h 5; have h6 := getD_rng h 6; have h7 := getD_rng h 7
  exact ⟨h0, h1, by simp only [of7]; omega⟩
end Go.Proofs.Ytijnifbpbgckgaa
namespace Go.Proofs.Ytijnifbpbgckgaa
open Go.ChangeShapes Go.WideShapes Go.ChangeAt Go.RowKit

section
variable {H : Type} {enc : TypeId × Value → H} {W : World} {base : Nat} {spare : Nat → Bool} {held : Bool}
set_option maxRecDepth 100000 in
theorem open_icmp {v : Value} {d : DataW H} {p : List MemPlace} {r : Reach} {b0 : Nat} (hv : Value.okWide Try.prog W r b0 46 v) (h : DataW.Trod enc Try.prog W base spare held 46 v d p) :
    ∃ D A c, v = .agg (D7.cells D A c) ∧ Rd7 W.heap.size W D A c := by
  have ht := Try.underlying46
  simp only [Value.okWide, ht] at hv
  obtain ⟨cs, rfl, _⟩ := hv
  obtain ⟨fuel, hf⟩ := h
  have hlen : cs.toList.length = 4 := (struct_len ht hf).trans (by kernel_rfl)
  have hk : ∃ m, _ := field_at ht hf
  obtain ⟨m, g⟩ := hk
  obtain ⟨c0, c1, c2, c3, hcs⟩ := len4 hlen
  have g : ∀ (i : Nat) (f : Field) (n : Nat), _ → _ → ∃ y, DataW.trod enc Try.prog W base spare held m f.type (([c0, c1, c2, c3].drop f.offset).take n) = some y := hcs ▸ g
  obtain ⟨y0, e0⟩ := g 0 _ 1 rfl (by kernel_rfl)
  obtain ⟨y1, e1⟩ := g 1 _ 1 rfl (by kernel_rfl)
  obtain ⟨y2, e2⟩ := g 2 _ 1 rfl (by kernel_rfl)
  obtain ⟨y3, e3⟩ := g 3 _ 1 rfl (by kernel_rfl)
  obtain ⟨ty, q0, _, w0⟩ := DataW.trod_int Try.underlying5 e0
  obtain ⟨code, q1, _, w1⟩ := DataW.trod_int Try.underlying5 e1
  obtain ⟨rest, q2, _, w2⟩ := DataW.trod_int Try.underlying33 e2
  obtain ⟨A, c, l, q3, y⟩ := cell_bytes Try.underlying25 Try.underlying5 (by kernel_rfl) e3
  have k0 : c0 = .int .u8 ty := one_eq q0
  have k1 : c1 = .int .u8 code := one_eq q1
  have k2 : c2 = .int .u32 rest := one_eq q2
  have k3 : c3 = .slice A l.length c := one_eq q3
  subst k0 k1 k2 k3
  have b2 := bounds_u32 w2
  have b3 : rest < 4294967296 := by omega
  refine ⟨⟨ty, code, rest, l⟩, A, c, ?_, ⟨⟨bounds_u8 w0, bounds_u8 w1, b2.1, b3⟩, y⟩⟩
  rw [← Array.toArray_toList (xs := cs), hcs]; rfl
end
end Go.Proofs.Ytijnifbpbgckgaa
namespace Go.Proofs.Ytijnifbpbgckgaa
open Go.RowKit

theorem Has.setRow_same {w : World} {g : Nat} {cs cs' : Array Value} {t : TypeId} {fz : Nat × Nat} (h : Has w g (.cells cs t fz)) : Has (w.setRow g cs') g (.cells cs' t fz) := Go.setRow_heap w g cs cs' t fz h
theorem Has.setRow_other {w : World} {g k : Nat} {cs' : Array Value} {o : Obj} (h : Has w k o) (hk : k ≠ g) : Has (w.setRow g cs') k o := (Go.setRow_other w g k cs' hk).trans h

theorem Has.setCell {w : World} {g : Nat} {cs : Array Value} {t : TypeId} {fz : Nat × Nat} (h : Has w g (.cells cs t fz)) (k : Nat) (v : Value) : Has (w.setCell ⟨g, k, none⟩ v) g (.cells (cs.setIfInBounds k v) t fz) := by
  have hlt := h.lt
  have hv : w.heap[g] = .cells cs t fz := (Array.getElem?_eq_some_iff.1 h).2
  unfold Has World.setCell
  rw [Array.getElem?_eq_getElem (by simpa using hlt), Array.getElem_modify]
  simp [hv]
theorem Has.setCell_other {w : World} {g j : Nat} {o : Obj} (h : Has w j o) (hj : j ≠ g) (k : Nat) (v : Value) : Has (w.setCell ⟨g, k, none⟩ v) j o := by
  unfold Has World.setCell
  simpa [Array.getElem?_modify, Ne.symm hj] using show w.heap[j]? = some o from h
theorem below_setCell {B g : Nat} {w0 w : World} (hb : Below B w0 w) (hg : B ≤ g) (k : Nat) (v : Value) : Below B w0 (w.setCell ⟨g, k, none⟩ v) :=
  hb.trans ⟨rfl, rfl, rfl, by simp [World.setCell], fun j hj => by simp [World.setCell, Array.getElem?_modify]; intro h; omega⟩
theorem OwnB.setCell {w : World} {base g : Nat} {v : Value} {l : List Int} (h : OwnB w base v l) (hg : g < base) (k : Nat) (u : Value) : OwnB (w.setCell ⟨g, k, none⟩ u) base v l := by
  refine ⟨⟨h.own.1, ?_⟩, h.rng⟩
  rcases h.own.2 with h0 | ⟨g', cap, cur, h0, hb, hh, rest⟩
  · exact .inl h0
  · exact .inr ⟨g', cap, cur, h0, hb, Has.setCell_other hh (by omega) k u, rest⟩
theorem below_drew (B : Nat) (w : World) : Below B w w.drew := ⟨rfl, rfl, rfl, Nat.le_refl _, fun _ _ => rfl⟩

/-- a whole row into a block of the call's own -/
theorem wpList_store_has {P : Program} {ops : Array Oper} {rest : List Oper} {o : Oper} {a : Act} {w : World} {Q : Exit → Act → World → Prop} (hgd : o.guard = none) (ty : TypeId) (x y : Operand) (ho : o.op = .store ty x y)
    (g : Nat) (cells : Array Value) (hx : a.eval x = .pointer (some ⟨g, 0, none⟩)) (hy : a.eval y = .agg cells)
    (t : TypeId) (old : Array Value) (hg : Has w g (.cells old t (0, 0))) (hi : (P.info? ty).map (·.size) = some cells.size)
    (hold : old.size = cells.size) (h1 : cells.all (·.oneCell') = true)
    (h : ∀ w', Has w' g (.cells cells t (0, 0)) → Below g w w' → wpList P ops Q rest (a.put o.dst undef) w') : wpList P ops Q (o :: rest) a w :=
  wpList_store_row hgd ty x y ho g cells hx hy t old hg hi hold h1 (h _ hg.setRow_same (below_setRow (Below.refl _ _) (Nat.le_refl _) _))
end Go.Proofs.Ytijnifbpbgckgaa
namespace Go.Proofs.Ytijnifbpbgckgaa
open Go.RowKit

/-- a byte of an own row, and the row with another one in its place -/
theorem OwnB.byte {w : World} {base n c : Nat} {A : Option Addr} {l : List Int} (h : OwnB w base (.slice A n c) l) (hn : n = l.length) {i : Nat} (hi : i < n) :
    ∃ g, A = some ⟨g, 0, none⟩ ∧ base ≤ g ∧ g < w.heap.size ∧ w.cell? ⟨g, i, none⟩ = some (.int .u8 (l.getD i 0)) ∧ w.frozen? ⟨g, i, none⟩ = false ∧
      ∀ y, 0 ≤ y ∧ y ≤ 255 → OwnB (w.setCell ⟨g, i, none⟩ (.int .u8 y)) base (.slice A n c) (l.set i y) := by
  subst hn
  rcases h.own.2 with ⟨h0, h1⟩ | ⟨g, cap, cur, h0, hb, hh, hnc, hmx, hsz, htk⟩
  · injection h0 with e1 e2 e3
    omega
  · injection h0 with e1 e2 e3
    subst e1 e3
    rw [Nat.mul_one] at hsz htk
    have hcur : cur[i]? = some (.int .u8 (l.getD i 0)) := by
      have h1 : (cur.toList.take l.length)[i]? = (u8s l)[i]? := by rw [htk]
      rw [List.getElem?_take, if_pos hi] at h1
      rw [← Array.getElem?_toList, h1]
      simp [u8s, List.getD, List.getElem?_eq_getElem hi]
    have hH : Has w g (.cells cur 5 (0, 0)) := hh
    refine ⟨g, rfl, hb, hH.lt, hH.cell i hcur, hH.free i, fun y hy => ⟨⟨?_, .inr ⟨g, c, cur.setIfInBounds i (.int .u8 y), ?_, hb, hH.setCell i (.int .u8 y), ?_, hmx, ?_, ?_⟩⟩, ?_⟩⟩
    · rw [u8s_length, Nat.mul_one]
    · rw [List.length_set]
    · rw [List.length_set]; exact hnc
    · rw [Nat.mul_one]; simpa using hsz
    · rw [List.length_set, Nat.mul_one, Array.toList_setIfInBounds, List.take_set, htk]
      simp [u8s, List.map_set]
    · intro x hx
      rcases List.mem_or_eq_of_mem_set hx with h1 | h1
      · exact h.rng x h1
      · rw [h1]; exact hy
end Go.Proofs.Ytijnifbpbgckgaa
namespace Go.Proofs.Ytijnifbpbgckgaa
open Go.RowKit

/-- an option (a head): its kind, where its bytes lie, their capacity, the bytes -/
abbrev Kd := Int × Option Addr × Nat × List Int
def kdV (p : Kd) : Value := .slice p.2.1 p.2.2.2.length p.2.2.1
def kdC (ps : List Kd) : List Value := ps.flatMap fun p => [.int .u8 p.1, kdV p]
def kdL (ps : List Kd) : List (Int × List Int) := ps.map fun p => (p.1, p.2.2.2)
theorem kdL_len (ps : List Kd) : (kdL ps).length = ps.length := by simp [kdL]
theorem kdC_get {ps : List Kd} {k : Nat} {p : Kd} (h : ps[k]? = some p) : (kdC ps)[k * 2]? = some (.int .u8 p.1) ∧ (kdC ps)[k * 2 + 1]? = some (kdV p) := by
  induction ps generalizing k with
  | nil => simp at h
  | cons q ps ih =>
    have hc : kdC (q :: ps) = .int .u8 q.1 :: kdV q :: kdC ps := rfl
    cases k with
    | zero =>
      rw [List.getElem?_cons_zero, Option.some.injEq] at h
      subst h
      exact ⟨rfl, rfl⟩
    | succ k =>
      rw [List.getElem?_cons_succ] at h
      have := ih h
      rw [hc]
      rw [show (k + 1) * 2 = k * 2 + 1 + 1 from by omega, List.getElem?_cons_succ, List.getElem?_cons_succ, List.getElem?_cons_succ, List.getElem?_cons_succ]
      exact this

theorem By.atO {B : Nat} {w : World} {b off n c k : Nat} {l : List Int} (h : By B w (some ⟨b, off, none⟩) n c l) (hk : k < n) : w.cell? ⟨b, off + k, none⟩ = some (.int .u8 (l.getD k 0)) := by
  obtain ⟨b', off', x, e, _, hx, hc, _⟩ := h.get hk
  injection e with e
  injection e with e1 e2 e3
  subst e1 e2
  rw [hc, List.getD_eq_getElem?_getD, hx]
  rfl
/-- the slice holds these -/
structure Kds (B : Nat) (w : World) (A : Option Addr) (n c : Nat) (ps : List Kd) : Prop where
  len : ps.length = n
  cap : n ≤ c
  big : c ≤ 9223372036854775807
  at_ : ∀ k p, ps[k]? = some p → ∃ b off, A = some ⟨b, off, none⟩ ∧ b < B ∧ w.cell? ⟨b, off + k * 2, none⟩ = some (.int .u8 p.1) ∧ w.cell? ⟨b, off + k * 2 + 1, none⟩ = some (kdV p) ∧ 0 ≤ p.1 ∧ p.1 ≤ 255 ∧ By B w p.2.1 p.2.2.2.length p.2.2.1 p.2.2.2
theorem Kds.below {B B' : Nat} {w w' : World} {A : Option Addr} {n c : Nat} {ps : List Kd} (h : Kds B w A n c ps) (hb : Below B' w w') (hB : B ≤ B') : Kds B w' A n c ps :=
  ⟨h.len, h.cap, h.big, fun k l hk => by
    obtain ⟨b, off, e, hlt, hc, hc2, r1, r2, hy⟩ := h.at_ k l hk
    exact ⟨b, off, e, hlt, (hb.cell (p := ⟨b, off + k * 2, none⟩) (Nat.lt_of_lt_of_le hlt hB)).trans hc, (hb.cell (p := ⟨b, off + k * 2 + 1, none⟩) (Nat.lt_of_lt_of_le hlt hB)).trans hc2, r1, r2, hy.below hb hB⟩⟩
theorem Kds.more {B B' : Nat} {w : World} {A : Option Addr} {n c : Nat} {ps : List Kd} (h : Kds B w A n c ps) (hB : B ≤ B') : Kds B' w A n c ps :=
  ⟨h.len, h.cap, h.big, fun k l hk => by
    obtain ⟨b, off, e, hlt, hc, hc2, r1, r2, hy⟩ := h.at_ k l hk
    exact ⟨b, off, e, Nat.lt_of_lt_of_le hlt hB, hc, hc2, r1, r2, hy.more hB⟩⟩
theorem Kds.nil (B : Nat) (w : World) : Kds B w none 0 0 [] := ⟨rfl, Nat.le_refl _, by decide, fun _ _ hk => by simp at hk⟩

/-- a row of the call's own of these, their bytes own too -/
structure OwnK (w : World) (base : Nat) (e : TypeId) (v : Value) (ps : List Kd) : Prop where
  own : w.ownsRow base e 2 v ps.length (kdC ps)
  each : ∀ p ∈ ps, 0 ≤ p.1 ∧ p.1 ≤ 255 ∧ OwnB w base (kdV p) p.2.2.2 ∧ NeB v (kdV p)
theorem OwnK.nil (w : World) (base : Nat) (e : TypeId) : OwnK w base e (.slice none 0 0) [] := ⟨World.ownsRow_nil w base _ 2, fun _ h => by cases h⟩
theorem OwnK.below {w w' : World} {base : Nat} {e : TypeId} {v : Value} {ps : List Kd} (h : OwnK w base e v ps) (hb : Below w.heap.size w w') : OwnK w' base e v ps :=
  ⟨own_below h.own hb, fun p hp => ⟨(h.each p hp).1, (h.each p hp).2.1, (h.each p hp).2.2.1.below hb, (h.each p hp).2.2.2⟩⟩
theorem OwnK.more {w : World} {base base' : Nat} {e : TypeId} {v : Value} {ps : List Kd} (h : OwnK w base e v ps) (hb : base' ≤ base) : OwnK w base' e v ps := by
  refine ⟨⟨h.own.1, ?_⟩, fun p hp => ⟨(h.each p hp).1, (h.each p hp).2.1, (h.each p hp).2.2.1.more hb, (h.each p hp).2.2.2⟩⟩
  rcases h.own.2 with h0 | ⟨g, cap, cur, h0, hg, rest⟩
  · exact .inl h0
  · exact .inr ⟨g, cap, cur, h0, Nat.le_trans hb hg, rest⟩
/-- a row of the call's own, read -/
theorem OwnK.kds {w : World} {base : Nat} {e : TypeId} {v : Value} {ps : List Kd} (h : OwnK w base e v ps) : ∃ A c, v = .slice A ps.length c ∧ Kds w.heap.size w A ps.length c ps := by
  have hy : ∀ p ∈ ps, By w.heap.size w p.2.1 p.2.2.2.length p.2.2.1 p.2.2.2 := fun p hp => by
    obtain ⟨A, c, he, hr⟩ := (h.each p hp).2.2.1.by_
    unfold kdV at he
    injection he with h1 h2 h3
    rw [h1, h3]; exact hr
  rcases h.own.2 with ⟨rfl, h0⟩ | ⟨g, cap, cur, rfl, _, hh, hnc, h1, hsz, htk⟩
  · have hn : ps = [] := List.eq_nil_of_length_eq_zero h0
    subst hn
    exact ⟨none, 0, rfl, Kds.nil _ _⟩
  · refine ⟨_, cap, rfl, rfl, hnc, h1, fun k p hk => ?_⟩
    have hkl : k < ps.length := (List.getElem?_eq_some_iff.1 hk).1
    obtain ⟨g1, g2⟩ := kdC_get hk
    have hm := List.mem_of_getElem? hk
    have hat : ∀ j v, j < ps.length * 2 → (kdC ps)[j]? = some v → w.cell? ⟨g, 0 + j, none⟩ = some v := fun j v hj hv => by
      rw [← htk, List.getElem?_take, if_pos hj] at hv
      simp only [World.cell?, hh, Option.isSome_none, Bool.false_eq_true, if_false, Nat.zero_add]
      simpa using hv
    exact ⟨g, 0, rfl, (Array.getElem?_eq_some_iff.1 hh).1, hat _ _ (by omega) g1, by have := hat (k * 2 + 1) _ (by omega) g2; rwa [← Nat.add_assoc] at this, (h.each p hm).1, (h.each p hm).2.1, hy p hm⟩

section
variable {P : Program} (w : World)
end
end Go.Proofs.Ytijnifbpbgckgaa
