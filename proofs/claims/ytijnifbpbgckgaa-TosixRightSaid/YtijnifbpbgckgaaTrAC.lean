/-
  Lemmas and walks for the row of TosixRight (part 3 of 33).
-/
import Derived.Test.YtijnifbpbgckgaaTrAA
import Derived.Test.YtijnifbpbgckgaaTrAB
import Derived.Below
set_option linter.unusedVariables false
set_option linter.unusedSimpArgs false
namespace Go.Proofs.Ytijnifbpbgckgaa
open Go.RowKit

/-- a datagram's numbers and bytes -/
structure D6 where
  (cls lab hop : Int) (src dst : List Int) (hs : List (Int × List Int)) (frag : Bool) (id off : Int) (more : Bool) (pro : Int) (bl : List Int)
/-- where its heads and its body lie -/
structure W6 where
  (hA : Option Addr) (hc : Nat) (ps : List Kd) (bA : Option Addr) (bc : Nat)
def l16 (s : List Int) : List Int := [s.getD 0 0, s.getD 1 0, s.getD 2 0, s.getD 3 0, s.getD 4 0, s.getD 5 0, s.getD 6 0, s.getD 7 0, s.getD 8 0, s.getD 9 0, s.getD 10 0, s.getD 11 0, s.getD 12 0, s.getD 13 0, s.getD 14 0, s.getD 15 0]
theorem l16_eq {s : List Int} (h : s.length = 16) : l16 s = s := by
  obtain ⟨x0, x1, x2, x3, x4, x5, x6, x7, x8, x9, x10, x11, x12, x13, x14, x15, rfl⟩ := len16 h
  rfl
def D6.cells (d : D6) (p : W6) : Array Value :=
  #[.int .u8 d.cls, .int .u32 d.lab, .int .u8 d.hop,
    .int .u8 (d.src.getD 0 0), .int .u8 (d.src.getD 1 0), .int .u8 (d.src.getD 2 0), .int .u8 (d.src.getD 3 0), .int .u8 (d.src.getD 4 0), .int .u8 (d.src.getD 5 0), .int .u8 (d.src.getD 6 0), .int .u8 (d.src.getD 7 0), .int .u8 (d.src.getD 8 0), .int .u8 (d.src.getD 9 0), .int .u8 (d.src.getD 10 0), .int .u8 (d.src.getD 11 0), .int .u8 (d.src.getD 12 0), .int .u8 (d.src.getD 13 0), .int .u8 (d.src.getD 14 0), .int .u8 (d.src.getD 15 0),
    .int .u8 (d.dst.getD 0 0), .int .u8 (d.dst.getD 1 0), .int .u8 (d.dst.getD 2 0), .int .u8 (d.dst.getD 3 0), .int .u8 (d.dst.getD 4 0), .int .u8 (d.dst.getD 5 0), .int .u8 (d.dst.getD 6 0), .int .u8 (d.dst.getD 7 0), .int .u8 (d.dst.getD 8 0), .int .u8 (d.dst.getD 9 0), .int .u8 (d.dst.getD 10 0), .int .u8 (d.dst.getD 11 0), .int .u8 (d.dst.getD 12 0), .int .u8 (d.dst.getD 13 0), .int .u8 (d.dst.getD 14 0), .int .u8 (d.dst.getD 15 0),
    .slice p.hA d.hs.length p.hc, .bool d.frag, .int .u32 d.id, .int .i64 d.off, .bool d.more, .int .u8 d.pro, .slice p.bA d.bl.length p.bc]
structure D6.ok (d : D6) : Prop where
  cls : 0 ≤ d.cls ∧ d.cls ≤ 255
  lab : 0 ≤ d.lab ∧ d.lab < 4294967296
  hop : 0 ≤ d.hop ∧ d.hop ≤ 255
  srcL : d.src.length = 16
  src : InB d.src
  dstL : d.dst.length = 16
  dst : InB d.dst
  id : 0 ≤ d.id ∧ d.id < 4294967296
  off : -9223372036854775808 ≤ d.off ∧ d.off ≤ 9223372036854775807
  pro : 0 ≤ d.pro ∧ d.pro ≤ 255
/-- the datagram reads so in a world -/
structure Rd6 (B : Nat) (w : World) (d : D6) (p : W6) : Prop where
  ok : d.ok
  hl : kdL p.ps = d.hs
  hd : Kds B w p.hA d.hs.length p.hc p.ps
  body : By B w p.bA d.bl.length p.bc d.bl
theorem Rd6.below {B B' : Nat} {w w' : World} {d : D6} {p : W6} (h : Rd6 B w d p) (hb : Below B' w w') (hB : B ≤ B') : Rd6 B w' d p := ⟨h.ok, h.hl, h.hd.below hb hB, h.body.below hb hB⟩
theorem Rd6.more {B B' : Nat} {w : World} {d : D6} {p : W6} (h : Rd6 B w d p) (hB : B ≤ B') : Rd6 B' w d p := ⟨h.ok, h.hl, h.hd.more hB, h.body.more hB⟩

/-- the kinds of a head -/
def extra6 (k : Int) : Bool := decide (k = 0 ∨ k = 43 ∨ k = 60)
def badH (i : Nat) (h : Int × List Int) : Bool := !extra6 h.1 || (decide (h.1 = 0) && decide (0 < i)) || decide (h.2.length % 8 ≠ 6) || decide (2046 < h.2.length)
def okH : Nat → List (Int × List Int) → Bool
  | _, [] => true
  | i, h :: t => !badH i h && okH (i + 1) t
def D6.tail (d : D6) : Bool := if d.frag then decide (0 ≤ d.off ∧ d.off ≤ 8191) else decide (d.id = 0 ∧ d.off = 0 ∧ d.more = false ∧ extra6 d.pro = false ∧ d.pro ≠ 44)
def D6.right (d : D6) : Bool := decide (d.lab < 1048576) && (decide (d.hs.length ≤ 8) && (okH 0 d.hs && d.tail))
def hsz : List (Int × List Int) → Nat
  | [] => 0
  | h :: t => 2 + h.2.length + hsz t
theorem hsz_append (a b : List (Int × List Int)) : hsz (a ++ b) = hsz a + hsz b := by
  induction a with
  | nil => simp [hsz]
  | cons h t ih => simp only [List.cons_append, hsz, ih]; omega
def D6.ahead (d : D6) : Nat := 40 + hsz d.hs + (if d.frag then 8 else 0)
/-- may it be: 0, or the error's number -/
def D6.check (d : D6) : Int := if d.right = false then 54 else if 65535 < d.bl.length + (d.ahead - 40) then 2 else 0
theorem D6.check_cases (d : D6) : d.check = 0 ∨ d.check = 54 ∨ d.check = 2 := by unfold D6.check; split <;> (try split) <;> simp
theorem badH_false {i : Nat} {h : Int × List Int} (hb : badH i h = false) : (h.1 = 0 ∨ h.1 = 43 ∨ h.1 = 60) ∧ (h.1 = 0 → i = 0) ∧ h.2.length % 8 = 6 ∧ h.2.length ≤ 2046 := by
  simp only [badH, extra6, Bool.or_eq_false_iff, Bool.not_eq_false', decide_eq_true_eq, decide_eq_false_iff_not, Bool.and_eq_false_iff, ne_eq] at hb
  obtain ⟨⟨⟨h1, h2⟩, h3⟩, h4⟩ := hb
  refine ⟨h1, fun h0 => ?_, by omega, by omega⟩
  rcases h2 with h2 | h2
  · exact absurd h0 h2
  · omega
theorem okH_hsz : ∀ (i : Nat) (hs : List (Int × List Int)), okH i hs = true → hsz hs ≤ 2048 * hs.length
  | _, [], _ => Nat.le_refl _
  | i, h :: t, ho => by
    simp only [okH, Bool.and_eq_true, Bool.not_eq_true'] at ho
    have h1 := badH_false ho.1
    have h2 := okH_hsz (i + 1) t ho.2
    simp only [hsz, List.length_cons]
    omega
theorem D6.right_true {d : D6} (h : d.right = true) : d.lab < 1048576 ∧ d.hs.length ≤ 8 ∧ okH 0 d.hs = true ∧ d.tail = true := by
  simp only [D6.right, Bool.and_eq_true, decide_eq_true_eq] at h
  exact h
theorem D6.ahead_le {d : D6} (h : d.right = true) : hsz d.hs ≤ 16384 ∧ d.ahead ≤ 16432 ∧ 40 ≤ d.ahead := by
  obtain ⟨_, h2, h3, _⟩ := d.right_true h
  have := okH_hsz 0 d.hs h3
  unfold D6.ahead
  refine ⟨by omega, ?_, by omega⟩
  split <;> omega
theorem D6.ok_of_check {d : D6} (h : d.check = 0) : d.right = true ∧ d.bl.length + (d.ahead - 40) ≤ 65535 := by
  unfold D6.check at h
  split at h
  · cases h
  · split at h
    · cases h
    · rename_i h1 h2
      exact ⟨by simpa using h1, by omega⟩

/-- the kind of what stands ahead of a row of heads -/
def nxt (last : Int) : List (Int × List Int) → Int
  | [] => last
  | h :: _ => h.1
/-- the heads' bytes -/
def hb (last : Int) : List (Int × List Int) → List Int
  | [] => []
  | h :: t => nxt last t :: (((h.2.length : Int) + 2) / 8 - 1) :: (h.2 ++ hb last t)
theorem hb_len (last : Int) : ∀ hs, (hb last hs).length = hsz hs
  | [] => rfl
  | h :: t => by simp only [hb, hsz, List.length_cons, List.length_append, hb_len last t]; omega
def D6.last (d : D6) : Int := if d.frag then 44 else d.pro
def D6.fb (d : D6) : List Int := if d.frag then [d.pro, 0, d.off / 32, d.off % 32 * 8 + (if d.more then 1 else 0), d.id / 16777216, d.id / 65536 % 256, d.id / 256 % 256, d.id % 256] else []
theorem D6.fb_len (d : D6) : d.fb.length = if d.frag then 8 else 0 := by unfold D6.fb; split <;> rfl
def D6.plen (d : D6) : Nat := d.bl.length + (d.ahead - 40)
def D6.first (d : D6) : List Int := [96 + d.cls / 16, d.cls % 16 * 16 + d.lab / 65536, d.lab / 256 % 256, d.lab % 256, (d.plen : Int) / 256, (d.plen : Int) % 256, nxt d.last d.hs, d.hop]
def D6.pre (d : D6) : List Int := d.first ++ d.src ++ d.dst
/-- the bytes -/
def D6.bytes (d : D6) : List Int := d.pre ++ hb d.last d.hs ++ d.fb ++ d.bl
/-- what Write answers -/
def D6.write (d : D6) : List Int := if d.check = 0 then d.bytes else []
theorem D6.pre_len (d : D6) (h : d.ok) : d.pre.length = 40 := by simp [D6.pre, D6.first, h.srcL, h.dstL]
theorem D6.bytes_len (d : D6) (h : d.ok) : d.bytes.length = d.ahead + d.bl.length := by
  simp only [D6.bytes, List.length_append, d.pre_len h, hb_len, d.fb_len, D6.ahead]
theorem nxt_rng {last : Int} (h : 0 ≤ last ∧ last ≤ 255) {hs : List (Int × List Int)} (hh : ∀ x ∈ hs, 0 ≤ x.1 ∧ x.1 ≤ 255 ∧ InB x.2) : 0 ≤ nxt last hs ∧ nxt last hs ≤ 255 := by
  cases hs with
  | nil => exact h
  | cons x t => have := hh x List.mem_cons_self; exact ⟨this.1, this.2.1⟩
theorem Kds.rng {B : Nat} {w : World} {A : Option Addr} {n c : Nat} {ps : List Kd} (h : Kds B w A n c ps) : ∀ x ∈ kdL ps, 0 ≤ x.1 ∧ x.1 ≤ 255 ∧ InB x.2 := by
  intro x hx
  obtain ⟨p, hp, rfl⟩ := List.mem_map.1 hx
  obtain ⟨k, hk⟩ := List.mem_iff_getElem?.1 hp
  obtain ⟨_, _, _, _, _, _, r1, r2, hy⟩ := h.at_ k p hk
  exact ⟨r1, r2, hy.rng⟩
theorem D6.last_rng {d : D6} (h : d.ok) : 0 ≤ d.last ∧ d.last ≤ 255 := by
  unfold D6.last
  split
  · decide
  · exact h.pro
end Go.Proofs.Ytijnifbpbgckgaa
namespace Go.Proofs.Ytijnifbpbgckgaa
open Go.RowKit

/-- what stands behind the first forty bytes -/
structure G6 where
  (err : Int) (pat : Nat) (hs : List (Int × List Int)) (frag : Bool) (id off : Int) (more : Bool) (pro : Int) (pos : Nat)
def bad6 (e : Int) (p : Nat) : G6 := ⟨e, p, [], false, 0, 0, false, 0, 0⟩
def g6len (l : List Int) (p : Nat) : Nat := (l.getD (p + 1) 0).toNat * 8
def go6 (l : List Int) : Nat → Nat → Int → List (Int × List Int) → G6
  | 0, p, _, _ => bad6 53 p
  | n + 1, p, k, hs =>
    if extra6 k = false ∧ k ≠ 44 then ⟨0, 0, hs, false, 0, 0, false, k, p⟩
    else if l.length < p + 8 then bad6 50 p
    else if k = 44 then ⟨0, 0, hs, true, l.getD (p + 4) 0 * 16777216 + l.getD (p + 5) 0 * 65536 + l.getD (p + 6) 0 * 256 + l.getD (p + 7) 0, l.getD (p + 2) 0 * 32 + l.getD (p + 3) 0 / 8, decide (l.getD (p + 3) 0 % 2 = 1), l.getD p 0, p + 8⟩
    else if l.length < p + 8 + g6len l p then bad6 50 p
    else if (k = 0 ∧ 0 < hs.length) ∨ hs.length = 8 then bad6 53 p
    else go6 l n (p + 8 + g6len l p) (l.getD p 0) (hs ++ [(k, (l.drop (p + 2)).take (6 + g6len l p))])
def said6 (l : List Int) : Int := l.getD 4 0 * 256 + l.getD 5 0
def g6 (whole : Bool) (l : List Int) : G6 :=
  if l.length < 40 then bad6 50 0
  else if l.getD 0 0 / 16 ≠ 6 then bad6 51 0
  else if said6 l < (l.length : Int) - 40 ∨ (whole = true ∧ (l.length : Int) - 40 < said6 l) then bad6 52 4
  else go6 l 9 40 (l.getD 6 0) []
def zero6 : D6 := ⟨0, 0, 0, [0, 0, 0, 0, 0, 0, 0, 0, 0, 0, 0, 0, 0, 0, 0, 0], [0, 0, 0, 0, 0, 0, 0, 0, 0, 0, 0, 0, 0, 0, 0, 0], [], false, 0, 0, false, 0, []⟩
def of6 (l : List Int) (g : G6) : D6 := ⟨l.getD 0 0 % 16 * 16 + l.getD 1 0 / 16, l.getD 1 0 % 16 * 65536 + l.getD 2 0 * 256 + l.getD 3 0, l.getD 7 0, (l.drop 8).take 16, (l.drop 24).take 16, g.hs, g.frag, g.id, g.off, g.more, g.pro, l.drop g.pos⟩
/-- the datagram of bytes -/
def got6 (whole : Bool) (l : List Int) : D6 := if (g6 whole l).err = 0 then of6 l (g6 whole l) else zero6

theorem getD_app {l m : List Int} {i : Nat} (h : i < l.length) : (l ++ m).getD i 0 = l.getD i 0 := by
  rw [List.getD_eq_getElem?_getD, List.getD_eq_getElem?_getD, List.getElem?_append_left h]
theorem getD_of_drop {l m : List Int} {p : Nat} (h : l.drop p = m) (i : Nat) : l.getD (p + i) 0 = m.getD i 0 := by
  rw [← h, List.getD_eq_getElem?_getD, List.getD_eq_getElem?_getD, List.getElem?_drop]
theorem getD_byte {l : List Int} (h : InB l) (i : Nat) : 0 ≤ l.getD i 0 ∧ l.getD i 0 ≤ 255 := by
  rw [List.getD_eq_getElem?_getD]
  by_cases hi : i < l.length
  · rw [List.getElem?_eq_getElem hi]; exact h.get hi
  · rw [List.getElem?_eq_none (by omega)]; decide

theorem zero6_ok : zero6.ok := ⟨by decide, by decide, by decide, rfl, by intro x hx; simp [zero6] at hx; omega, rfl, by intro x hx; simp [zero6] at hx; omega, by decide, by decide, by decide⟩
theorem fb_get {d : D6} (hd : d.ok) (hf : d.frag = true) (ht : d.tail = true) (r : List Int) :
    (d.fb ++ r).getD 4 0 * 16777216 + (d.fb ++ r).getD 5 0 * 65536 + (d.fb ++ r).getD 6 0 * 256 + (d.fb ++ r).getD 7 0 = d.id ∧ (d.fb ++ r).getD 2 0 * 32 + (d.fb ++ r).getD 3 0 / 8 = d.off ∧ decide ((d.fb ++ r).getD 3 0 % 2 = 1) = d.more ∧ (d.fb ++ r).getD 0 0 = d.pro := by
  have hid := hd.id
  simp only [D6.tail, hf, if_true, decide_eq_true_eq] at ht
  have e : d.fb = [d.pro, 0, d.off / 32, d.off % 32 * 8 + (if d.more then 1 else 0), d.id / 16777216, d.id / 65536 % 256, d.id / 256 % 256, d.id % 256] := by unfold D6.fb; rw [if_pos hf]
  rw [e]
  simp only [List.cons_append, List.nil_append, List.getD_cons_succ, List.getD_cons_zero]
  refine ⟨by omega, ?_, ?_, trivial⟩
  · split <;> omega
  · cases hm : d.more
    · simp; omega
    · simp; omega
theorem go6_back {d : D6} (hd : d.ok) (ht : d.tail = true) (l r : List Int) : ∀ (t : List (Int × List Int)) (n p : Nat) (acc : List (Int × List Int)), l.drop p = hb d.last t ++ (d.fb ++ r) → p ≤ l.length → okH acc.length t = true → acc.length + t.length ≤ 8 → n + acc.length = 9 →
    go6 l n p (nxt d.last t) acc = ⟨0, 0, acc ++ t, d.frag, d.id, d.off, d.more, d.pro, p + hsz t + d.fb.length⟩
  | [], n, p, acc, hl, hp, _, hle, hn => by
    obtain ⟨m, rfl⟩ : ∃ m, n = m + 1 := ⟨n - 1, by simp at hle; omega⟩
    have hll : l.length = p + (d.fb.length + r.length) := by
      have := congrArg List.length hl
      simp only [List.length_drop, hb, List.nil_append, List.length_append] at this
      omega
    cases hf : d.frag with
    | false =>
      have ht2 := ht
      simp only [D6.tail, hf, Bool.false_eq_true, if_false, decide_eq_true_eq] at ht2
      obtain ⟨h1, h2, h3, h4, h5⟩ := ht2
      have hlast : nxt d.last [] = d.pro := by simp [nxt, D6.last, hf]
      rw [hlast]
      unfold go6
      rw [if_pos ⟨h4, h5⟩, h1, h2, h3, d.fb_len, hf]
      simp [hsz]
    | true =>
      have hfl : d.fb.length = 8 := by rw [d.fb_len, hf]; rfl
      have hlast : nxt d.last [] = 44 := by simp [nxt, D6.last, hf]
      obtain ⟨f1, f2, f3, f4⟩ := fb_get hd hf ht r
      have hl2 : l.drop p = d.fb ++ r := by simpa [hb] using hl
      have hg := getD_of_drop hl2
      have hg0 : l.getD p 0 = _ := hg 0
      rw [hlast]
      unfold go6
      rw [if_neg (by simp), if_neg (by omega), if_pos rfl, hg 2, hg 3, hg 4, hg 5, hg 6, hg 7, hg0, f1, f2, f3, f4, hfl]
      simp [hsz]
  | x :: t, n, p, acc, hl, hp, ho, hle, hn => by
    rw [List.length_cons] at hle
    obtain ⟨m, rfl⟩ : ∃ m, n = m + 1 := ⟨n - 1, by omega⟩
    simp only [okH, Bool.and_eq_true, Bool.not_eq_true'] at ho
    obtain ⟨hb1, ho2⟩ := ho
    obtain ⟨q1, q2, q3, q4⟩ := badH_false hb1
    have hll := congrArg List.length hl
    simp only [List.length_drop, hb, List.cons_append, List.length_append, List.length_cons] at hll
    have hg := getD_of_drop hl
    have hg0 : l.getD p 0 = nxt d.last t := (hg 0).trans (by simp [hb])
    have hg1 : l.getD (p + 1) 0 = ((x.2.length : Int) + 2) / 8 - 1 := (hg 1).trans (by simp [hb])
    have hlen : g6len l p = x.2.length - 6 := by unfold g6len; rw [hg1]; omega
    have hx44 : x.1 ≠ 44 := by omega
    have hex : extra6 x.1 = true := by simp only [extra6, decide_eq_true_eq]; exact q1
    have hbody : (l.drop (p + 2)).take (6 + g6len l p) = x.2 := by
      rw [← List.drop_drop, hl, hlen]
      simp only [hb, List.cons_append, List.drop_succ_cons, List.drop_zero, List.append_assoc]
      rw [show 6 + (x.2.length - 6) = x.2.length from by omega, List.take_append_of_le_length (Nat.le_refl _), List.take_length]
    have hdrop : l.drop (p + 8 + g6len l p) = hb d.last t ++ (d.fb ++ r) := by
      rw [show p + 8 + g6len l p = p + (2 + x.2.length) from by omega, ← List.drop_drop, hl]
      rw [show 2 + x.2.length = x.2.length + 1 + 1 from by omega]
      simp only [hb, List.cons_append, List.drop_succ_cons, List.append_assoc]
      rw [List.drop_append_of_le_length (Nat.le_refl _), List.drop_length, List.nil_append]
    show go6 l (m + 1) p x.1 acc = _
    unfold go6
    rw [if_neg (by rw [hex]; simp), if_neg (by omega), if_neg hx44, if_neg (by omega), if_neg (by
      rintro (⟨h1, h2⟩ | h1)
      · have := q2 h1; omega
      · omega), hbody, hg0]
    have ih := go6_back hd ht l r t m (p + 8 + g6len l p) (acc ++ [(x.1, x.2)]) hdrop (by omega) (by rw [List.length_append, List.length_singleton]; exact ho2) (by rw [List.length_append, List.length_singleton]; omega) (by rw [List.length_append, List.length_singleton]; omega)
    rw [ih, hlen]
    simp only [List.append_assoc, List.singleton_append, hsz]
    congr 1
    omega

theorem D6.first_get (d : D6) (r : List Int) {i : Nat} (h : i < 8) : (d.pre ++ r).getD i 0 = d.first.getD i 0 := by
  unfold D6.pre
  rw [List.append_assoc, List.append_assoc]
  exact getD_app (l := d.first) h
theorem D6.src_drop (d : D6) (hd : d.ok) (r : List Int) : ((d.pre ++ r).drop 8).take 16 = d.src ∧ ((d.pre ++ r).drop 24).take 16 = d.dst := by
  have hf : d.first.length = 8 := rfl
  have hs := hd.srcL
  have ht := hd.dstL
  unfold D6.pre
  constructor
  · rw [List.append_assoc, List.append_assoc, List.drop_append_of_le_length (by omega), List.drop_of_length_le (by omega), List.nil_append, List.take_append_of_le_length (by omega), List.take_of_length_le (by omega)]
  · rw [List.append_assoc, List.drop_append_of_le_length (by rw [List.length_append]; omega), List.drop_of_length_le (by rw [List.length_append]; omega), List.nil_append, List.take_append_of_le_length (by omega), List.take_of_length_le (by omega)]
/-- a datagram's first bytes, its heads and any body that is not too long -/
theorem D6.head_of (d : D6) (hd : d.ok) (hc : d.check = 0) (b : List Int) (whole : Bool) (hb1 : b.length ≤ d.bl.length) (hb2 : whole = true → b.length = d.bl.length) :
    (g6 whole (d.pre ++ (hb d.last d.hs ++ (d.fb ++ b)))).err = 0 ∧ got6 whole (d.pre ++ (hb d.last d.hs ++ (d.fb ++ b))) = { d with bl := b } := by
  obtain ⟨hr, hle⟩ := D6.ok_of_check hc
  obtain ⟨r1, r2, r3, r4⟩ := D6.right_true hr
  obtain ⟨hle2, ha2, ha3⟩ := D6.ahead_le hr
  have hpl := d.pre_len hd
  have hl : (d.pre ++ (hb d.last d.hs ++ (d.fb ++ b))).length = d.ahead + b.length := by
    simp only [List.length_append, hpl, hb_len, d.fb_len, D6.ahead]; omega
  obtain ⟨L, hL⟩ : ∃ L, d.pre ++ (hb d.last d.hs ++ (d.fb ++ b)) = L := ⟨_, rfl⟩
  have hg : ∀ i, i < 8 → L.getD i 0 = d.first.getD i 0 := fun i hi => by rw [← hL]; exact d.first_get _ hi
  have hdr : L.drop 40 = hb d.last d.hs ++ (d.fb ++ b) := by rw [← hL, List.drop_append_of_le_length (by omega), List.drop_of_length_le (by omega), List.nil_append]
  have hsd := d.src_drop hd (hb d.last d.hs ++ (d.fb ++ b))
  rw [hL] at hl hsd ⊢
  have hcls := hd.cls
  have hlab := hd.lab
  have e0 : L.getD 0 0 = 96 + d.cls / 16 := hg 0 (by decide)
  have e1 : L.getD 1 0 = d.cls % 16 * 16 + d.lab / 65536 := hg 1 (by decide)
  have e2 : L.getD 2 0 = d.lab / 256 % 256 := hg 2 (by decide)
  have e3 : L.getD 3 0 = d.lab % 256 := hg 3 (by decide)
  have e4 : L.getD 4 0 = (d.plen : Int) / 256 := hg 4 (by decide)
  have e5 : L.getD 5 0 = (d.plen : Int) % 256 := hg 5 (by decide)
  have e6 : L.getD 6 0 = nxt d.last d.hs := hg 6 (by decide)
  have e7 : L.getD 7 0 = d.hop := hg 7 (by decide)
  have hsaid : said6 L = d.plen := by unfold said6; rw [e4, e5]; omega
  have hpn : d.plen = d.bl.length + (d.ahead - 40) := rfl
  have hgo := go6_back hd r4 L b d.hs 9 40 [] hdr (by omega) r3 (by simpa using r2) rfl
  have hG : g6 whole L = ⟨0, 0, d.hs, d.frag, d.id, d.off, d.more, d.pro, 40 + hsz d.hs + d.fb.length⟩ := by
    unfold g6
    rw [if_neg (by omega), if_neg (by rw [e0]; omega), if_neg (by
      rw [hsaid, hl, hpn]
      rintro (h | ⟨h, h'⟩)
      · omega
      · have := hb2 h; omega), e6, hgo]
    rfl
  have hpos : L.drop (40 + hsz d.hs + d.fb.length) = b := by
    rw [Nat.add_assoc, ← List.drop_drop, hdr, ← List.append_assoc, List.drop_append_of_le_length (by simp only [List.length_append, hb_len]; omega), List.drop_of_length_le (by simp only [List.length_append, hb_len]; omega), List.nil_append]
  refine ⟨by rw [hG], ?_⟩
  unfold got6
  rw [hG, if_pos rfl]
  unfold of6
  dsimp only
  rw [hpos, e0, e1, e2, e3, e7, hsd.1, hsd.2]
  have z1 : (96 + d.cls / 16) % 16 * 16 + (d.cls % 16 * 16 + d.lab / 65536) / 16 = d.cls := by omega
  have z2 : (d.cls % 16 * 16 + d.lab / 65536) % 16 * 65536 + d.lab / 256 % 256 * 256 + d.lab % 256 = d.lab := by omega
  rw [z1, z2]
theorem D6.bytes_eq (d : D6) : d.bytes = d.pre ++ (hb d.last d.hs ++ (d.fb ++ d.bl)) := by simp [D6.bytes, List.append_assoc]
/-- cut off behind the heads it is read as it, with less body -/
theorem D6.cut (d : D6) (hd : d.ok) (hc : d.check = 0) (n : Nat) (hn : n ≤ d.bl.length) : (g6 false (d.bytes.take (d.bytes.length - n))).err = 0 ∧ got6 false (d.bytes.take (d.bytes.length - n)) = { d with bl := d.bl.take (d.bl.length - n) } := by
  have h := d.head_of hd hc (d.bl.take (d.bl.length - n)) false (by rw [List.length_take]; omega) (fun h => by cases h)
  have e : d.bytes.take (d.bytes.length - n) = d.pre ++ (hb d.last d.hs ++ (d.fb ++ d.bl.take (d.bl.length - n))) := by
    rw [d.bytes_len hd, d.bytes_eq, ← List.append_assoc, ← List.append_assoc, List.take_append]
    have hl : (d.pre ++ hb d.last d.hs ++ d.fb).length = d.ahead := by simp only [List.length_append, d.pre_len hd, hb_len, d.fb_len, D6.ahead]
    rw [hl, List.take_of_length_le (by rw [hl]; omega), List.append_assoc, List.append_assoc]
    congr 4
    omega
  rw [e]
  exact h
end Go.Proofs.Ytijnifbpbgckgaa
