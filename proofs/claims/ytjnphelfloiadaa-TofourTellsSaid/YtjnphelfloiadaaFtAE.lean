/-
  Lemmas and walks for the row of TofourTells (part 5 of 37).
-/
import Derived.Test.YtjnphelfloiadaaFtAA
import Derived.Test.YtjnphelfloiadaaFtAB
import Derived.Test.YtjnphelfloiadaaFtAC
import Derived.Test.YtjnphelfloiadaaFtAD
import Derived.Below
import Derived.Test.YtjnphelfloiadaaProg
set_option linter.unusedVariables false
set_option linter.unusedSimpArgs false
namespace Go.Proofs.Ytjnphelfloiadaa
open Go.RowKit

/-- a message's numbers and bytes -/
structure D7 where
 (ty code rest : Int) (bl : List Int)
def D7.cells (d : D7) (A : Option Addr) (c : Nat) : Array Value := #[.int .u8 d.ty, .int .u8 d.code, .int .u32 d.rest, .slice A d.bl.length c]
structure D7.ok (d : D7) : Prop where
 ty : 0 ≤ d.ty ∧ d.ty ≤ 255
 code : 0 ≤ d.code ∧ d.code ≤ 255
 rest : 0 ≤ d.rest ∧ d.rest < 4294967296
/-- the message reads so in a world -/
structure Rd7 (B : Nat) (w : World) (d : D7) (A : Option Addr) (c : Nat) : Prop where
 ok : d.ok
 body : By B w A d.bl.length c d.bl
theorem Rd7.below {B B' : Nat} {w w' : World} {d : D7} {A : Option Addr} {c : Nat} (h : Rd7 B w d A c) (hb : Below B' w w') (hB : B ≤ B') : Rd7 B w' d A c := ⟨h.ok, h.body.below hb hB⟩
theorem Rd7.more {B B' : Nat} {w : World} {d : D7} {A : Option Addr} {c : Nat} (h : Rd7 B w d A c) (hB : B ≤ B') : Rd7 B' w d A c := ⟨h.ok, h.body.more hB⟩

/-- the first eight bytes, with a checksum -/
def D7.first (d : D7) (s : Int) : List Int := [d.ty, d.code, s / 256, s % 256, d.rest / 16777216, d.rest / 65536 % 256, d.rest / 256 % 256, d.rest % 256]
def D7.sum (d : D7) (ps : List Int) : Int := 65535 - sumw (ps ++ d.first 0 ++ d.bl)
/-- the bytes behind a pseudo header -/
def D7.bytes (d : D7) (ps : List Int) : List Int := d.first (d.sum ps) ++ d.bl
def D7.err (d : D7) : Int := if 65527 < d.bl.length then 2 else 0
def D7.write (d : D7) (ps : List Int) : List Int := if 65527 < d.bl.length then [] else d.bytes ps
/-- the pseudo header of IPv6 -/
def pse6 (a b : List Int) (n p : Int) : List Int := a ++ b ++ [0, 0, n / 256, n % 256, 0, 0, 0, p]
theorem pse6_rng {a b : List Int} (ha : InB a) (hb : InB b) {n p : Int} (hn : 0 ≤ n ∧ n < 65536) (hp : 0 ≤ p ∧ p ≤ 255) : InB (pse6 a b n p) :=
 (ha.app hb).app fun x hx => by
  simp only [List.mem_cons, List.not_mem_nil, or_false] at hx
  omega
theorem D7.first_rng {d : D7} (hd : d.ok) {s : Int} (hs : 0 ≤ s ∧ s < 65536) : InB (d.first s) := by
 have h1 := hd.ty; have h2 := hd.code; have h3 := hd.rest
 intro x hx
 simp only [D7.first, List.mem_cons, List.not_mem_nil, or_false] at hx
 rcases hx with rfl | rfl | rfl | rfl | rfl | rfl | rfl | rfl
 all_goals omega
theorem D7.bytes_len (d : D7) (ps : List Int) : (d.bytes ps).length = 8 + d.bl.length := by unfold D7.bytes; rw [List.length_append, Nat.add_comm 8]; rw [show (d.first (d.sum ps)).length = 8 from rfl, Nat.add_comm]

/-- no message -/
def zero7 : D7 := ⟨0, 0, 0, []⟩
theorem zero7_ok : zero7.ok := ⟨by decide, by decide, by decide⟩
/-- the message of bytes behind a pseudo header -/
def of7 (l : List Int) : D7 := ⟨l.getD 0 0, l.getD 1 0, l.getD 4 0 * 16777216 + l.getD 5 0 * 65536 + l.getD 6 0 * 256 + l.getD 7 0, l.drop 8⟩
def parse7 (l ps : List Int) : D7 := if l.length < 8 ∨ 65535 < l.length ∨ sumw (ps ++ l) ≠ 65535 then zero7 else of7 l
def perr7 (l ps : List Int) : Int := if l.length < 8 then 70 else if 65535 < l.length then 2 else if sumw (ps ++ l) ≠ 65535 then 71 else 0
theorem getD_rng {l : List Int} (h : InB l) (k : Nat) : 0 ≤ l.getD k 0 ∧ l.getD k 0 ≤ 255 := by
 rw [List.getD_eq_getElem?_getD]
 by_cases hk : k < l.length
 ·rw [List.getElem?_eq_getElem hk]; exact h.get hk
 ·rw [List.getElem?_eq_none (by omega)]; exact ⟨by decide, by decide⟩
theorem of7_ok {l : List Int} (h : InB l) : (of7 l).ok := by
 have h0 := getD_rng h 0; have h1 := getD_rng h 1; have h4 := getD_rng h 4; have h5 := getD_rng h 5; have h6 := getD_rng h 6; have h7 := getD_rng h 7
 exact ⟨h0, h1, by simp only [of7]; omega⟩
end Go.Proofs.Ytjnphelfloiadaa
namespace Go.Proofs.Ytjnphelfloiadaa
open Go.RowKit

/-- what stands behind the first forty bytes -/
structure G6 where
 (err : Int) (pat : Nat) (hs : List (Int × List Int)) (frag : Bool) (id off : Int) (more : Bool) (pro : Int) (pos : Nat)
def bad6 (e : Int) (p : Nat) : G6 := ⟨e, p, [], false, 0, 0, false, 0, 0⟩
def g6len (l : List Int) (p : Nat) : Nat := (l.getD (p + 1) 0).toNat * 8
def go6 (l : List Int) : Nat → Nat → Int → List (Int × List Int) → G6
 | 0, p, _, _ => bad6 53 p
 | n + 1, p, k, hs =>
  if extra6 k = false ∧ k ≠ 44 then ⟨0, 0, hs, false, 0, 0, false, k, p⟩
  else if l.length < p + 8 then bad6 50 p
  else if k = 44 then ⟨0, 0, hs, true, l.getD (p + 4) 0 * 16777216 + l.getD (p + 5) 0 * 65536 + l.getD (p + 6) 0 * 256 + l.getD (p + 7) 0, l.getD (p + 2) 0 * 32 + l.getD (p + 3) 0 / 8, decide (l.getD (p + 3) 0 % 2 = 1), l.getD p 0, p + 8⟩
  else if l.length < p + 8 + g6len l p then bad6 50 p
  else if (k = 0 ∧ 0 < hs.length) ∨ hs.length = 8 then bad6 53 p
  else go6 l n (p + 8 + g6len l p) (l.getD p 0) (hs ++ [(k, (l.drop (p + 2)).take (6 + g6len l p))])
def said6 (l : List Int) : Int := l.getD 4 0 * 256 + l.getD 5 0
def g6 (whole : Bool) (l : List Int) : G6 :=
 if l.length < 40 then bad6 50 0
 else if l.getD 0 0 / 16 ≠ 6 then bad6 51 0
 else if said6 l < (l.length : Int) - 40 ∨ (whole = true ∧ (l.length : Int) - 40 < said6 l) then bad6 52 4
 else go6 l 9 40 (l.getD 6 0) []
def zero6 : D6 := ⟨0, 0, 0, [0, 0, 0, 0, 0, 0, 0, 0, 0, 0, 0, 0, 0, 0, 0, 0], [0, 0, 0, 0, 0, 0, 0, 0, 0, 0, 0, 0, 0, 0, 0, 0], [], false, 0, 0, false, 0, []⟩
def of6 (l : List Int) (g : G6) : D6 := ⟨l.getD 0 0 % 16 * 16 + l.getD 1 0 / 16, l.getD 1 0 % 16 * 65536 + l.getD 2 0 * 256 + l.getD 3 0, l.getD 7 0, (l.drop 8).take 16, (l.drop 24).take 16, g.hs, g.frag, g.id, g.off, g.more, g.pro, l.drop g.pos⟩
/-- the datagram of bytes -/
def got6 (whole : Bool) (l : List Int) : D6 := if (g6 whole l).err = 0 then of6 l (g6 whole l) else zero6

theorem getD_app {l m : List Int} {i : Nat} (h : i < l.length) : (l ++ m).getD i 0 = l.getD i 0 := by
 rw [List.getD_eq_getElem?_getD, List.getD_eq_getElem?_getD, List.getElem?_append_left h]
theorem getD_of_drop {l m : List Int} {p : Nat} (h : l.drop p = m) (i : Nat) : l.getD (p + i) 0 = m.getD i 0 := by
 rw [← h, List.getD_eq_getElem?_getD, List.getD_eq_getElem?_getD, List.getElem?_drop]
theorem getD_byte {l : List Int} (h : InB l) (i : Nat) : 0 ≤ l.getD i 0 ∧ l.getD i 0 ≤ 255 := by
 rw [List.getD_eq_getElem?_getD]
 by_cases hi : i < l.length
 ·rw [List.getElem?_eq_getElem hi]; exact h.get hi
 ·rw [List.getElem?_eq_none (by omega)]; decide

/-- what the loop over heads leaves as it is -/
structure Gok (l : List Int) (p : Nat) (hs : List (Int × List Int)) (g : G6) : Prop where
 okh : okH 0 g.hs = true
 len : g.hs.length ≤ 8
 rng : InB l → ∀ x ∈ g.hs, 0 ≤ x.1 ∧ x.1 ≤ 255 ∧ InB x.2
 tail : InB l → if g.frag then 0 ≤ g.off ∧ g.off ≤ 8191 else g.id = 0 ∧ g.off = 0 ∧ g.more = false ∧ extra6 g.pro = false ∧ g.pro ≠ 44
 idr : InB l → 0 ≤ g.id ∧ g.id < 4294967296
 pro : 0 ≤ g.pro ∧ g.pro ≤ 255
 pos : g.pos + hsz hs = p + hsz g.hs + (if g.frag then 8 else 0)
 le : g.pos ≤ l.length
theorem okH_snoc : ∀ (i : Nat) (hs : List (Int × List Int)) (x : Int × List Int), okH i (hs ++ [x]) = (okH i hs && !badH (i + hs.length) x)
 | i, [], x => by simp [okH]
 | i, h :: t, x => by
  rw [List.cons_append]
  simp only [okH, okH_snoc (i + 1) t x, List.length_cons]
  rw [show i + 1 + t.length = i + (t.length + 1) from by omega, Bool.and_assoc]
theorem go6_ok (l : List Int) : ∀ (n p : Nat) (k : Int) (hs : List (Int × List Int)), okH 0 hs = true → hs.length ≤ 8 → n + hs.length = 9 → (InB l → ∀ x ∈ hs, 0 ≤ x.1 ∧ x.1 ≤ 255 ∧ InB x.2) → (InB l → 0 ≤ k ∧ k ≤ 255) → InB l → p ≤ l.length → (go6 l n p k hs).err = 0 → Gok l p hs (go6 l n p k hs)
 | 0, p, k, hs, _, _, _, _, _, _, _, he => by simp [go6, bad6] at he
 | n + 1, p, k, hs, ho, hl, hn, hr, hk, hB, hp, he => by
  have hkk := hk hB
  unfold go6 at he ⊢
  split at he
  ·rename_i h1
   rw [if_pos h1]
   exact ⟨ho, hl, hr, fun _ => ⟨rfl, rfl, rfl, h1.1, h1.2⟩, fun _ => by simp, hkk, by simp, hp⟩
  rename_i h1
  rw [if_neg h1]
  split at he
  ·simp [bad6] at he
  rename_i h2
  rw [if_neg h2]
  split at he
  ·rename_i h3
   rw [if_pos h3]
   have b0 := getD_byte hB p
   have b2 := getD_byte hB (p + 2)
   have b3 := getD_byte hB (p + 3)
   have b4 := getD_byte hB (p + 4)
   have b5 := getD_byte hB (p + 5)
   have b6 := getD_byte hB (p + 6)
   have b7 := getD_byte hB (p + 7)
   refine ⟨ho, hl, hr, fun _ => ?_, fun _ => ?_, b0, ?_, ?_⟩
   ·dsimp only
    rw [if_pos rfl]
    omega
   ·dsimp only
    omega
   ·dsimp only
    rw [if_pos rfl]
    omega
   ·dsimp only
    omega
  rename_i h3
  rw [if_neg h3]
  split at he
  ·simp [bad6] at he
  rename_i h4
  rw [if_neg h4]
  split at he
  ·simp [bad6] at he
  rename_i h5
  rw [if_neg h5]
  have hk2 : extra6 k = true := by
   cases hx : extra6 k
   ·exact absurd ⟨hx, h3⟩ h1
   ·rfl
  have b1 := getD_byte hB (p + 1)
  have hlen : ((l.drop (p + 2)).take (6 + g6len l p)).length = 6 + g6len l p := by rw [List.length_take, List.length_drop]; omega
  have hgl : g6len l p ≤ 2040 := by unfold g6len; omega
  have hg8 : g6len l p % 8 = 0 := by unfold g6len; omega
  have hb : badH (0 + hs.length) (k, (l.drop (p + 2)).take (6 + g6len l p)) = false := by
   unfold badH
   rw [hlen, hk2]
   simp only [Bool.not_true, Bool.false_or, Bool.or_eq_false_iff, Bool.and_eq_false_iff, decide_eq_false_iff_not]
   refine ⟨⟨?_, by omega⟩, by omega⟩
   by_cases hk0 : k = 0
   ·right; omega
   ·exact .inl hk0
  have hsnew : okH 0 (hs ++ [(k, (l.drop (p + 2)).take (6 + g6len l p))]) = true := by rw [okH_snoc, ho, hb]; rfl
  have hG := go6_ok l n (p + 8 + g6len l p) (l.getD p 0) (hs ++ [(k, (l.drop (p + 2)).take (6 + g6len l p))]) hsnew (by rw [List.length_append, List.length_singleton]; omega) (by rw [List.length_append, List.length_singleton]; omega)
   (fun hB x hx => by
    rcases List.mem_append.1 hx with hx | hx
    ·exact hr hB x hx
    ·rw [List.mem_singleton] at hx
     subst hx
     exact ⟨(hk hB).1, (hk hB).2, (hB.drop _).take _⟩) (fun hB => getD_byte hB p) hB (by omega) he
  have hps := hG.pos
  rw [hsz_append] at hps
  simp only [hsz, hlen] at hps
  exact ⟨hG.okh, hG.len, hG.rng, hG.tail, hG.idr, hG.pro, by omega, hG.le⟩

theorem g6_ok {whole : Bool} {l : List Int} (h : (g6 whole l).err = 0) : 40 ≤ l.length ∧ l.getD 0 0 / 16 = 6 ∧ (l.length : Int) - 40 ≤ said6 l ∧ (whole = true → (l.length : Int) - 40 = said6 l) ∧ g6 whole l = go6 l 9 40 (l.getD 6 0) [] := by
 have h0 := h
 unfold g6 at h
 split at h
 ·simp [bad6] at h
 split at h
 ·simp [bad6] at h
 split at h
 ·simp [bad6] at h
 rename_i h1 h2 h3
 refine ⟨by omega, Decidable.not_not.1 h2, by omega, fun hw => ?_, by unfold g6; rw [if_neg h1, if_neg h2, if_neg h3]⟩
 subst hw
 have : ¬ ((l.length : Int) - 40 < said6 l) := fun hn => h3 (.inr ⟨rfl, hn⟩)
 omega
theorem g6_gok {whole : Bool} {l : List Int} (hB : InB l) (h : (g6 whole l).err = 0) : Gok l 40 [] (g6 whole l) := by
 obtain ⟨h1, _, _, _, h5⟩ := g6_ok h
 rw [h5] at h ⊢
 exact go6_ok l 9 40 _ [] rfl (by decide) rfl (fun _ _ hx => by cases hx) (fun hB => getD_byte hB 6) hB h1 h
theorem zero6_ok : zero6.ok := ⟨by decide, by decide, by decide, rfl, by intro x hx; simp [zero6] at hx; omega, rfl, by intro x hx; simp [zero6] at hx; omega, by decide, by decide, by decide⟩
theorem of6_ok {whole : Bool} {l : List Int} (hB : InB l) (h : (g6 whole l).err = 0) : (of6 l (g6 whole l)).ok := by
 have hG := g6_gok hB h
 obtain ⟨h1, _⟩ := g6_ok h
 have b0 := getD_byte hB 0
 have b1 := getD_byte hB 1
 have b2 := getD_byte hB 2
 have b3 := getD_byte hB 3
 have b7 := getD_byte hB 7
 have ht := hG.tail hB
 refine ⟨?_, ?_, b7, ?_, (hB.drop _).take _, ?_, (hB.drop _).take _, hG.idr hB, ?_, hG.pro⟩
 ·simp only [of6]; omega
 ·simp only [of6]; omega
 ·simp only [of6, List.length_take, List.length_drop]; omega
 ·simp only [of6, List.length_take, List.length_drop]; omega
 ·simp only [of6]
  split at ht <;> omega
theorem fb_get {d : D6} (hd : d.ok) (hf : d.frag = true) (ht : d.tail = true) (r : List Int) :
  (d.fb ++ r).getD 4 0 * 16777216 + (d.fb ++ r).getD 5 0 * 65536 + (d.fb ++ r).getD 6 0 * 256 + (d.fb ++ r).getD 7 0 = d.id ∧ (d.fb ++ r).getD 2 0 * 32 + (d.fb ++ r).getD 3 0 / 8 = d.off ∧ decide ((d.fb ++ r).getD 3 0 % 2 = 1) = d.more ∧ (d.fb ++ r).getD 0 0 = d.pro := by
 have hid := hd.id
 simp only [D6.tail, hf, if_true, decide_eq_true_eq] at ht
 have e : d.fb = [d.pro, 0, d.off / 32, d.off % 32 * 8 + (if d.more then 1 else 0), d.id / 16777216, d.id / 65536 % 256, d.id / 256 % 256, d.id % 256] := by unfold D6.fb; rw [if_pos hf]
 rw [e]
 simp only [List.cons_append, List.nil_append, List.getD_cons_succ, List.getD_cons_zero]
 refine ⟨by omega, ?_, ?_, trivial⟩
 ·split <;> omega
 ·cases hm : d.more
  ·simp; omega
  ·simp; omega
theorem go6_back {d : D6} (hd : d.ok) (ht : d.tail = true) (l r : List Int) : ∀ (t : List (Int × List Int)) (n p : Nat) (acc : List (Int × List Int)), l.drop p = hb d.last t ++ (d.fb ++ r) → p ≤ l.length → okH acc.length t = true → acc.length + t.length ≤ 8 → n + acc.length = 9 →
  go6 l n p (nxt d.last t) acc = ⟨0, 0, acc ++ t, d.frag, d.id, d.off, d.more, d.pro, p + hsz t + d.fb.length⟩
 | [], n, p, acc, hl, hp, _, hle, hn => by
  obtain ⟨m, rfl⟩ : ∃ m, n = m + 1 := ⟨n - 1, by simp at hle; omega⟩
  have hll : l.length = p + (d.fb.length + r.length) := by
   have := congrArg List.length hl
   simp only [List.length_drop, hb, List.nil_append, List.length_append] at this
   omega
  cases hf : d.frag with
  | false =>
   have ht2 := ht
   simp only [D6.tail, hf, Bool.false_eq_true, if_false, decide_eq_true_eq] at ht2
   obtain ⟨h1, h2, h3, h4, h5⟩ := ht2
   have hlast : nxt d.last [] = d.pro := by simp [nxt, D6.last, hf]
   rw [hlast]
   unfold go6
   rw [if_pos ⟨h4, h5⟩, h1, h2, h3, d.fb_len, hf]
   simp [hsz]
  | true =>
   have hfl : d.fb.length = 8 := by rw [d.fb_len, hf]; rfl
   have hlast : nxt d.last [] = 44 := by simp [nxt, D6.last, hf]
   obtain ⟨f1, f2, f3, f4⟩ := fb_get hd hf ht r
   have hl2 : l.drop p = d.fb ++ r := by simpa [hb] using hl
   have hg := getD_of_drop hl2
   have hg0 : l.getD p 0 = _ := hg 0
   rw [hlast]
   unfold go6
   rw [if_neg (by simp), if_neg (by omega), if_pos rfl, hg 2, hg 3, hg 4, hg 5, hg 6, hg 7, hg0, f1, f2, f3, f4, hfl]
   simp [hsz]
 | x :: t, n, p, acc, hl, hp, ho, hle, hn => by
  rw [List.length_cons] at hle
  obtain ⟨m, rfl⟩ : ∃ m, n = m + 1 := ⟨n - 1, by omega⟩
  simp only [okH, Bool.and_eq_true, Bool.not_eq_true'] at ho
  obtain ⟨hb1, ho2⟩ := ho
  obtain ⟨q1, q2, q3, q4⟩ := badH_false hb1
  have hll := congrArg List.length hl
  simp only [List.length_drop, hb, List.cons_append, List.length_append, List.length_cons] at hll
  have hg := getD_of_drop hl
  have hg0 : l.getD p 0 = nxt d.last t := (hg 0).trans (by simp [hb])
  have hg1 : l.getD (p + 1) 0 = ((x.2.length : Int) + 2) / 8 - 1 := (hg 1).trans (by simp [hb])
  have hlen : g6len l p = x.2.length - 6 := by unfold g6len; rw [hg1]; omega
  have hx44 : x.1 ≠ 44 := by omega
  have hex : extra6 x.1 = true := by simp only [extra6, decide_eq_true_eq]; exact q1
  have hbody : (l.drop (p + 2)).take (6 + g6len l p) = x.2 := by
   rw [← List.drop_drop, hl, hlen]
   simp only [hb, List.cons_append, List.drop_succ_cons, List.drop_zero, List.append_assoc]
   rw [show 6 + (x.2.length - 6) = x.2.length from by omega, List.take_append_of_le_length (Nat.le_refl _), List.take_length]
  have hdrop : l.drop (p + 8 + g6len l p) = hb d.last t ++ (d.fb ++ r) := by
   rw [show p + 8 + g6len l p = p + (2 + x.2.length) from by omega, ← List.drop_drop, hl]
   rw [show 2 + x.2.length = x.2.length + 1 + 1 from by omega]
   simp only [hb, List.cons_append, List.drop_succ_cons, List.append_assoc]
   rw [List.drop_append_of_le_length (Nat.le_refl _), List.drop_length, List.nil_append]
  show go6 l (m + 1) p x.1 acc = _
  unfold go6
  rw [if_neg (by rw [hex]; simp), if_neg (by omega), if_neg hx44, if_neg (by omega), if_neg (by
   rintro (⟨h1, h2⟩ | h1)
   ·have := q2 h1; omega
   ·omega), hbody, hg0]
  have ih := go6_back hd ht l r t m (p + 8 + g6len l p) (acc ++ [(x.1, x.2)]) hdrop (by omega) (by rw [List.length_append, List.length_singleton]; exact ho2) (by rw [List.length_append, List.length_singleton]; omega) (by rw [List.length_append, List.length_singleton]; omega)
  rw [ih, hlen]
  simp only [List.append_assoc, List.singleton_append, hsz]
  congr 1
  omega

theorem D6.first_get (d : D6) (r : List Int) {i : Nat} (h : i < 8) : (d.pre ++ r).getD i 0 = d.first.getD i 0 := by
 unfold D6.pre
 rw [List.append_assoc, List.append_assoc]
 exact getD_app (l := d.first) h
theorem D6.src_drop (d : D6) (hd : d.ok) (r : List Int) : ((d.pre ++ r).drop 8).take 16 = d.src ∧ ((d.pre ++ r).drop 24).take 16 = d.dst := by
 have hf : d.first.length = 8 := rfl
 have hs := hd.srcL
 have ht := hd.dstL
 unfold D6.pre
 constructor
 ·rw [List.append_assoc, List.append_assoc, List.drop_append_of_le_length (by omega), List.drop_of_length_le (by omega), List.nil_append, List.take_append_of_le_length (by omega), List.take_of_length_le (by omega)]
 ·rw [List.append_assoc, List.drop_append_of_le_length (by rw [List.length_append]; omega), List.drop_of_length_le (by rw [List.length_append]; omega), List.nil_append, List.take_append_of_le_length (by omega), List.take_of_length_le (by omega)]
/-- a datagram's first bytes, its heads and any body that is not too long -/
theorem D6.head_of (d : D6) (hd : d.ok) (hc : d.check = 0) (b : List Int) (whole : Bool) (hb1 : b.length ≤ d.bl.length) (hb2 : whole = true → b.length = d.bl.length) :
  (g6 whole (d.pre ++ (hb d.last d.hs ++ (d.fb ++ b)))).err = 0 ∧ got6 whole (d.pre ++ (hb d.last d.hs ++ (d.fb ++ b))) = { d with bl := b } := by
 obtain ⟨hr, hle⟩ := D6.ok_of_check hc
 obtain ⟨r1, r2, r3, r4⟩ := D6.right_true hr
 obtain ⟨hle2, ha2, ha3⟩ := D6.ahead_le hr
 have hpl := d.pre_len hd
 have hl : (d.pre ++ (hb d.last d.hs ++ (d.fb ++ b))).length = d.ahead + b.length := by
  simp only [List.length_append, hpl, hb_len, d.fb_len, D6.ahead]; omega
 obtain ⟨L, hL⟩ : ∃ L, d.pre ++ (hb d.last d.hs ++ (d.fb ++ b)) = L := ⟨_, rfl⟩
 have hg : ∀ i, i < 8 → L.getD i 0 = d.first.getD i 0 := fun i hi => by rw [← hL]; exact d.first_get _ hi
 have hdr : L.drop 40 = hb d.last d.hs ++ (d.fb ++ b) := by rw [← hL, List.drop_append_of_le_length (by omega), List.drop_of_length_le (by omega), List.nil_append]
 have hsd := d.src_drop hd (hb d.last d.hs ++ (d.fb ++ b))
 rw [hL] at hl hsd ⊢
 have hcls := hd.cls
 have hlab := hd.lab
 have e0 : L.getD 0 0 = 96 + d.cls / 16 := hg 0 (by decide)
 have e1 : L.getD 1 0 = d.cls % 16 * 16 + d.lab / 65536 := hg 1 (by decide)
 have e2 : L.getD 2 0 = d.lab / 256 % 256 := hg 2 (by decide)
 have e3 : L.getD 3 0 = d.lab % 256 := hg 3 (by decide)
 have e4 : L.getD 4 0 = (d.plen : Int) / 256 := hg 4 (by decide)
 have e5 : L.getD 5 0 = (d.plen : Int) % 256 := hg 5 (by decide)
 have e6 : L.getD 6 0 = nxt d.last d.hs := hg 6 (by decide)
 have e7 : L.getD 7 0 = d.hop := hg 7 (by decide)
 have hsaid : said6 L = d.plen := by unfold said6; rw [e4, e5]; omega
 have hpn : d.plen = d.bl.length + (d.ahead - 40) := rfl
 have hgo := go6_back hd r4 L b d.hs 9 40 [] hdr (by omega) r3 (by simpa using r2) rfl
 have hG : g6 whole L = ⟨0, 0, d.hs, d.frag, d.id, d.off, d.more, d.pro, 40 + hsz d.hs + d.fb.length⟩ := by
  unfold g6
  rw [if_neg (by omega), if_neg (by rw [e0]; omega), if_neg (by
   rw [hsaid, hl, hpn]
   rintro (h | ⟨h, h'⟩)
   ·omega
   ·have := hb2 h; omega), e6, hgo]
  rfl
 have hpos : L.drop (40 + hsz d.hs + d.fb.length) = b := by
  rw [Nat.add_assoc, ← List.drop_drop, hdr, ← List.append_assoc, List.drop_append_of_le_length (by simp only [List.length_append, hb_len]; omega), List.drop_of_length_le (by simp only [List.length_append, hb_len]; omega), List.nil_append]
 refine ⟨by rw [hG], ?_⟩
 unfold got6
 rw [hG, if_pos rfl]
 unfold of6
 dsimp only
 rw [hpos, e0, e1, e2, e3, e7, hsd.1, hsd.2]
 have z1 : (96 + d.cls / 16) % 16 * 16 + (d.cls % 16 * 16 + d.lab / 65536) / 16 = d.cls := by omega
 have z2 : (d.cls % 16 * 16 + d.lab / 65536) % 16 * 65536 + d.lab / 256 % 256 * 256 + d.lab % 256 = d.lab := by omega
 rw [z1, z2]
theorem D6.bytes_eq (d : D6) : d.bytes = d.pre ++ (hb d.last d.hs ++ (d.fb ++ d.bl)) := by simp [D6.bytes, List.append_assoc]
/-- cut off behind the heads it is read as it, with less body -/
theorem D6.cut (d : D6) (hd : d.ok) (hc : d.check = 0) (n : Nat) (hn : n ≤ d.bl.length) : (g6 false (d.bytes.take (d.bytes.length - n))).err = 0 ∧ got6 false (d.bytes.take (d.bytes.length - n)) = { d with bl := d.bl.take (d.bl.length - n) } := by
 have h := d.head_of hd hc (d.bl.take (d.bl.length - n)) false (by rw [List.length_take]; omega) (fun h => by cases h)
 have e : d.bytes.take (d.bytes.length - n) = d.pre ++ (hb d.last d.hs ++ (d.fb ++ d.bl.take (d.bl.length - n))) := by
  rw [d.bytes_len hd, d.bytes_eq, ← List.append_assoc, ← List.append_assoc, List.take_append]
  have hl : (d.pre ++ hb d.last d.hs ++ d.fb).length = d.ahead := by simp only [List.length_append, d.pre_len hd, hb_len, d.fb_len, D6.ahead]
  rw [hl, List.take_of_length_le (by rw [hl]; omega), List.append_assoc, List.append_assoc]
  congr 4
  omega
 rw [e]
 exact h
end Go.Proofs.Ytjnphelfloiadaa
namespace Go.Proofs.Ytjnphelfloiadaa
open Go.RowKit Go.Shelf

theorem add_any (a b : Int) (w : World) (ha : 0 ≤ a) (ha' : a < 65536) (hb : 0 ≤ b) (hb' : b < 65536) :
  Calls Try.prog 105 #[.int .u16 a, .int .u16 b] w fun e w' => e = .returned (.int .u16 (addw a b)) ∧ w = w' := by
 go_enter Try.func105, Try.ntmps105
 go_wp2
 go_ret
 refine ⟨ret_int ?_, rfl⟩
 rw [and_u32 16 65535 rfl (by omega) (by omega) (by omega), IntKind.wrap_u16]
 unfold addw
 omega

attribute [local go_sem] Oper.semAt_some

theorem flat_le {xs : List Sl} {k j : Nat} (hlt : k < xs.length) (hj : j < xs[k].2.2.length) : (flat (xs.take k) ++ xs[k].2.2.take j).length ≤ (flat xs).length := by
 have h : xs = xs.take k ++ xs[k] :: xs.drop (k + 1) := by rw [← List.drop_eq_getElem_cons hlt, List.take_append_drop]
 have h2 := congrArg (fun l => (flat l).length) h
 simp only [flat, List.map_append, List.map_cons, List.flatten_append, List.flatten_cons, List.length_append] at h2 ⊢
 rw [List.length_take]
 omega

def Pend (o : Option Int) (hi od : Value) : Prop :=
 (o = none ∧ od = .bool false ∧ ∃ x, hi = .int .u16 x) ∨ ∃ h, o = some h ∧ od = .bool true ∧ hi = .int .u16 (h * 256) ∧ 0 ≤ h ∧ h ≤ 255

set_option maxRecDepth 100000 in
set_option maxHeartbeats 4000000 in
theorem words1_in (F : Fence) (n : Nat) (h7 : F.fn 110) (hro : F.round = none) (hn : 1 ≤ n) (l Bs n₀ : Nat) (A : Option Addr) (c : Nat) (xs : List Sl) (Kp : World → World → Prop) (J Jx : List Int → World → Prop)
  (hY : ∀ pre x W, J pre W → (0 ≤ x ∧ x < 65536) ∧ pre.length ≤ (flat xs).length → YieldAt F (n - 1) Try.prog l #[.int .u16 x] W fun e W' =>
   (e = .returned (.bool true) ∧ J (pre ++ [x]) W' ∧ Kp W W') ∨ (e = .returned (.bool false) ∧ Jx (pre ++ [x]) W'))
  (W : World) (hKr : Kp W W) (hKt : ∀ {A B C : World}, Kp A B → Kp B C → Kp A C) (hBs : W.cell? ⟨Bs, 0, none⟩ = some (.slice A xs.length c)) (hc0 : Parts n₀ W A xs.length c xs) (hcK : ∀ W', Kp W W' → Parts n₀ W' A xs.length c xs) (h0 : J [] W) :
  CallsIn F n Try.prog 110 #[.func (.yield l) #[] #[], .pointer (some ⟨Bs, 0, none⟩)] W fun e W' => (∃ v, e = .returned v) ∧
   ((J (wds (flat xs)) W') ∨ (∃ pre, Jx pre W')) := by
 refine callsIn_of_wp Try.func110 rfl h7 ?_ hro
 simp only [Try.ntmps110, List.size_toArray, List.length_cons, List.length_nil, Nat.reduceAdd, Nat.reduceSub, Array.replicate_succ, Array.replicate_zero, List.push_toArray, List.append_toArray, List.nil_append, List.cons_append]
 gi_wp2
 gi_loopw [3, 4, 11] (fun hi od i wr => ∃ k : Nat, k ≤ xs.length ∧ i = .int .i64 k ∧ Pend (runw (flat (xs.take k))).2 hi od ∧ J (runw (flat (xs.take k))).1 wr ∧ Kp W wr)
  (fun _ _ i _ => xs.length - (intOf i).toNat)
 case atStart => exact ⟨0, Nat.zero_le _, rfl, .inl ⟨rfl, rfl, 0, rfl⟩, h0, hKr⟩
 case round =>
  obtain ⟨k, hk, rfl, hp, hJs, hnx⟩ := hrel
  by_cases hlt : k < xs.length
  ·obtain ⟨b, off, hA, hb, hcell, _⟩ := (hcK wr hnx).at_ k xs[k] (List.getElem?_eq_getElem hlt)
   subst hA
   have hk63 : k < 9223372036854775807 := by have := hc0.big; have := hc0.cap; omega
   have hsum := flat_take_succ hlt
   obtain ⟨A', c', l', hxk⟩ : ∃ A' c' l', xs[k] = (A', c', l') := ⟨_, _, _, rfl⟩
   have hfl := fun j => @flat_le xs k j hlt
   rw [hxk] at hsum hcell hfl
   have hyk : ∀ W', Kp W W' → By n₀ W' A' l'.length c' l' := fun W' h => by
    obtain ⟨_, _, _, _, _, hy⟩ := (hcK W' h).at_ k xs[k] (List.getElem?_eq_getElem hlt)
    rwa [hxk] at hy
   clear hxk
   dsimp only at hsum hcell hfl
   have hsumH := Lib.hid hsum
   clear hsum
   gi_wp2
   gi_loopw [3, 4, 17] (fun hi od i wr' => ∃ j : Nat, j ≤ l'.length ∧ i = .int .i64 j ∧ Pend (runw (flat (xs.take k) ++ l'.take j)).2 hi od ∧ J (runw (flat (xs.take k) ++ l'.take j)).1 wr' ∧ Kp W wr')
    (fun _ _ i _ => l'.length - (intOf i).toNat)
   case atStart => exact ⟨0, Nat.zero_le _, rfl, by simpa using hp, by simpa using hJs, hnx⟩
   case round =>
    clear hp hJs
    obtain ⟨j, hj, rfl, hp, hJs, hnx2⟩ := hrel
    by_cases hjt : j < l'.length
    ·obtain ⟨b2, off2, x, rfl, hb2, hx, hxc, hx0, hx1⟩ := (hyk _ hnx2).get hjt
     have hj63 : j < 9223372036854775807 := by have := (hyk _ hnx2).big; have := (hyk _ hnx2).cap; omega
     have hst : runw (flat (xs.take k) ++ l'.take (j + 1)) = stp (runw (flat (xs.take k) ++ l'.take j)) x := by
      rw [List.take_succ_eq_append_getElem hjt, ← List.append_assoc, runw_snoc]
      rw [List.getElem?_eq_getElem hjt] at hx
      injection hx with hx
      rw [hx]
     have hstH := Lib.hid hst
     clear hst
     rcases hp with ⟨h1, rfl, y, rfl⟩ | ⟨h, h1, rfl, rfl, h2, h3⟩
     ·have h1H := Lib.hid h1
      have hxH := Lib.hid hx
      clear h1 hx
      gi_wp2
      go_roundw
      case rel => exact ⟨j + 1, by omega, by go_num, .inr ⟨x, by rw [hstH.out, stp, h1H.out], rfl, by simp, hx0, hx1⟩, by rw [hstH.out, stp, h1H.out]; exact hJs, hnx2⟩
      case measure => simp [intOf]; omega
     ·have h1H := Lib.hid h1
      have hxH := Lib.hid hx
      clear h1 hx
      have hor : bits .or .u16 (h * 256) x = h * 256 + x := or_u16 8 (by omega) (by omega) (by omega) hx0 (by omega) (by omega)
      obtain ⟨fn, tmps, assign, body, hyl, hR⟩ := hY _ (bits .or .u16 (h * 256) x) wr hJs ⟨by rw [hor]; omega, Nat.le_trans (runw_le _) (hfl j hjt)⟩
      have horH := Lib.hid hor
      clear hor
      gi_wp2
      refine hR.mono ?_
      rintro e W3 (⟨rfl, hJ3, hk3⟩ | ⟨rfl, hJx3⟩)
      ·gi_wp2
       go_roundw
       case rel => exact ⟨j + 1, by omega, by go_num, .inl ⟨by rw [hstH.out, stp, h1H.out], rfl, _, rfl⟩, by rw [hstH.out, stp, h1H.out]; rw [horH.out] at hJ3; exact hJ3, hKt hnx2 hk3⟩
       case measure => simp [intOf]; omega
      ·gi_wp2
       refine bodyPost_ret (results_none rfl _ _ _) rfl ?_
       exact ⟨⟨_, rfl⟩, .inr ⟨_, hJx3⟩⟩
    ·obtain rfl : j = l'.length := by omega
     gi_wp2
     go_roundw
     case rel => exact ⟨k + 1, by omega, by go_num, by rw [hsumH.out]; simpa using hp, by rw [hsumH.out]; simpa using hJs, hnx2⟩
     case measure => simp [intOf]; omega
  ·obtain rfl : k = xs.length := by omega
   rcases hp with ⟨h1, rfl, x, rfl⟩ | ⟨h, h1, rfl, rfl, h2, h3⟩
   ·gi_wp2
    go_end0
    rw [List.take_length] at hJs h1
    exact ⟨⟨_, rfl⟩, .inl (by rw [wds, h1]; simpa [rest] using hJs)⟩
   ·rw [List.take_length] at hJs h1
    have h1H := Lib.hid h1
    clear h1
    obtain ⟨fn, tmps, assign, body, hyl, hR⟩ := hY _ (h * 256) wr hJs ⟨by omega, runw_le _⟩
    gi_wp2
    refine hR.mono ?_
    rintro e W3 (⟨rfl, hJ3, hk3⟩ | ⟨rfl, hJx3⟩)
    ·gi_wp2
     go_end0
     exact ⟨⟨_, rfl⟩, .inl (by rw [wds, h1H.out]; exact hJ3)⟩
    ·gi_wp2
     go_end0
     exact ⟨⟨_, rfl⟩, .inr ⟨_, hJx3⟩⟩

/-- whole numbers of two bytes -/
abbrev W16 := { x : Int // 0 ≤ x ∧ x < 65536 }
def ints (l : List W16) : List Int := l.map (·.1)
theorem ints_snoc (l : List W16) (x : W16) : ints (l ++ [x]) = ints l ++ [x.1] := by simp [ints]

theorem words_in (F : Fence) (n : Nat) (h6 : F.fn 104) (hro : F.round = none) (A : Option Addr) (m c : Nat) (w : World) :
  CallsIn F n Try.prog 104 #[.slice A m c] w fun e w' => e = .returned (.func (.func 110) #[] #[.pointer (some ⟨w.heap.size, 0, none⟩)]) ∧ w' = w.alloc (.cells #[.slice A m c] 100) := by
 refine callsIn_of_wp Try.func104 rfl h6 ?_ hro
 simp only [Try.ntmps104, List.size_toArray, List.length_cons, List.length_nil, Nat.reduceAdd, Nat.reduceSub, Array.replicate_succ, Array.replicate_zero, List.push_toArray, List.append_toArray, List.nil_append, List.cons_append]
 gi_wp2
 go_ret
 exact ⟨rfl, rfl⟩

theorem words_stops (F : Fence) (n : Nat) (h8 : F.fn 110) (hro : F.round = none) (hn : 1 ≤ n) (Bs n₀ : Nat) (A : Option Addr) (c : Nat) (xs : List Sl) (Kp : World → World → Prop) (w : World) (hBs : Bs < w.heap.size) (hn₀ : n₀ ≤ w.heap.size)
  (hcell : w.cell? ⟨Bs, 0, none⟩ = some (.slice A xs.length c)) (hc : Parts n₀ w A xs.length c xs)
  (hKr : ∀ W, Kp W W) (hKt : ∀ {A B C : World}, Kp A B → Kp B C → Kp A C) (hcK : ∀ W W', Below w.heap.size w W → Kp W W' → Parts n₀ W' A xs.length c xs) :
  SeqStopsK F n Try.prog 110 #[.pointer (some ⟨Bs, 0, none⟩)] (fun x : W16 => #[Value.int .u16 x.1]) Kp (fun ys => ints ys = wds (flat xs)) (fun _ => True) ((flat xs).length + 1) w := fun l J Jx W hW _ _ hY h0 => by
 refine (words1_in F n h8 hro hn l Bs n₀ A c xs Kp (fun pre W => ∃ p, ints p = pre ∧ J p W) (fun pre W => ∃ p, ints p = pre ∧ Jx p W) ?_ W (hKr W) hKt ((hW.cell (p := ⟨Bs, 0, none⟩) hBs).trans hcell) (hc.below hW hn₀) (fun W' h => hcK W W' hW h) ⟨[], rfl, h0⟩).mono ?_
 ·rintro pre x W1 ⟨p, rfl, hJ⟩ ⟨hx, hl⟩
  refine (hY p ⟨x, hx⟩ W1 hJ (by simp only [ints, List.length_map] at hl; omega)).mono ?_
  rintro e W' (⟨he, hj, hb⟩ | ⟨he, hj⟩)
  ·exact .inl ⟨he, ⟨_, ints_snoc _ _, hj⟩, hb⟩
  ·exact .inr ⟨he, _, ints_snoc _ _, hj⟩
 ·rintro e W' ⟨he, ⟨p, hp, hj⟩ | ⟨pre, p, hp, hj⟩⟩
  ·exact ⟨he, .inl ⟨p, hp, hj⟩⟩
  ·exact ⟨he, .inr ⟨p, trivial, hj⟩⟩
end Go.Proofs.Ytjnphelfloiadaa
namespace Go.Proofs.Ytjnphelfloiadaa
open Go.RowKit Go.Shelf
attribute [local go_sem] Oper.semAt_some

theorem fold_w16 (n : Int) (hn : 0 ≤ n ∧ n < 65536) (l : List W16) : 0 ≤ fold n (ints l) ∧ fold n (ints l) < 65536 := fold_rng n hn _ (fun x hx => by
 obtain ⟨y, _, rfl⟩ := List.mem_map.1 hx
 exact y.2)

set_option maxRecDepth 100000 in
set_option maxHeartbeats 2000000 in
/-- sum.Fold: the sum of the words of parts -/
theorem fold_any (A : Option Addr) (c : Nat) (xs : List Sl) (w : World) (hI : Parts w.heap.size w A xs.length c xs) :
  Calls Try.prog 82 #[.slice A xs.length c] w fun e W' => e = .returned (.int .u16 (sumw (flat xs))) ∧ Below w.heap.size w W' := by
 refine (callsIn_wide (n := 5)).1 ?_
 refine callsIn_of_wp_marks Try.func82 rfl trivial ?_ rfl
 simp only [Try.ntmps82, List.size_toArray, List.length_cons, List.length_nil, Nat.reduceAdd, Nat.reduceSub, Array.replicate_succ, Array.replicate_zero, List.push_toArray, List.append_toArray, List.nil_append, List.cons_append]
 gi_wp2_with (refine ⟨trivial, ?_⟩; gi_at_call 104; refine (words_in Fence.wide _ trivial rfl _ _ _ _).mono ?_; rintro e w' ⟨rfl, rfl⟩)
 have bS := Boxed.new w 33 (.int .u16 0)
 have bN := Boxed.new (w.alloc (.cells #[.int .u16 0] 33)) 100 (.slice A xs.length c)
 rw [World.size_alloc] at bN
 have hB0 : Below w.heap.size w ((w.alloc (.cells #[.int .u16 0] 33)).alloc (.cells #[.slice A xs.length c] 100)) := ((Below.refl _ w).alloc (Nat.le_refl _) _).alloc (by simp) _
 refine wpIn_rangeFunc_ownG (F := Fence.wide) (n := 5) rfl (by decide) (gf := 110) (lb := #[.pointer (some ⟨w.heap.size + 1, 0, none⟩)]) rfl trivial (enters_of Try.func110 (by kernel_rfl) rfl)
  (words_stops Fence.wide 4 trivial rfl (by decide) (w.heap.size + 1) w.heap.size A c xs (Below w.heap.size) _ (by simp) (by simp; omega) bN.cell (hI.below hB0 (Nat.le_refl _)) (fun W => Below.refl _ W) belowK_t (fun W W' h hb => ((hI.below hB0 (Nat.le_refl _)).below h (by simp; omega)).below hb (Nat.le_refl _))) belowK_t (belowK_b (by simp; omega)) (Below.refl _ _) (fun _ => rfl)
  (fun pre W => (W.cell? ⟨w.heap.size, 0, none⟩ = some (.int .u16 (fold 0 (ints pre))) ∧ W.frozen? ⟨w.heap.size, 0, none⟩ = false) ∧ Below w.heap.size w W)
  (fun _ _ _ => False)
  (OwnFrom.and (Own.from (fun s A B row hs hg hr => ⟨cell_kept hs.1 hg hr, (frozen_kept hs.1 hg hr).trans hs.2⟩) _) (ownFrom_below (Nat.le_refl _) (by simp; omega)))
  (fun _ _ _ _ _ hs _ _ => hs)
  ⟨⟨(bS.alloc _).cell, (bS.alloc _).frozen⟩, hB0⟩
  (fun x => { tmps := #[.slice A xs.length c, undef, .int .u16 0, .pointer (some ⟨w.heap.size, 0, none⟩), .int .u16 x.1, .slice A xs.length c, .func (.func 110) #[] #[.pointer (some ⟨w.heap.size + 1, 0, none⟩)], .int .u16 x.1, undef, undef, undef, undef], defers := [] }) ?assign ?body ?done ?stop
 case assign =>
  intro l x W K hK
  gi_wp2
  exact hK
 case body =>
  rintro l pre x W ⟨⟨hc, hf⟩, hB⟩ _
  have hr := fold_w16 0 (by omega) pre
  gi_wp2_with (refine ⟨trivial, ?_⟩; gi_at_call 105; refine (CallsIn.inRound l (callsIn_wide.2 (add_any _ _ _ hr.1 hr.2 x.2.1 x.2.2))).mono ?_; rintro e w' ⟨rfl, rfl⟩)
  exact ⟨(KeepsOthers.setCell _ _ _).from _, (Below.refl w.heap.size W).setCell (p := ⟨w.heap.size, 0, none⟩) (Nat.le_refl _) _, ⟨by rw [ints_snoc, fold_snoc]; exact World.cell?_setCell_same' _ _ _ (by rw [hc]; rfl), by rw [World.frozen?_setCell]; exact hf⟩, hB.setCell (p := ⟨w.heap.size, 0, none⟩) (Nat.le_refl _) _⟩
 case done =>
  rintro D ys W hD hys ⟨⟨hc, _⟩, hB⟩ hK
  have hysH := Lib.hid hys
  clear hys
  gi_wp2
  refine ⟨by simp, .inl ⟨_, _, rfl, run_takeDeferred hK, ?_⟩⟩
  refine ⟨_, results_tmp rfl _ _ _, ?_, hB.trans (belowK_b (w := w) (Nat.le_refl _) W D _ _ (by simp at hD; omega) hK rfl rfl)⟩
  rw [hysH.out]; rfl
 case stop =>
  rintro D c pre W _ _ h _
  exact h.elim
end Go.Proofs.Ytjnphelfloiadaa
