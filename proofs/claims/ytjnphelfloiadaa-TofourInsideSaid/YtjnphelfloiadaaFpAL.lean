/-
  Lemmas and walks for the row of TofourPackets,TofourMessages,TofourInside (part 12 of 42).
-/
import Derived.Test.YtjnphelfloiadaaFpAA
import Derived.Test.YtjnphelfloiadaaFpAB
import Derived.Test.YtjnphelfloiadaaFpAD
import Derived.Test.YtjnphelfloiadaaFpAJ
import Derived.Test.YtjnphelfloiadaaFpAK
import Derived.Deep.RegionLaw
import Derived.Below
import Derived.Test.YtjnphelfloiadaaProg
set_option linter.unusedVariables false
set_option linter.unusedSimpArgs false
namespace Go.Proofs.Ytjnphelfloiadaa
open Go.RowKit Go.Shelf

def zero4 : D4 := ⟨0, 0, false, false, 0, 0, 0, 0, 0, 0, 0, 0, 0, 0, 0, [], []⟩
def hop4 (d : D4) : D4 := { d with ttl := d.ttl - 1 }
def D4.hop (d : D4) : D4 := if d.check ≠ 0 then zero4 else if d.ttl < 2 then zero4 else hop4 d
end Go.Proofs.Ytjnphelfloiadaa
namespace Go.Proofs.Ytjnphelfloiadaa
open Go.RowKit

def hl4 (l : List Int) : Int := l.getD 0 0 % 16 * 4
def tot4 (l : List Int) : Int := l.getD 2 0 * 256 + l.getD 3 0
def pe4 (part : Bool) (l : List Int) : Int :=
 if l.length < 20 then 40 else if l.getD 0 0 / 16 ≠ 4 then 41 else if hl4 l < 20 ∨ hl4 l > l.length then 42
 else if (part = false ∧ tot4 l ≠ l.length) ∨ (part = true ∧ (tot4 l < l.length ∨ tot4 l < hl4 l)) then 43
 else if part = false ∧ sumw (l.take (hl4 l).toNat) ≠ 65535 then 44 else 0
def of4 (l : List Int) : D4 :=
 ⟨l.getD 1 0, l.getD 4 0 * 256 + l.getD 5 0, decide (l.getD 6 0 / 64 % 2 = 1), decide (l.getD 6 0 / 32 % 2 = 1), l.getD 6 0 % 32 * 256 + l.getD 7 0, l.getD 8 0, l.getD 9 0,
  l.getD 12 0, l.getD 13 0, l.getD 14 0, l.getD 15 0, l.getD 16 0, l.getD 17 0, l.getD 18 0, l.getD 19 0, (l.drop 20).take ((hl4 l).toNat - 20), l.drop (hl4 l).toNat⟩
def got4 (part : Bool) (l : List Int) : D4 := if pe4 part l = 0 then of4 l else zero4

theorem pe4_intro {part : Bool} {l : List Int} (h1 : 20 ≤ l.length) (h2 : l.getD 0 0 / 16 = 4) (h3 : 20 ≤ hl4 l) (h4 : hl4 l ≤ l.length) (h5 : part = false → tot4 l = l.length) (h6 : part = true → l.length ≤ tot4 l ∧ hl4 l ≤ tot4 l) (h7 : part = false → sumw (l.take (hl4 l).toNat) = 65535) : pe4 part l = 0 := by
 unfold pe4
 have n1 : ¬ ((part = false ∧ tot4 l ≠ l.length) ∨ (part = true ∧ (tot4 l < l.length ∨ tot4 l < hl4 l))) := by
  rintro (⟨hp, hn⟩ | ⟨hp, hn⟩)
  ·exact hn (h5 hp)
  ·have := h6 hp; omega
 have n2 : ¬ (part = false ∧ sumw (l.take (hl4 l).toNat) ≠ 65535) := by rintro ⟨hp, hn⟩; exact hn (h7 hp)
 rw [if_neg (show ¬ l.length < 20 by omega), if_neg (Decidable.not_not.2 h2), if_neg (by omega), if_neg n1, if_neg n2]

theorem getD_app4 {l m : List Int} {i : Nat} (h : i < l.length) : (l ++ m).getD i 0 = l.getD i 0 := by
 rw [List.getD_eq_getElem?_getD, List.getD_eq_getElem?_getD, List.getElem?_append_left h]
theorem D4.first_len (d : D4) (s : Int) : (d.first s).length = 20 := rfl
theorem D4.first_get (d : D4) (s : Int) (r : List Int) {i : Nat} (h : i < 20) : (d.first s ++ r).getD i 0 = (d.first s).getD i 0 := getD_app4 h
theorem D4.head_of (d : D4) (hd : d.ok) (hc : d.check = 0) (s : Int) (b : List Int) :
  hl4 (d.first s ++ (d.ol ++ b)) = 20 + d.ol.length ∧ (d.first s ++ (d.ol ++ b)).getD 0 0 / 16 = 4 ∧ tot4 (d.first s ++ (d.ol ++ b)) = 20 + d.ol.length + d.bl.length ∧ of4 (d.first s ++ (d.ol ++ b)) = { d with bl := b } := by
 obtain ⟨h1, h2, h3, h4⟩ := D4.ok_of_check hc
 have hid := hd.id
 have e0 : (d.first s ++ (d.ol ++ b)).getD 0 0 = 64 + (d.hl : Int) / 4 := d.first_get s _ (by decide)
 have e2 : (d.first s ++ (d.ol ++ b)).getD 2 0 = (d.hl + d.bl.length : Int) / 256 := d.first_get s _ (by decide)
 have e3 : (d.first s ++ (d.ol ++ b)).getD 3 0 = (d.hl + d.bl.length : Int) % 256 := d.first_get s _ (by decide)
 have e4 : (d.first s ++ (d.ol ++ b)).getD 4 0 = d.id / 256 := d.first_get s _ (by decide)
 have e5 : (d.first s ++ (d.ol ++ b)).getD 5 0 = d.id % 256 := d.first_get s _ (by decide)
 have e6 : (d.first s ++ (d.ol ++ b)).getD 6 0 = d.offw / 256 := d.first_get s _ (by decide)
 have e7 : (d.first s ++ (d.ol ++ b)).getD 7 0 = d.offw % 256 := d.first_get s _ (by decide)
 have eh : (d.hl : Int) = 20 + d.ol.length := by simp [D4.hl]
 have hH : hl4 (d.first s ++ (d.ol ++ b)) = 20 + d.ol.length := by unfold hl4; rw [e0, eh]; omega
 refine ⟨hH, by rw [e0, eh]; omega, by unfold tot4; rw [e2, e3, eh]; omega, ?_⟩
 have hn : (20 + (d.ol.length : Int)).toNat = 20 + d.ol.length := by omega
 have eo : ((d.first s ++ (d.ol ++ b)).drop 20).take (20 + d.ol.length - 20) = d.ol := by
  rw [List.drop_append_of_le_length (by rw [D4.first_len]; exact Nat.le_refl _), List.drop_of_length_le (by rw [D4.first_len]; exact Nat.le_refl _), List.nil_append, Nat.add_sub_cancel_left, List.take_append_of_le_length (Nat.le_refl _), List.take_length]
 have eb : (d.first s ++ (d.ol ++ b)).drop (20 + d.ol.length) = b := by
  rw [← List.append_assoc, List.drop_append, List.drop_of_length_le (by rw [List.length_append, D4.first_len]; exact Nat.le_refl _), List.length_append, D4.first_len, Nat.sub_self]
  rfl
 have q1 : (d.first s ++ (d.ol ++ b)).getD 1 0 = d.tos := d.first_get s _ (by decide)
 have q8 : (d.first s ++ (d.ol ++ b)).getD 8 0 = d.ttl := d.first_get s _ (by decide)
 have q9 : (d.first s ++ (d.ol ++ b)).getD 9 0 = d.proto := d.first_get s _ (by decide)
 have qa : (d.first s ++ (d.ol ++ b)).getD 12 0 = d.s0 := d.first_get s _ (by decide)
 have qb : (d.first s ++ (d.ol ++ b)).getD 13 0 = d.s1 := d.first_get s _ (by decide)
 have qc : (d.first s ++ (d.ol ++ b)).getD 14 0 = d.s2 := d.first_get s _ (by decide)
 have qd : (d.first s ++ (d.ol ++ b)).getD 15 0 = d.s3 := d.first_get s _ (by decide)
 have qe : (d.first s ++ (d.ol ++ b)).getD 16 0 = d.d0 := d.first_get s _ (by decide)
 have qf : (d.first s ++ (d.ol ++ b)).getD 17 0 = d.d1 := d.first_get s _ (by decide)
 have qg : (d.first s ++ (d.ol ++ b)).getD 18 0 = d.d2 := d.first_get s _ (by decide)
 have qh : (d.first s ++ (d.ol ++ b)).getD 19 0 = d.d3 := d.first_get s _ (by decide)
 have r5 : d.id / 256 * 256 + d.id % 256 = d.id := by omega
 have r6 : d.offw / 256 % 32 * 256 + d.offw % 256 = d.off := by unfold D4.offw; split <;> split <;> omega
 have r7 : decide (d.offw / 256 / 64 % 2 = 1) = d.df := by
  unfold D4.offw
  cases d.df <;> cases d.mf <;> simp <;> omega
 have r8 : decide (d.offw / 256 / 32 % 2 = 1) = d.mf := by
  unfold D4.offw
  cases d.df <;> cases d.mf <;> simp <;> omega
 unfold of4
 rw [hH, hn, e4, e5, e6, e7, eo, eb, q1, q8, q9, qa, qb, qc, qd, qe, qf, qg, qh, r5, r6, r7, r8]

def D4.pre (d : D4) : List Int := (d.first 0).take 10
def D4.post (d : D4) : List Int := (d.first 0).drop 12
theorem D4.bytes_eq (d : D4) : d.bytes = d.first d.sum ++ (d.ol ++ d.bl) := by unfold D4.bytes; rw [List.append_assoc]
theorem D4.bytes_len (d : D4) : d.bytes.length = 20 + d.ol.length + d.bl.length := by rw [D4.bytes_eq, List.length_append, List.length_append, D4.first_len]; omega
theorem D4.cut (d : D4) (hd : d.ok) (hc : d.check = 0) (n : Nat) (hn : n ≤ d.bl.length) : pe4 true (d.bytes.take (d.bytes.length - n)) = 0 ∧ got4 true (d.bytes.take (d.bytes.length - n)) = { d with bl := d.bl.take (d.bl.length - n) } := by
 obtain ⟨h1, h2, h3, h4⟩ := d.head_of hd hc d.sum (d.bl.take (d.bl.length - n))
 have hl := d.bytes_len
 have e : d.bytes.take (d.bytes.length - n) = d.first d.sum ++ (d.ol ++ d.bl.take (d.bl.length - n)) := by
  rw [hl, D4.bytes_eq, ← List.append_assoc, List.take_append, List.length_append, D4.first_len, List.take_of_length_le (by rw [List.length_append, D4.first_len]; omega), ← List.append_assoc]
  congr 2
  omega
 rw [e]
 have hl2 : (d.first d.sum ++ (d.ol ++ d.bl.take (d.bl.length - n))).length = 20 + d.ol.length + (d.bl.length - n) := by rw [List.length_append, List.length_append, D4.first_len, List.length_take]; omega
 have hz : pe4 true (d.first d.sum ++ (d.ol ++ d.bl.take (d.bl.length - n))) = 0 :=
  pe4_intro (by omega) h2 (by omega) (by omega) (fun h => by cases h) (fun _ => by rw [h3, hl2, h1]; omega) (fun h => by cases h)
 refine ⟨hz, ?_⟩
 unfold got4
 rw [if_pos hz, h4]
def optBad (l : List Int) (k : Nat) : Prop := l.length < k + 2 ∨ l.getD (k + 1) 0 < 2 ∨ (l.length : Int) < k + l.getD (k + 1) 0
instance (l : List Int) (k : Nat) : Decidable (optBad l k) := by unfold optBad; infer_instance
structure D7 where
 (ty code rest : Int) (bl : List Int)
def D7.cells (d : D7) (A : Option Addr) (c : Nat) : Array Value := #[.int .u8 d.ty, .int .u8 d.code, .int .u32 d.rest, .slice A d.bl.length c]
structure D7.ok (d : D7) : Prop where
 ty : 0 ≤ d.ty ∧ d.ty ≤ 255
 code : 0 ≤ d.code ∧ d.code ≤ 255
 rest : 0 ≤ d.rest ∧ d.rest < 4294967296
structure Rd7 (B : Nat) (w : World) (d : D7) (A : Option Addr) (c : Nat) : Prop where
 ok : d.ok
 body : By B w A d.bl.length c d.bl
theorem Rd7.below {B B' : Nat} {w w' : World} {d : D7} {A : Option Addr} {c : Nat} (h : Rd7 B w d A c) (hb : Below B' w w') (hB : B ≤ B') : Rd7 B w' d A c := ⟨h.ok, h.body.below hb hB⟩
theorem Rd7.more {B B' : Nat} {w : World} {d : D7} {A : Option Addr} {c : Nat} (h : Rd7 B w d A c) (hB : B ≤ B') : Rd7 B' w d A c := ⟨h.ok, h.body.more hB⟩

def D7.first (d : D7) (s : Int) : List Int := [d.ty, d.code, s / 256, s % 256, d.rest / 16777216, d.rest / 65536 % 256, d.rest / 256 % 256, d.rest % 256]
def D7.sum (d : D7) (ps : List Int) : Int := 65535 - sumw (ps ++ d.first 0 ++ d.bl)
def D7.bytes (d : D7) (ps : List Int) : List Int := d.first (d.sum ps) ++ d.bl
def D7.err (d : D7) : Int := if 65527 < d.bl.length then 2 else 0
def D7.write (d : D7) (ps : List Int) : List Int := if 65527 < d.bl.length then [] else d.bytes ps
def pse6 (a b : List Int) (n p : Int) : List Int := a ++ b ++ [0, 0, n / 256, n % 256, 0, 0, 0, p]
theorem pse6_rng {a b : List Int} (ha : InB a) (hb : InB b) {n p : Int} (hn : 0 ≤ n ∧ n < 65536) (hp : 0 ≤ p ∧ p ≤ 255) : InB (pse6 a b n p) :=
 (ha.app hb).app fun x hx => by
  simp only [List.mem_cons, List.not_mem_nil, or_false] at hx
  omega
theorem D7.first_rng {d : D7} (hd : d.ok) {s : Int} (hs : 0 ≤ s ∧ s < 65536) : InB (d.first s) := by
 have h1 := hd.ty; have h2 := hd.code; have h3 := hd.rest
 intro x hx
 simp only [D7.first, List.mem_cons, List.not_mem_nil, or_false] at hx
 rcases hx with rfl | rfl | rfl | rfl | rfl | rfl | rfl | rfl
 all_goals omega
theorem D7.bytes_len (d : D7) (ps : List Int) : (d.bytes ps).length = 8 + d.bl.length := by unfold D7.bytes; rw [List.length_append, Nat.add_comm 8]; rw [show (d.first (d.sum ps)).length = 8 from rfl, Nat.add_comm]

def zero7 : D7 := ⟨0, 0, 0, []⟩
theorem zero7_ok : zero7.ok := ⟨by decide, by decide, by decide⟩
def of7 (l : List Int) : D7 := ⟨l.getD 0 0, l.getD 1 0, l.getD 4 0 * 16777216 + l.getD 5 0 * 65536 + l.getD 6 0 * 256 + l.getD 7 0, l.drop 8⟩
def parse7 (l ps : List Int) : D7 := if l.length < 8 ∨ 65535 < l.length ∨ sumw (ps ++ l) ≠ 65535 then zero7 else of7 l
def perr7 (l ps : List Int) : Int := if l.length < 8 then 70 else if 65535 < l.length then 2 else if sumw (ps ++ l) ≠ 65535 then 71 else 0
theorem getD_rng {l : List Int} (h : InB l) (k : Nat) : 0 ≤ l.getD k 0 ∧ l.getD k 0 ≤ 255 := by
 rw [List.getD_eq_getElem?_getD]
 by_cases hk : k < l.length
 ·rw [List.getElem?_eq_getElem hk]; exact h.get hk
 ·rw [List.getElem?_eq_none (by omega)]; exact ⟨by decide, by decide⟩
theorem of7_ok {l : List Int} (h : InB l) : (of7 l).ok := by
 have h0 := getD_rng h 0; have h1 := getD_rng h 1; have h4 := getD_rng h 4; have h5 := getD_rng h 5; have h6 := getD_rng h 6; have h7 := getD_rng h 7
 exact ⟨h0, h1, by simp only [of7]; omega⟩
end Go.Proofs.Ytjnphelfloiadaa
namespace Go.Proofs.Ytjnphelfloiadaa
open Go.RowKit Go.Shelf

theorem add_any (a b : Int) (w : World) (ha : 0 ≤ a) (ha' : a < 65536) (hb : 0 ≤ b) (hb' : b < 65536) :
  Calls Try.prog 105 #[.int .u16 a, .int .u16 b] w fun e w' => e = .returned (.int .u16 (addw a b)) ∧ w = w' := by
 go_enter Try.func105, Try.ntmps105
 go_wp2
 go_ret
 refine ⟨ret_int ?_, rfl⟩
 rw [and_u32 16 65535 rfl (by omega) (by omega) (by omega), IntKind.wrap_u16]
 unfold addw
 omega

attribute [local go_sem] Oper.semAt_some

theorem flat_le {xs : List Sl} {k j : Nat} (hlt : k < xs.length) (hj : j < xs[k].2.2.length) : (flat (xs.take k) ++ xs[k].2.2.take j).length ≤ (flat xs).length := by
 have h : xs = xs.take k ++ xs[k] :: xs.drop (k + 1) := by rw [← List.drop_eq_getElem_cons hlt, List.take_append_drop]
 have h2 := congrArg (fun l => (flat l).length) h
 simp only [flat, List.map_append, List.map_cons, List.flatten_append, List.flatten_cons, List.length_append] at h2 ⊢
 rw [List.length_take]
 omega

def Pend (o : Option Int) (hi od : Value) : Prop :=
 (o = none ∧ od = .bool false ∧ ∃ x, hi = .int .u16 x) ∨ ∃ h, o = some h ∧ od = .bool true ∧ hi = .int .u16 (h * 256) ∧ 0 ≤ h ∧ h ≤ 255

set_option maxRecDepth 100000 in
set_option maxHeartbeats 4000000 in
theorem words1_in (F : Fence) (n : Nat) (h7 : F.fn 110) (hro : F.round = none) (hn : 1 ≤ n) (l Bs n₀ : Nat) (A : Option Addr) (c : Nat) (xs : List Sl) (Kp : World → World → Prop) (J Jx : List Int → World → Prop)
  (hY : ∀ pre x W, J pre W → (0 ≤ x ∧ x < 65536) ∧ pre.length ≤ (flat xs).length → YieldAt F (n - 1) Try.prog l #[.int .u16 x] W fun e W' =>
   (e = .returned (.bool true) ∧ J (pre ++ [x]) W' ∧ Kp W W') ∨ (e = .returned (.bool false) ∧ Jx (pre ++ [x]) W'))
  (W : World) (hKr : Kp W W) (hKt : ∀ {A B C : World}, Kp A B → Kp B C → Kp A C) (hBs : W.cell? ⟨Bs, 0, none⟩ = some (.slice A xs.length c)) (hc0 : Parts n₀ W A xs.length c xs) (hcK : ∀ W', Kp W W' → Parts n₀ W' A xs.length c xs) (h0 : J [] W) :
  CallsIn F n Try.prog 110 #[.func (.yield l) #[] #[], .pointer (some ⟨Bs, 0, none⟩)] W fun e W' => (∃ v, e = .returned v) ∧
   ((J (wds (flat xs)) W') ∨ (∃ pre, Jx pre W')) := by
 refine callsIn_of_wp Try.func110 rfl h7 ?_ hro
 simp only [Try.ntmps110, List.size_toArray, List.length_cons, List.length_nil, Nat.reduceAdd, Nat.reduceSub, Array.replicate_succ, Array.replicate_zero, List.push_toArray, List.append_toArray, List.nil_append, List.cons_append]
 gi_wp2
 gi_loopw [3, 4, 11] (fun hi od i wr => ∃ k : Nat, k ≤ xs.length ∧ i = .int .i64 k ∧ Pend (runw (flat (xs.take k))).2 hi od ∧ J (runw (flat (xs.take k))).1 wr ∧ Kp W wr)
  (fun _ _ i _ => xs.length - (intOf i).toNat)
 case atStart => exact ⟨0, Nat.zero_le _, rfl, .inl ⟨rfl, rfl, 0, rfl⟩, h0, hKr⟩
 case round =>
  obtain ⟨k, hk, rfl, hp, hJs, hnx⟩ := hrel
  by_cases hlt : k < xs.length
  ·obtain ⟨b, off, hA, hb, hcell, _⟩ := (hcK wr hnx).at_ k xs[k] (List.getElem?_eq_getElem hlt)
   subst hA
   have hk63 : k < 9223372036854775807 := by have := hc0.big; have := hc0.cap; omega
   have hsum := flat_take_succ hlt
   obtain ⟨A', c', l', hxk⟩ : ∃ A' c' l', xs[k] = (A', c', l') := ⟨_, _, _, rfl⟩
   have hfl := fun j => @flat_le xs k j hlt
   rw [hxk] at hsum hcell hfl
   have hyk : ∀ W', Kp W W' → By n₀ W' A' l'.length c' l' := fun W' h => by
    obtain ⟨_, _, _, _, _, hy⟩ := (hcK W' h).at_ k xs[k] (List.getElem?_eq_getElem hlt)
    rwa [hxk] at hy
   clear hxk
   dsimp only at hsum hcell hfl
   have hsumH := Lib.hid hsum
   clear hsum
   gi_wp2
   gi_loopw [3, 4, 17] (fun hi od i wr' => ∃ j : Nat, j ≤ l'.length ∧ i = .int .i64 j ∧ Pend (runw (flat (xs.take k) ++ l'.take j)).2 hi od ∧ J (runw (flat (xs.take k) ++ l'.take j)).1 wr' ∧ Kp W wr')
    (fun _ _ i _ => l'.length - (intOf i).toNat)
   case atStart => exact ⟨0, Nat.zero_le _, rfl, by simpa using hp, by simpa using hJs, hnx⟩
   case round =>
    clear hp hJs
    obtain ⟨j, hj, rfl, hp, hJs, hnx2⟩ := hrel
    by_cases hjt : j < l'.length
    ·obtain ⟨b2, off2, x, rfl, hb2, hx, hxc, hx0, hx1⟩ := (hyk _ hnx2).get hjt
     have hj63 : j < 9223372036854775807 := by have := (hyk _ hnx2).big; have := (hyk _ hnx2).cap; omega
     have hst : runw (flat (xs.take k) ++ l'.take (j + 1)) = stp (runw (flat (xs.take k) ++ l'.take j)) x := by
      rw [List.take_succ_eq_append_getElem hjt, ← List.append_assoc, runw_snoc]
      rw [List.getElem?_eq_getElem hjt] at hx
      injection hx with hx
      rw [hx]
     have hstH := Lib.hid hst
     clear hst
     rcases hp with ⟨h1, rfl, y, rfl⟩ | ⟨h, h1, rfl, rfl, h2, h3⟩
     ·have h1H := Lib.hid h1
      have hxH := Lib.hid hx
      clear h1 hx
      gi_wp2
      go_roundw
      case rel => exact ⟨j + 1, by omega, by go_num, .inr ⟨x, by rw [hstH.out, stp, h1H.out], rfl, by simp, hx0, hx1⟩, by rw [hstH.out, stp, h1H.out]; exact hJs, hnx2⟩
      case measure => simp [intOf]; omega
     ·have h1H := Lib.hid h1
      have hxH := Lib.hid hx
      clear h1 hx
      have hor : bits .or .u16 (h * 256) x = h * 256 + x := or_u16 8 (by omega) (by omega) (by omega) hx0 (by omega) (by omega)
      obtain ⟨fn, tmps, assign, body, hyl, hR⟩ := hY _ (bits .or .u16 (h * 256) x) wr hJs ⟨by rw [hor]; omega, Nat.le_trans (runw_le _) (hfl j hjt)⟩
      have horH := Lib.hid hor
      clear hor
      gi_wp2
      refine hR.mono ?_
      rintro e W3 (⟨rfl, hJ3, hk3⟩ | ⟨rfl, hJx3⟩)
      ·gi_wp2
       go_roundw
       case rel => exact ⟨j + 1, by omega, by go_num, .inl ⟨by rw [hstH.out, stp, h1H.out], rfl, _, rfl⟩, by rw [hstH.out, stp, h1H.out]; rw [horH.out] at hJ3; exact hJ3, hKt hnx2 hk3⟩
       case measure => simp [intOf]; omega
      ·gi_wp2
       refine bodyPost_ret (results_none rfl _ _ _) rfl ?_
       exact ⟨⟨_, rfl⟩, .inr ⟨_, hJx3⟩⟩
    ·obtain rfl : j = l'.length := by omega
     gi_wp2
     go_roundw
     case rel => exact ⟨k + 1, by omega, by go_num, by rw [hsumH.out]; simpa using hp, by rw [hsumH.out]; simpa using hJs, hnx2⟩
     case measure => simp [intOf]; omega
  ·obtain rfl : k = xs.length := by omega
   rcases hp with ⟨h1, rfl, x, rfl⟩ | ⟨h, h1, rfl, rfl, h2, h3⟩
   ·gi_wp2
    go_end0
    rw [List.take_length] at hJs h1
    exact ⟨⟨_, rfl⟩, .inl (by rw [wds, h1]; simpa [rest] using hJs)⟩
   ·rw [List.take_length] at hJs h1
    have h1H := Lib.hid h1
    clear h1
    obtain ⟨fn, tmps, assign, body, hyl, hR⟩ := hY _ (h * 256) wr hJs ⟨by omega, runw_le _⟩
    gi_wp2
    refine hR.mono ?_
    rintro e W3 (⟨rfl, hJ3, hk3⟩ | ⟨rfl, hJx3⟩)
    ·gi_wp2
     go_end0
     exact ⟨⟨_, rfl⟩, .inl (by rw [wds, h1H.out]; exact hJ3)⟩
    ·gi_wp2
     go_end0
     exact ⟨⟨_, rfl⟩, .inr ⟨_, hJx3⟩⟩

abbrev W16 := { x : Int // 0 ≤ x ∧ x < 65536 }
def ints (l : List W16) : List Int := l.map (·.1)
theorem ints_snoc (l : List W16) (x : W16) : ints (l ++ [x]) = ints l ++ [x.1] := by simp [ints]

theorem words_in (F : Fence) (n : Nat) (h6 : F.fn 104) (hro : F.round = none) (A : Option Addr) (m c : Nat) (w : World) :
  CallsIn F n Try.prog 104 #[.slice A m c] w fun e w' => e = .returned (.func (.func 110) #[] #[.pointer (some ⟨w.heap.size, 0, none⟩)]) ∧ w' = w.alloc (.cells #[.slice A m c] 100) := by
 refine callsIn_of_wp Try.func104 rfl h6 ?_ hro
 simp only [Try.ntmps104, List.size_toArray, List.length_cons, List.length_nil, Nat.reduceAdd, Nat.reduceSub, Array.replicate_succ, Array.replicate_zero, List.push_toArray, List.append_toArray, List.nil_append, List.cons_append]
 gi_wp2
 go_ret
 exact ⟨rfl, rfl⟩

theorem words_stops (F : Fence) (n : Nat) (h8 : F.fn 110) (hro : F.round = none) (hn : 1 ≤ n) (Bs n₀ : Nat) (A : Option Addr) (c : Nat) (xs : List Sl) (Kp : World → World → Prop) (w : World) (hBs : Bs < w.heap.size) (hn₀ : n₀ ≤ w.heap.size)
  (hcell : w.cell? ⟨Bs, 0, none⟩ = some (.slice A xs.length c)) (hc : Parts n₀ w A xs.length c xs)
  (hKr : ∀ W, Kp W W) (hKt : ∀ {A B C : World}, Kp A B → Kp B C → Kp A C) (hcK : ∀ W W', Below w.heap.size w W → Kp W W' → Parts n₀ W' A xs.length c xs) :
  SeqStopsK F n Try.prog 110 #[.pointer (some ⟨Bs, 0, none⟩)] (fun x : W16 => #[Value.int .u16 x.1]) Kp (fun ys => ints ys = wds (flat xs)) (fun _ => True) ((flat xs).length + 1) w := fun l J Jx W hW _ _ hY h0 => by
 refine (words1_in F n h8 hro hn l Bs n₀ A c xs Kp (fun pre W => ∃ p, ints p = pre ∧ J p W) (fun pre W => ∃ p, ints p = pre ∧ Jx p W) ?_ W (hKr W) hKt ((hW.cell (p := ⟨Bs, 0, none⟩) hBs).trans hcell) (hc.below hW hn₀) (fun W' h => hcK W W' hW h) ⟨[], rfl, h0⟩).mono ?_
 ·rintro pre x W1 ⟨p, rfl, hJ⟩ ⟨hx, hl⟩
  refine (hY p ⟨x, hx⟩ W1 hJ (by simp only [ints, List.length_map] at hl; omega)).mono ?_
  rintro e W' (⟨he, hj, hb⟩ | ⟨he, hj⟩)
  ·exact .inl ⟨he, ⟨_, ints_snoc _ _, hj⟩, hb⟩
  ·exact .inr ⟨he, _, ints_snoc _ _, hj⟩
 ·rintro e W' ⟨he, ⟨p, hp, hj⟩ | ⟨pre, p, hp, hj⟩⟩
  ·exact ⟨he, .inl ⟨p, hp, hj⟩⟩
  ·exact ⟨he, .inr ⟨p, trivial, hj⟩⟩
end Go.Proofs.Ytjnphelfloiadaa
namespace Go.Proofs.Ytjnphelfloiadaa
open Go.RowKit Go.Shelf
attribute [local go_sem] Oper.semAt_some

theorem fold_w16 (n : Int) (hn : 0 ≤ n ∧ n < 65536) (l : List W16) : 0 ≤ fold n (ints l) ∧ fold n (ints l) < 65536 := fold_rng n hn _ (fun x hx => by
 obtain ⟨y, _, rfl⟩ := List.mem_map.1 hx
 exact y.2)

set_option maxRecDepth 100000 in
set_option maxHeartbeats 2000000 in
theorem fold_any (A : Option Addr) (c : Nat) (xs : List Sl) (w : World) (hI : Parts w.heap.size w A xs.length c xs) :
  Calls Try.prog 82 #[.slice A xs.length c] w fun e W' => e = .returned (.int .u16 (sumw (flat xs))) ∧ Below w.heap.size w W' := by
 refine (callsIn_wide (n := 5)).1 ?_
 refine callsIn_of_wp_marks Try.func82 rfl trivial ?_ rfl
 simp only [Try.ntmps82, List.size_toArray, List.length_cons, List.length_nil, Nat.reduceAdd, Nat.reduceSub, Array.replicate_succ, Array.replicate_zero, List.push_toArray, List.append_toArray, List.nil_append, List.cons_append]
 gi_wp2_with (refine ⟨trivial, ?_⟩; gi_at_call 104; refine (words_in Fence.wide _ trivial rfl _ _ _ _).mono ?_; rintro e w' ⟨rfl, rfl⟩)
 have bS := Boxed.new w 33 (.int .u16 0)
 have bN := Boxed.new (w.alloc (.cells #[.int .u16 0] 33)) 100 (.slice A xs.length c)
 rw [World.size_alloc] at bN
 have hB0 : Below w.heap.size w ((w.alloc (.cells #[.int .u16 0] 33)).alloc (.cells #[.slice A xs.length c] 100)) := ((Below.refl _ w).alloc (Nat.le_refl _) _).alloc (by simp) _
 refine wpIn_rangeFunc_ownG (F := Fence.wide) (n := 5) rfl (by decide) (gf := 110) (lb := #[.pointer (some ⟨w.heap.size + 1, 0, none⟩)]) rfl trivial (enters_of Try.func110 (by kernel_rfl) rfl)
  (words_stops Fence.wide 4 trivial rfl (by decide) (w.heap.size + 1) w.heap.size A c xs (Below w.heap.size) _ (by simp) (by simp; omega) bN.cell (hI.below hB0 (Nat.le_refl _)) (fun W => Below.refl _ W) belowK_t (fun W W' h hb => ((hI.below hB0 (Nat.le_refl _)).below h (by simp; omega)).below hb (Nat.le_refl _))) belowK_t (belowK_b (by simp; omega)) (Below.refl _ _) (fun _ => rfl)
  (fun pre W => (W.cell? ⟨w.heap.size, 0, none⟩ = some (.int .u16 (fold 0 (ints pre))) ∧ W.frozen? ⟨w.heap.size, 0, none⟩ = false) ∧ Below w.heap.size w W)
  (fun _ _ _ => False)
  (OwnFrom.and (Own.from (fun s A B row hs hg hr => ⟨cell_kept hs.1 hg hr, (frozen_kept hs.1 hg hr).trans hs.2⟩) _) (ownFrom_below (Nat.le_refl _) (by simp; omega)))
  (fun _ _ _ _ _ hs _ _ => hs)
  ⟨⟨(bS.alloc _).cell, (bS.alloc _).frozen⟩, hB0⟩
  (fun x => { tmps := #[.slice A xs.length c, undef, .int .u16 0, .pointer (some ⟨w.heap.size, 0, none⟩), .int .u16 x.1, .slice A xs.length c, .func (.func 110) #[] #[.pointer (some ⟨w.heap.size + 1, 0, none⟩)], .int .u16 x.1, undef, undef, undef, undef], defers := [] }) ?assign ?body ?done ?stop
 case assign =>
  intro l x W K hK
  gi_wp2
  exact hK
 case body =>
  rintro l pre x W ⟨⟨hc, hf⟩, hB⟩ _
  have hr := fold_w16 0 (by omega) pre
  gi_wp2_with (refine ⟨trivial, ?_⟩; gi_at_call 105; refine (CallsIn.inRound l (callsIn_wide.2 (add_any _ _ _ hr.1 hr.2 x.2.1 x.2.2))).mono ?_; rintro e w' ⟨rfl, rfl⟩)
  exact ⟨(KeepsOthers.setCell _ _ _).from _, (Below.refl w.heap.size W).setCell (p := ⟨w.heap.size, 0, none⟩) (Nat.le_refl _) _, ⟨by rw [ints_snoc, fold_snoc]; exact World.cell?_setCell_same' _ _ _ (by rw [hc]; rfl), by rw [World.frozen?_setCell]; exact hf⟩, hB.setCell (p := ⟨w.heap.size, 0, none⟩) (Nat.le_refl _) _⟩
 case done =>
  rintro D ys W hD hys ⟨⟨hc, _⟩, hB⟩ hK
  have hysH := Lib.hid hys
  clear hys
  gi_wp2
  refine ⟨by simp, .inl ⟨_, _, rfl, run_takeDeferred hK, ?_⟩⟩
  refine ⟨_, results_tmp rfl _ _ _, ?_, hB.trans (belowK_b (w := w) (Nat.le_refl _) W D _ _ (by simp at hD; omega) hK rfl rfl)⟩
  rw [hysH.out]; rfl
 case stop =>
  rintro D c pre W _ _ h _
  exact h.elim
theorem of_any (A : Option Addr) (c : Nat) (xs : List Sl) (w : World) (hI : Parts w.heap.size w A xs.length c xs) :
  Calls Try.prog 53 #[.slice A xs.length c] w fun e W' => e = .returned (.int .u16 (65535 - sumw (flat xs))) ∧ Below w.heap.size w W' := by
 go_enter Try.func53, Try.ntmps53
 go_wp2_with (go_at_call 82; refine (fold_any _ _ _ _ hI).mono ?_; rintro e w' ⟨rfl, hb⟩)
 go_ret
 have h := sumw_rng _ hI.rng
 exact ⟨ret_int (not_u16 _ h.1 h.2), hb⟩
theorem good_any (A : Option Addr) (c : Nat) (xs : List Sl) (w : World) (hI : Parts w.heap.size w A xs.length c xs) :
  Calls Try.prog 95 #[.slice A xs.length c] w fun e W' => e = .returned (.bool (decide (sumw (flat xs) = 65535))) ∧ Below w.heap.size w W' := by
 go_enter Try.func95, Try.ntmps95
 go_wp2_with (go_at_call 82; refine (fold_any _ _ _ _ hI).mono ?_; rintro e w' ⟨rfl, hb⟩)
 go_ret
 exact ⟨rfl, hb⟩

theorem of_new {w : World} {g : Nat} (xs : List Sl) (n : Nat) (h : Has w g (.cells (xs.map fun x => Value.slice x.1 x.2.2.length x.2.1).toArray 26 (0, 0))) (hn : n = xs.length) (hy : ∀ x ∈ xs, By w.heap.size w x.1 x.2.2.length x.2.1 x.2.2) (hb : xs.length ≤ 9223372036854775807) :
  Calls Try.prog 53 #[.slice (some ⟨g, 0, none⟩) n n] w fun e W' => ∃ q : Int, e = .returned (.int .u16 q) ∧ Hid (q = 65535 - sumw (flat xs)) ∧ (0 ≤ q ∧ q < 65536) ∧ Below w.heap.size w W' := by
 subst hn
 have hP := Parts.blk h (Nat.le_refl _) rfl hy hb
 have hr := sumw_rng _ hP.rng
 exact (of_any _ _ xs _ hP).mono fun e w' ⟨he, hb⟩ => ⟨_, he, Lib.hid rfl, by omega, hb⟩
theorem good_new {w : World} {g : Nat} (xs : List Sl) (n : Nat) (h : Has w g (.cells (xs.map fun x => Value.slice x.1 x.2.2.length x.2.1).toArray 26 (0, 0))) (hn : n = xs.length) (hy : ∀ x ∈ xs, By w.heap.size w x.1 x.2.2.length x.2.1 x.2.2) (hb : xs.length ≤ 9223372036854775807) :
  Calls Try.prog 95 #[.slice (some ⟨g, 0, none⟩) n n] w fun e W' => ∃ q : Bool, e = .returned (.bool q) ∧ Hid (q = decide (sumw (flat xs) = 65535)) ∧ Below w.heap.size w W' := by
 subst hn
 exact (good_any _ _ xs _ (Parts.blk h (Nat.le_refl _) rfl hy hb)).mono fun e w' ⟨he, hb⟩ => ⟨_, he, Lib.hid rfl, hb⟩
end Go.Proofs.Ytjnphelfloiadaa
