/-
  A header of which one bit is turned is none: in plain numbers.
-/
import Derived.Test.YtfkcejfjmfliaaaP4P
namespace Go.Proofs.Ytfkcejfjmfliaaa
open Go.RowKit

theorem wt_cons2 (a b : Int) (r : List Int) : wt (a :: b :: r) = a * 256 + b + wt r := by
  have := wt_append [a, b] r (by simp)
  rw [wt_two] at this
  exact this
theorem wt_one (a : Int) : wt [a] = a * 256 := by simp [wt, wds, runw, rest, tot, stp]
theorem wt_head (a b : Int) (r : List Int) : wt (b :: r) = wt (a :: r) + (b - a) * 256 := by
  cases r with
  | nil => rw [wt_one, wt_one]; omega
  | cons c r => rw [wt_cons2, wt_cons2]; omega
theorem wt_second (c a b : Int) (r : List Int) : wt (c :: b :: r) = wt (c :: a :: r) + (b - a) := by rw [wt_cons2, wt_cons2]; omega
/-- a byte changed changes the sum of words by its change, or by 256 times as much -/
theorem wt_set : ∀ (l : List Int) (i : Nat) (y : Int), i < l.length → ∃ m : Int, (m = 256 ∨ m = 1) ∧ wt (l.set i y) = wt l + (y - l.getD i 0) * m
  | [], i, y, h => by simp at h
  | [a], 0, y, _ => ⟨256, .inl rfl, wt_head a y []⟩
  | [a], i + 1, y, h => by simp at h
  | a :: b :: r, 0, y, _ => ⟨256, .inl rfl, wt_head a y (b :: r)⟩
  | a :: b :: r, 1, y, _ => ⟨1, .inr rfl, by rw [Int.mul_one]; exact wt_second a b y r⟩
  | a :: b :: r, i + 2, y, h => by
    obtain ⟨m, hm, he⟩ := wt_set r i y (by simpa using h)
    refine ⟨m, hm, ?_⟩
    have e1 : (a :: b :: r).set (i + 2) y = a :: b :: r.set i y := rfl
    have e2 : (a :: b :: r).getD (i + 2) 0 = r.getD i 0 := rfl
    rw [e1, e2, wt_cons2, wt_cons2, he]
    omega
theorem xor_bit : ∀ x : Fin 256, ∀ j : Fin 8, (x.val ^^^ 2 ^ j.val) < 256 ∧ ((x.val ^^^ 2 ^ j.val) = x.val + 2 ^ j.val ∨ (x.val ^^^ 2 ^ j.val) + 2 ^ j.val = x.val) ∧ (x.val / 16 = 4 → 4 ≤ j.val → (x.val ^^^ 2 ^ j.val) / 16 ≠ 4) := by decide +kernel
/-- the byte with a bit turned -/
def flip (x j : Int) : Int := ((x.toNat ^^^ 2 ^ j.toNat : Nat) : Int)
theorem flip_law {x j : Int} (hx : 0 ≤ x ∧ x ≤ 255) (hj : 0 ≤ j ∧ j < 8) : (0 ≤ flip x j ∧ flip x j ≤ 255) ∧ flip x j - x ≠ 0 ∧ -128 ≤ flip x j - x ∧ flip x j - x ≤ 128 := by
  have h := xor_bit ⟨x.toNat, by omega⟩ ⟨j.toNat, by omega⟩
  simp only at h
  have hp : 1 ≤ 2 ^ j.toNat ∧ 2 ^ j.toNat ≤ 128 := ⟨Nat.one_le_two_pow, Nat.le_trans (Nat.pow_le_pow_right (by decide) (show j.toNat ≤ 7 by omega)) (by decide)⟩
  unfold flip
  omega
theorem flip_ver {x j : Int} (hx : 0 ≤ x ∧ x ≤ 255) (hj : 4 ≤ j ∧ j < 8) (h4 : x / 16 = 4) : flip x j / 16 ≠ 4 := by
  have h := (xor_bit ⟨x.toNat, by omega⟩ ⟨j.toNat, by omega⟩).2.2 (by show x.toNat / 16 = 4; omega) (by show 4 ≤ j.toNat; omega)
  simp only at h
  unfold flip
  omega
theorem set_rng {l : List Int} (h : InB l) {i : Nat} {y : Int} (hy : 0 ≤ y ∧ y ≤ 255) : InB (l.set i y) := fun x hx => by
  rcases List.mem_or_eq_of_mem_set hx with h1 | h1
  · exact h x h1
  · rw [h1]; exact hy
/-- bytes whose sum is right, one bit turned: the sum is wrong -/
theorem bit_law (l : List Int) (hl : InB l) (hs : sumw l = 65535) (i : Nat) (hi : i < l.length) (j : Int) (hj : 0 ≤ j ∧ j < 8) : sumw (l.set i (flip (l.getD i 0) j)) ≠ 65535 := by
  have hx := getD_rng4 hl i
  obtain ⟨h1, h2, h3, h4⟩ := flip_law hx hj
  obtain ⟨m, hm, hw⟩ := wt_set l i (flip (l.getD i 0) j) hi
  rw [sumw_wt _ hl] at hs
  rw [sumw_wt _ (set_rng hl h1), hw]
  have p1 := wt_nonneg _ hl
  have p2 := wt_nonneg _ (set_rng (i := i) hl h1)
  rw [hw] at p2
  generalize wt l = Y at *
  generalize flip (l.getD i 0) j - l.getD i 0 = D at *
  have hc : ∀ T : Int, 0 ≤ T → cs T = 65535 → T % 65535 = 0 := fun T h0 h => by unfold cs at h; split at h <;> omega
  intro h
  have q1 := hc _ p1 hs
  have q2 := hc _ p2 h
  rcases hm with rfl | rfl <;> omega
theorem getD_set_ne (l : List Int) (i k : Nat) (y : Int) (h : i ≠ k) : (l.set i y).getD k 0 = l.getD k 0 := by simp [List.getD, h]
theorem getD_set_eq (l : List Int) (i : Nat) (y : Int) (h : i < l.length) : (l.set i y).getD i 0 = y := by simp [List.getD, h]
/-- a header of which one bit is turned is none, unless it is one of its length -/
theorem D4.flip_bad (d : D4) (hd : d.ok) (hc : d.check = 0) (ho : InB d.ol) (hb : InB d.bl) (i : Nat) (hi : i < 20 + d.ol.length) (j : Int) (hj : 0 ≤ j ∧ j < 8) (h0 : i = 0 → 4 ≤ j) :
    pe4 false (d.bytes.set i (flip (d.bytes.getD i 0) j)) ≠ 0 := by
  obtain ⟨q1, q2, q3, q4⟩ := d.head_of hd hc d.sum d.bl
  have hrng : InB d.bytes := by
    unfold D4.bytes
    exact ((D4.first_rng hd hc (d.sum_rng hd hc ho)).app ho).app hb
  have hlen := d.bytes_len
  rw [← D4.bytes_eq] at q1 q2 q3 q4
  intro hz
  obtain ⟨z1, z2, z3, z4, z5, z6, z7⟩ := pe4_zero hz
  have hx := getD_rng4 hrng i
  by_cases hi0 : i = 0
  · subst hi0
    rw [getD_set_eq _ _ _ (by omega)] at z2
    exact flip_ver hx ⟨h0 rfl, hj.2⟩ q2 z2
  · have e0 : hl4 (d.bytes.set i (flip (d.bytes.getD i 0) j)) = 20 + d.ol.length := by
      unfold hl4 at q1 ⊢
      rw [getD_set_ne _ _ _ _ hi0]
      exact q1
    have z7 := z7 rfl
    rw [e0, show (20 + (d.ol.length : Int)).toNat = 20 + d.ol.length from by omega, List.take_set] at z7
    have ht : d.bytes.take (20 + d.ol.length) = d.first d.sum ++ d.ol := by rw [D4.bytes_eq, d.take_head]
    have hs : sumw (d.bytes.take (20 + d.ol.length)) = 65535 := by rw [ht]; exact d.sum_right hd hc ho
    have hg : d.bytes.getD i 0 = (d.bytes.take (20 + d.ol.length)).getD i 0 := by simp [List.getD, hi]
    rw [hg] at z7
    exact bit_law _ (hrng.take _) hs i (by rw [List.length_take]; omega) j hj z7
end Go.Proofs.Ytfkcejfjmfliaaa
