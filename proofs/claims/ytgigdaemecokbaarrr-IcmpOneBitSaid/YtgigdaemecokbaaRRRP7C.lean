/-
  One bit turned: in plain numbers.
-/
import Derived.Test.YtgigdaemecokbaaRRRP7B
namespace Go.Proofs.YtgigdaemecokbaaRRR
open Go.RowKit

theorem wt_cons2 (a b : Int) (r : List Int) : wt (a :: b :: r) = a * 256 + b + wt r := by
  have := wt_append [a, b] r (by simp)
  rw [wt_two] at this
  exact this
theorem wt_one (a : Int) : wt [a] = a * 256 := by simp [wt, wds, runw, rest, tot, stp]
theorem wt_head (a b : Int) (r : List Int) : wt (b :: r) = wt (a :: r) + (b - a) * 256 := by
  cases r with
  | nil => rw [wt_one, wt_one]; omega
  | cons c r => rw [wt_cons2, wt_cons2]; omega
theorem wt_second (c a b : Int) (r : List Int) : wt (c :: b :: r) = wt (c :: a :: r) + (b - a) := by rw [wt_cons2, wt_cons2]; omega
/-- a byte changed changes the sum of words by its change, or by 256 times as much -/
theorem wt_set : ∀ (l : List Int) (i : Nat) (y : Int), i < l.length → ∃ m : Int, (m = 256 ∨ m = 1) ∧ wt (l.set i y) = wt l + (y - l.getD i 0) * m
  | [], i, y, h => by simp at h
  | [a], 0, y, _ => ⟨256, .inl rfl, wt_head a y []⟩
  | [a], i + 1, y, h => by simp at h
  | a :: b :: r, 0, y, _ => ⟨256, .inl rfl, wt_head a y (b :: r)⟩
  | a :: b :: r, 1, y, _ => ⟨1, .inr rfl, by rw [Int.mul_one]; exact wt_second a b y r⟩
  | a :: b :: r, i + 2, y, h => by
    obtain ⟨m, hm, he⟩ := wt_set r i y (by simpa using h)
    refine ⟨m, hm, ?_⟩
    have e1 : (a :: b :: r).set (i + 2) y = a :: b :: r.set i y := rfl
    have e2 : (a :: b :: r).getD (i + 2) 0 = r.getD i 0 := rfl
    rw [e1, e2, wt_cons2, wt_cons2, he]
    omega
theorem xor_bit : ∀ x : Fin 256, ∀ j : Fin 8, (x.val ^^^ 2 ^ j.val) < 256 ∧ ((x.val ^^^ 2 ^ j.val) = x.val + 2 ^ j.val ∨ (x.val ^^^ 2 ^ j.val) + 2 ^ j.val = x.val) := by decide +kernel
/-- the byte with a bit turned -/
def flip (x j : Int) : Int := ((x.toNat ^^^ 2 ^ j.toNat : Nat) : Int)
theorem flip_law {x j : Int} (hx : 0 ≤ x ∧ x ≤ 255) (hj : 0 ≤ j ∧ j < 8) : (0 ≤ flip x j ∧ flip x j ≤ 255) ∧ flip x j - x ≠ 0 ∧ -128 ≤ flip x j - x ∧ flip x j - x ≤ 128 := by
  have h := xor_bit ⟨x.toNat, by omega⟩ ⟨j.toNat, by omega⟩
  simp only at h
  have hp : 1 ≤ 2 ^ j.toNat ∧ 2 ^ j.toNat ≤ 128 := ⟨Nat.one_le_two_pow, Nat.le_trans (Nat.pow_le_pow_right (by decide) (show j.toNat ≤ 7 by omega)) (by decide)⟩
  unfold flip
  omega
theorem set_rng {l : List Int} (h : InB l) {i : Nat} {y : Int} (hy : 0 ≤ y ∧ y ≤ 255) : InB (l.set i y) := fun x hx => by
  rcases List.mem_or_eq_of_mem_set hx with h1 | h1
  · exact h x h1
  · rw [h1]; exact hy
/-- bytes whose sum is right, one bit turned: the sum is wrong -/
theorem bit_law (l ps : List Int) (hl : InB l) (hp : InB ps) (he : ps.length % 2 = 0) (hs : sumw (ps ++ l) = 65535) (i : Nat) (hi : i < l.length) (j : Int) (hj : 0 ≤ j ∧ j < 8) : sumw (ps ++ l.set i (flip (l.getD i 0) j)) ≠ 65535 := by
  have hx := getD_rng hl i
  obtain ⟨h1, h2, h3, h4⟩ := flip_law hx hj
  obtain ⟨m, hm, hw⟩ := wt_set l i (flip (l.getD i 0) j) hi
  rw [sumw_wt _ (hp.app hl), wt_append _ _ he] at hs
  rw [sumw_wt _ (hp.app (set_rng hl h1)), wt_append _ _ he, hw]
  have p1 := wt_nonneg _ (hp.app hl)
  have p2 := wt_nonneg _ (hp.app (set_rng (i := i) hl h1))
  rw [wt_append _ _ he] at p1 p2
  rw [hw] at p2
  generalize wt ps = X at *
  generalize wt l = Y at *
  generalize flip (l.getD i 0) j - l.getD i 0 = D at *
  have hc : ∀ T : Int, 0 ≤ T → cs T = 65535 → T % 65535 = 0 := fun T h0 h => by unfold cs at h; split at h <;> omega
  intro h
  have q1 := hc _ p1 hs
  have q2 := hc _ p2 h
  rcases hm with rfl | rfl <;> omega
/-- a message of bytes of which one bit was turned is none -/
theorem bit_perr (l ps : List Int) (hl : InB l) (hp : InB ps) (he : ps.length % 2 = 0) (hs : sumw (ps ++ l) = 65535) (h8 : 8 ≤ l.length) (hm : l.length ≤ 65535) (i : Nat) (hi : i < l.length) (j : Int) (hj : 0 ≤ j ∧ j < 8) :
    perr7 (l.set i (flip (l.getD i 0) j)) ps = 71 := by
  have := bit_law l ps hl hp he hs i hi j hj
  unfold perr7
  rw [if_neg (by rw [List.length_set]; omega), if_neg (by rw [List.length_set]; omega), if_pos this]
end Go.Proofs.YtgigdaemecokbaaRRR
