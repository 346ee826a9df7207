/-
  A clamped segment's size and options: in plain numbers.
-/
import Derived.Test.YtaobnbjkhgcmlaaCl6
namespace Go.Proofs.Ytaobnbjkhgcmlaa
open Go.RowKit

theorem mssF_gt (o : List Int) : ∀ (f i : Nat) (k : Nat), mssF o f i = (k : Int) → i + 2 ≤ k
  | 0, i, k, h => by
    rw [mssF] at h
    omega
  | f + 1, i, k, h => by
    rw [mssF] at h
    split at h
    · omega
    · split at h
      · have := mssF_gt o f _ k h; omega
      · split at h
        · omega
        · split at h
          · omega
          · have := mssF_gt o f _ k h; omega
theorem set2_getD_lo (o : List Int) (k : Nat) (x : Int) (i : Nat) (h : i < k) : (set2 o k x).getD i 0 = o.getD i 0 := by
  unfold set2
  rw [List.getD_eq_getElem?_getD, List.getD_eq_getElem?_getD, List.getElem?_set_ne (by omega), List.getElem?_set_ne (by omega)]
theorem set2_getD_far (o : List Int) (k : Nat) (x : Int) (i : Nat) (h : i ≠ k) (h' : i ≠ k + 1) : (set2 o k x).getD i 0 = o.getD i 0 := by
  unfold set2
  rw [List.getD_eq_getElem?_getD, List.getD_eq_getElem?_getD, List.getElem?_set_ne (by omega), List.getElem?_set_ne (by omega)]
theorem mssF_set (o : List Int) (k : Nat) (x : Int) : ∀ (f i : Nat), mssF o f i = (k : Int) → mssF (set2 o k x) f i = (k : Int)
  | 0, i, h => by
    rw [mssF] at h
    omega
  | f + 1, i, h => by
    have hk := mssF_gt o (f + 1) i k h
    rw [mssF] at h ⊢
    rw [set2_len, set2_getD_lo o k x i (by omega), set2_getD_lo o k x (i + 1) (by omega)]
    split at h
    · omega
    · rename_i h1
      rw [if_neg h1]
      split at h
      · rename_i h2
        rw [if_pos h2]
        exact mssF_set o k x f _ h
      · rename_i h2
        rw [if_neg h2]
        split at h
        · omega
        · rename_i h3
          rw [if_neg h3]
          split at h
          · rename_i h4
            rw [if_pos h4]
            exact h
          · rename_i h4
            rw [if_neg h4]
            exact mssF_set o k x f _ h
theorem mssAt_clamp (t : DT) (most : Int) : mssAt (clampD t most) = mssAt t := by
  unfold clampD
  split
  · rename_i h
    have h0 : 0 ≤ mssAt t := by have := h.1; simpa [mssOk] using this
    obtain ⟨k, hk⟩ : ∃ k : Nat, mssAt t = (k : Int) := ⟨(mssAt t).toNat, by omega⟩
    rw [hk, Int.toNat_natCast]
    unfold mssAt at hk ⊢
    simp only at hk ⊢
    split at hk
    · omega
    · rename_i h1
      rw [if_neg h1, set2_len]
      exact mssF_set t.ol k _ _ _ hk
  · rfl
theorem mssOk_clamp (t : DT) (most : Int) : mssOk (clampD t most) = mssOk t := by unfold mssOk; rw [mssAt_clamp]
theorem mssVal_clamp (t : DT) (most : Int) (ht : t.ok) (hr : InB t.ol) (h : mssOk t = true) : mssVal (clampD t most) = min (mssVal t) (max most 0) := by
  have h0 : 0 ≤ mssAt t := by simpa [mssOk] using h
  have hrg := mssAt_rng t
  obtain ⟨k, hk⟩ : ∃ k : Nat, mssAt t = (k : Int) := ⟨(mssAt t).toNat, by omega⟩
  have hv : mssVal t = be2 t.ol k := by rw [mssVal, hk, if_neg (by omega), Int.toNat_natCast]
  have hb := be2_rng hr k
  have hd : mssVal (clampD t most) = be2 (clampD t most).ol k := by rw [mssVal, mssAt_clamp, hk, if_neg (by omega), Int.toNat_natCast]
  rw [hd]
  unfold clampD
  split
  · rename_i hc
    have hlt := hc.2
    rw [hk, Int.toNat_natCast]
    simp only
    generalize hm : max most 0 = m
    have hm1 : 0 ≤ m ∧ m < 65536 := by omega
    have hk1 : k + 1 < t.ol.length := by omega
    have e : be2 (set2 t.ol k m) k = m := by
      unfold be2 set2
      rw [List.getD_eq_getElem?_getD, List.getD_eq_getElem?_getD, List.getElem?_set_ne (by omega), List.getElem?_set_self (by omega), List.getElem?_set_self (by simp; omega)]
      simp
      omega
    rw [e, hv]
    omega
  · rename_i hc
    have : ¬ most < mssVal t := fun hlt => hc ⟨h, hlt⟩
    rw [hv] at this ⊢
    omega
/-- how many places differ among the first k -/
def unl (a b : List Int) : Nat → Int
  | 0 => 0
  | k + 1 => unl a b k + if a.getD k 0 ≠ b.getD k 0 then 1 else 0
theorem unl_self (a : List Int) : ∀ k, unl a a k = 0
  | 0 => rfl
  | k + 1 => by rw [unl, unl_self a k]; simp
theorem unl_rng (a b : List Int) : ∀ k : Nat, 0 ≤ unl a b k ∧ unl a b k ≤ k
  | 0 => ⟨Int.le_refl 0, Int.le_refl 0⟩
  | k + 1 => by
    have := unl_rng a b k
    rw [unl]
    split <;> omega
theorem unl_set (o : List Int) (p : Nat) (x : Int) : ∀ k : Nat, unl (set2 o p x) o k ≤ (if p < k then 1 else 0) + (if p + 1 < k then 1 else 0)
  | 0 => by simp [unl]
  | k + 1 => by
    have := unl_set o p x k
    rw [unl]
    by_cases h1 : k = p
    · split <;> split at this <;> split at this <;> split <;> split <;> omega
    · by_cases h2 : k = p + 1
      · split <;> split at this <;> split at this <;> split <;> split <;> omega
      · rw [set2_getD_far o p x k h1 h2, if_neg (by simp)]
        split at this <;> split at this <;> split <;> split <;> omega
theorem unl_clamp (t : DT) (most : Int) (k : Nat) : unl (clampD t most).ol t.ol k ≤ 2 ∧ (clampQ t most = false → unl (clampD t most).ol t.ol k = 0) := by
  unfold clampD clampQ
  split
  · rename_i h
    have := unl_set t.ol (mssAt t).toNat (max most 0) k
    simp only
    refine ⟨?_, fun hq => ?_⟩
    · split at this <;> split at this <;> omega
    · simp [h] at hq
  · rw [unl_self]
    exact ⟨by decide, fun _ => rfl⟩
theorem clamp_len (t : DT) (most : Int) : (clampD t most).ol.length = t.ol.length := by
  unfold clampD
  split
  · simp [set2_len]
  · rfl
theorem clamp_back (t : DT) (most : Int) : { clampD t most with ol := t.ol } = t := by
  unfold clampD
  split <;> rfl
end Go.Proofs.Ytaobnbjkhgcmlaa
