/-
  Plain laws of the Internet's checksum: the sum hangs on the total alone; what changes and what makes up for a change.
-/
import Derived.Test.YtfkcejfjmfliaaaPlainSum
namespace Go.Proofs.Ytfkcejfjmfliaaa

/-- the sum of words whose total is t -/
def cs (t : Int) : Int := if t = 0 then 0 else (t - 1) % 65535 + 1
def tot (l : List Int) : Int := l.foldr (· + ·) 0
theorem tot_append (l m : List Int) : tot (l ++ m) = tot l + tot m := by
  induction l with
  | nil => simp [tot]
  | cons a l ih => simp only [tot, List.cons_append, List.foldr_cons] at ih ⊢; rw [ih]; omega
theorem tot_nonneg (l : List Int) (h : ∀ x ∈ l, 0 ≤ x ∧ x < 65536) : 0 ≤ tot l := by
  induction l with
  | nil => simp [tot]
  | cons a l ih =>
    have := ih (fun x hx => h x (by simp [hx]))
    have := h a (by simp)
    simp only [tot, List.foldr_cons] at *
    omega
theorem cs_small {x : Int} (h : 0 ≤ x ∧ x < 65536) : cs x = x := by unfold cs; split <;> omega
theorem cs_rng {t : Int} (h : 0 ≤ t) : 0 ≤ cs t ∧ cs t < 65536 := by unfold cs; split <;> omega
theorem cs_add {t x : Int} (ht : 0 ≤ t) (hx : 0 ≤ x ∧ x < 65536) : addw (cs t) x = cs (t + x) := by
  unfold addw cs
  split <;> split <;> omega
theorem cs_mod (t : Int) (ht : 0 ≤ t) : cs t % 65535 = t % 65535 := by unfold cs; split <;> omega
theorem cs_zero {t : Int} (ht : 0 ≤ t) : cs t = 0 ↔ t = 0 := by unfold cs; split <;> omega
theorem fold_cs (l : List Int) (h : ∀ x ∈ l, 0 ≤ x ∧ x < 65536) : ∀ t, 0 ≤ t → fold (cs t) l = cs (t + tot l) := by
  induction l with
  | nil => intro t _; simp [fold, tot]
  | cons a l ih =>
    intro t ht
    have ha := h a (by simp)
    have := ih (fun x hx => h x (by simp [hx])) (t + a) (by omega)
    simp only [fold, List.foldl_cons, tot, List.foldr_cons] at this ⊢
    rw [cs_add ht ha, this]
    congr 1
    omega
theorem fold_tot (n : Int) (hn : 0 ≤ n ∧ n < 65536) (l : List Int) (h : ∀ x ∈ l, 0 ≤ x ∧ x < 65536) : fold n l = cs (n + tot l) := by
  have := fold_cs l h n hn.1
  rwa [cs_small hn] at this
theorem neg_rng (l : List Int) (h : ∀ x ∈ l, 0 ≤ x ∧ x < 65536) : ∀ x ∈ neg l, 0 ≤ x ∧ x < 65536 := fun x hx => by
  obtain ⟨y, hy, rfl⟩ := List.mem_map.1 hx
  have := h y hy
  omega
theorem tot_neg (l : List Int) : tot (neg l) = 65535 * l.length - tot l := by
  induction l with
  | nil => simp [tot, neg]
  | cons a l ih =>
    simp only [tot, neg, List.map_cons, List.foldr_cons, List.length_cons] at ih ⊢
    rw [ih]
    omega
/-- the total of the words of bytes -/
def wt (l : List Int) : Int := tot (wds l)
theorem wt_nonneg (l : List Int) (h : ∀ x ∈ l, 0 ≤ x ∧ x ≤ 255) : 0 ≤ wt l := tot_nonneg _ (wds_rng l h)
theorem sumw_wt (l : List Int) (h : ∀ x ∈ l, 0 ≤ x ∧ x ≤ 255) : sumw l = cs (wt l) := by
  have := fold_tot 0 (by omega) (wds l) (wds_rng l h)
  simpa [sumw, wt] using this
theorem wt_append (l m : List Int) (h : l.length % 2 = 0) : wt (l ++ m) = wt l + wt m := by unfold wt; rw [wds_append l m h, tot_append]
theorem wt_nil : wt [] = 0 := by simp [wt, wds, runw, rest, tot]
theorem wt_two (a b : Int) : wt [a, b] = a * 256 + b := by simp [wt, wds, runw, rest, tot, stp]
/-- the reference's order of a change -/
theorem rupdate_eq (was : Int) (hw : 0 ≤ was ∧ was < 65536) (f t : List Int) (hf : ∀ x ∈ f, 0 ≤ x ∧ x ≤ 255) (ht : ∀ x ∈ t, 0 ≤ x ∧ x ≤ 255) :
    fold 0 ([65535 - was] ++ neg (wds f) ++ wds t) = fold (fold (65535 - was) (neg (wds f))) (wds t) := by
  rw [fold_append, fold_append]
  have : fold 0 [65535 - was] = 65535 - was := by simp only [fold, List.foldl_cons, List.foldl_nil, addw]; omega
  rw [this]
theorem rneutral_eq (f t : List Int) (hf : ∀ x ∈ f, 0 ≤ x ∧ x ≤ 255) (ht : ∀ x ∈ t, 0 ≤ x ∧ x ≤ 255) :
    fold 0 (wds f ++ neg (wds t)) = fold (fold 0 (neg (wds t))) (wds f) := by
  have hf' := wds_rng f hf
  have ht' := neg_rng _ (wds_rng t ht)
  rw [fold_append, fold_tot 0 (by omega) (wds f) hf', fold_tot 0 (by omega) _ ht', fold_cs _ ht' _ (by have := tot_nonneg _ hf'; omega), fold_cs _ hf' _ (by have := tot_nonneg _ ht'; omega)]
  congr 1
  omega
end Go.Proofs.Ytfkcejfjmfliaaa
