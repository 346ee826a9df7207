/-
  What is written is parsed as the same; a bit turned makes the sum wrong: in plain numbers.
-/
import Derived.Test.YtgigdaemecokbaaRRRP7
namespace Go.Proofs.YtgigdaemecokbaaRRR
open Go.RowKit

theorem first_split (d : D7) (s : Int) (ps : List Int) : ps ++ (d.first s ++ d.bl) = ((ps ++ [d.ty, d.code]) ++ [s / 256, s % 256]) ++ ([d.rest / 16777216, d.rest / 65536 % 256, d.rest / 256 % 256, d.rest % 256] ++ d.bl) := by simp [D7.first]
theorem wt_first (d : D7) (s : Int) (ps : List Int) (he : ps.length % 2 = 0) : wt (ps ++ (d.first s ++ d.bl)) = wt (ps ++ (d.first 0 ++ d.bl)) + (s / 256 * 256 + s % 256) := by
  rw [first_split, first_split]
  have h1 : (ps ++ [d.ty, d.code]).length % 2 = 0 := by simp; omega
  have h2 : ∀ t : Int, ((ps ++ [d.ty, d.code]) ++ [t / 256, t % 256]).length % 2 = 0 := fun t => by simp; omega
  rw [wt_append _ _ (h2 s), wt_append _ _ (h2 0), wt_append _ _ h1, wt_append _ _ h1, wt_two, wt_two]
  omega
theorem sum_right (d : D7) (hd : d.ok) (ps : List Int) (hp : InB ps) (hb : InB d.bl) (he : ps.length % 2 = 0) : sumw (ps ++ d.bytes ps) = 65535 := by
  have hs := d.sum_rng hd hp hb
  have h0 := (hp.app ((d.first_rng hd (s := 0) (by decide)).app hb))
  have hT := wt_nonneg _ h0
  have e : d.sum ps = 65535 - cs (wt (ps ++ (d.first 0 ++ d.bl))) := by unfold D7.sum; rw [List.append_assoc, sumw_wt _ h0]
  rw [sumw_wt _ (hp.app (d.bytes_rng hd hp hb)), D7.bytes, wt_first d _ ps he, show d.sum ps / 256 * 256 + d.sum ps % 256 = d.sum ps from by omega, e]
  generalize wt (ps ++ (d.first 0 ++ d.bl)) = T at *
  unfold cs
  split <;> split <;> omega
theorem of7_bytes (d : D7) (hd : d.ok) (ps : List Int) : of7 (d.bytes ps) = d := by
  have h := hd.rest
  obtain ⟨ty, code, rest, bl⟩ := d
  simp only [of7, D7.bytes, D7.first, List.cons_append, List.getD_cons_zero, List.getD_cons_succ, List.drop_succ_cons, List.drop_zero, List.nil_append]
  simp only at h
  have e : rest / 16777216 * 16777216 + rest / 65536 % 256 * 65536 + rest / 256 % 256 * 256 + rest % 256 = rest := by omega
  rw [e]
/-- what is written is parsed as the same -/
theorem parse_write (d : D7) (hd : d.ok) (ps : List Int) (hp : InB ps) (hb : InB d.bl) (he : ps.length % 2 = 0) (hl : d.bl.length ≤ 65527) : parse7 (d.bytes ps) ps = d ∧ perr7 (d.bytes ps) ps = 0 := by
  have h1 := d.bytes_len ps
  have h2 := sum_right d hd ps hp hb he
  constructor
  · unfold parse7
    rw [if_neg (by rw [h1, h2]; omega)]
    exact of7_bytes d hd ps
  · unfold perr7
    rw [if_neg (by omega), if_neg (by omega), if_neg (by omega)]
theorem pse6_len {a b : List Int} (ha : a.length = 16) (hb : b.length = 16) (n p : Int) : (pse6 a b n p).length = 40 := by simp [pse6, ha, hb]
end Go.Proofs.YtgigdaemecokbaaRRR
