/-
  The parser of IPv4 datagrams as data; what is written is parsed as the same; a bit turned makes none.
-/
import Derived.Test.YtfkcejfjmfliaaaIp4F
namespace Go.Proofs.Ytfkcejfjmfliaaa
open Go.RowKit

def hl4 (l : List Int) : Int := l.getD 0 0 % 16 * 4
def tot4 (l : List Int) : Int := l.getD 2 0 * 256 + l.getD 3 0
/-- the error's number -/
def pe4 (part : Bool) (l : List Int) : Int :=
  if l.length < 20 then 40 else if l.getD 0 0 / 16 ≠ 4 then 41 else if hl4 l < 20 ∨ hl4 l > l.length then 42
  else if (part = false ∧ tot4 l ≠ l.length) ∨ (part = true ∧ (tot4 l < l.length ∨ tot4 l < hl4 l)) then 43
  else if part = false ∧ sumw (l.take (hl4 l).toNat) ≠ 65535 then 44 else 0
/-- its place -/
def pat4 (e : Int) : Int := if e = 43 then 2 else if e = 44 then 10 else 0
def of4 (l : List Int) : D4 :=
  ⟨l.getD 1 0, l.getD 4 0 * 256 + l.getD 5 0, decide (l.getD 6 0 / 64 % 2 = 1), decide (l.getD 6 0 / 32 % 2 = 1), l.getD 6 0 % 32 * 256 + l.getD 7 0, l.getD 8 0, l.getD 9 0,
    l.getD 12 0, l.getD 13 0, l.getD 14 0, l.getD 15 0, l.getD 16 0, l.getD 17 0, l.getD 18 0, l.getD 19 0, (l.drop 20).take ((hl4 l).toNat - 20), l.drop (hl4 l).toNat⟩
def got4 (part : Bool) (l : List Int) : D4 := if pe4 part l = 0 then of4 l else zero4

theorem getD_rng4 {l : List Int} (h : InB l) (i : Nat) : 0 ≤ l.getD i 0 ∧ l.getD i 0 ≤ 255 := by
  rw [List.getD_eq_getElem?_getD]
  cases hq : l[i]? with
  | none => simp
  | some x => exact h x (List.mem_of_getElem? hq)
theorem of4_ok {l : List Int} (h : InB l) : (of4 l).ok where
  tos := getD_rng4 h 1
  id := by have h1 := getD_rng4 h 4; have h2 := getD_rng4 h 5; simp only [of4]; omega
  off := by have h1 := getD_rng4 h 6; have h2 := getD_rng4 h 7; simp only [of4]; omega
  ttl := getD_rng4 h 8
  proto := getD_rng4 h 9
  src := fun x hx => by
    simp only [D4.src, of4, List.mem_cons, List.not_mem_nil, or_false] at hx
    rcases hx with rfl | rfl | rfl | rfl <;> exact getD_rng4 h _
  dst := fun x hx => by
    simp only [D4.dst, of4, List.mem_cons, List.not_mem_nil, or_false] at hx
    rcases hx with rfl | rfl | rfl | rfl <;> exact getD_rng4 h _
theorem pe4_cases (part : Bool) (l : List Int) : pe4 part l = 0 ∨ pe4 part l = 40 ∨ pe4 part l = 41 ∨ pe4 part l = 42 ∨ pe4 part l = 43 ∨ pe4 part l = 44 := by
  unfold pe4
  repeat' split
  all_goals simp
theorem pe4_zero {part : Bool} {l : List Int} (h : pe4 part l = 0) : 20 ≤ l.length ∧ l.getD 0 0 / 16 = 4 ∧ 20 ≤ hl4 l ∧ hl4 l ≤ l.length ∧ (part = false → tot4 l = l.length) ∧ (part = true → l.length ≤ tot4 l ∧ hl4 l ≤ tot4 l) ∧ (part = false → sumw (l.take (hl4 l).toNat) = 65535) := by
  unfold pe4 at h
  split at h
  · cases h
  · split at h
    · cases h
    · split at h
      · cases h
      · split at h
        · cases h
        · split at h
          · cases h
          · rename_i h1 h2 h3 h4 h5
            refine ⟨by omega, Decidable.not_not.1 h2, by omega, by omega, fun hp => ?_, fun hp => ?_, fun hp => ?_⟩
            · exact Decidable.not_not.1 fun hn => h4 (.inl ⟨hp, hn⟩)
            · have h6 : ¬ (tot4 l < l.length ∨ tot4 l < hl4 l) := fun hn => h4 (.inr ⟨hp, hn⟩)
              omega
            · exact Decidable.not_not.1 fun hn => h5 ⟨hp, hn⟩
theorem pe4_intro {part : Bool} {l : List Int} (h1 : 20 ≤ l.length) (h2 : l.getD 0 0 / 16 = 4) (h3 : 20 ≤ hl4 l) (h4 : hl4 l ≤ l.length) (h5 : part = false → tot4 l = l.length) (h6 : part = true → l.length ≤ tot4 l ∧ hl4 l ≤ tot4 l) (h7 : part = false → sumw (l.take (hl4 l).toNat) = 65535) : pe4 part l = 0 := by
  unfold pe4
  have n1 : ¬ ((part = false ∧ tot4 l ≠ l.length) ∨ (part = true ∧ (tot4 l < l.length ∨ tot4 l < hl4 l))) := by
    rintro (⟨hp, hn⟩ | ⟨hp, hn⟩)
    · exact hn (h5 hp)
    · have := h6 hp; omega
  have n2 : ¬ (part = false ∧ sumw (l.take (hl4 l).toNat) ≠ 65535) := by rintro ⟨hp, hn⟩; exact hn (h7 hp)
  rw [if_neg (show ¬ l.length < 20 by omega), if_neg (Decidable.not_not.2 h2), if_neg (by omega), if_neg n1, if_neg n2]

theorem getD_app4 {l m : List Int} {i : Nat} (h : i < l.length) : (l ++ m).getD i 0 = l.getD i 0 := by
  rw [List.getD_eq_getElem?_getD, List.getD_eq_getElem?_getD, List.getElem?_append_left h]
theorem D4.first_len (d : D4) (s : Int) : (d.first s).length = 20 := rfl
theorem D4.first_get (d : D4) (s : Int) (r : List Int) {i : Nat} (h : i < 20) : (d.first s ++ r).getD i 0 = (d.first s).getD i 0 := getD_app4 h
/-- a header and any body -/
theorem D4.head_of (d : D4) (hd : d.ok) (hc : d.check = 0) (s : Int) (b : List Int) :
    hl4 (d.first s ++ (d.ol ++ b)) = 20 + d.ol.length ∧ (d.first s ++ (d.ol ++ b)).getD 0 0 / 16 = 4 ∧ tot4 (d.first s ++ (d.ol ++ b)) = 20 + d.ol.length + d.bl.length ∧ of4 (d.first s ++ (d.ol ++ b)) = { d with bl := b } := by
  obtain ⟨h1, h2, h3, h4⟩ := D4.ok_of_check hc
  have hid := hd.id
  have e0 : (d.first s ++ (d.ol ++ b)).getD 0 0 = 64 + (d.hl : Int) / 4 := d.first_get s _ (by decide)
  have e2 : (d.first s ++ (d.ol ++ b)).getD 2 0 = (d.hl + d.bl.length : Int) / 256 := d.first_get s _ (by decide)
  have e3 : (d.first s ++ (d.ol ++ b)).getD 3 0 = (d.hl + d.bl.length : Int) % 256 := d.first_get s _ (by decide)
  have e4 : (d.first s ++ (d.ol ++ b)).getD 4 0 = d.id / 256 := d.first_get s _ (by decide)
  have e5 : (d.first s ++ (d.ol ++ b)).getD 5 0 = d.id % 256 := d.first_get s _ (by decide)
  have e6 : (d.first s ++ (d.ol ++ b)).getD 6 0 = d.offw / 256 := d.first_get s _ (by decide)
  have e7 : (d.first s ++ (d.ol ++ b)).getD 7 0 = d.offw % 256 := d.first_get s _ (by decide)
  have eh : (d.hl : Int) = 20 + d.ol.length := by simp [D4.hl]
  have hH : hl4 (d.first s ++ (d.ol ++ b)) = 20 + d.ol.length := by unfold hl4; rw [e0, eh]; omega
  refine ⟨hH, by rw [e0, eh]; omega, by unfold tot4; rw [e2, e3, eh]; omega, ?_⟩
  have hn : (20 + (d.ol.length : Int)).toNat = 20 + d.ol.length := by omega
  have eo : ((d.first s ++ (d.ol ++ b)).drop 20).take (20 + d.ol.length - 20) = d.ol := by
    rw [List.drop_append_of_le_length (by rw [D4.first_len]; exact Nat.le_refl _), List.drop_of_length_le (by rw [D4.first_len]; exact Nat.le_refl _), List.nil_append, Nat.add_sub_cancel_left, List.take_append_of_le_length (Nat.le_refl _), List.take_length]
  have eb : (d.first s ++ (d.ol ++ b)).drop (20 + d.ol.length) = b := by
    rw [← List.append_assoc, List.drop_append, List.drop_of_length_le (by rw [List.length_append, D4.first_len]; exact Nat.le_refl _), List.length_append, D4.first_len, Nat.sub_self]
    rfl
  have q1 : (d.first s ++ (d.ol ++ b)).getD 1 0 = d.tos := d.first_get s _ (by decide)
  have q8 : (d.first s ++ (d.ol ++ b)).getD 8 0 = d.ttl := d.first_get s _ (by decide)
  have q9 : (d.first s ++ (d.ol ++ b)).getD 9 0 = d.proto := d.first_get s _ (by decide)
  have qa : (d.first s ++ (d.ol ++ b)).getD 12 0 = d.s0 := d.first_get s _ (by decide)
  have qb : (d.first s ++ (d.ol ++ b)).getD 13 0 = d.s1 := d.first_get s _ (by decide)
  have qc : (d.first s ++ (d.ol ++ b)).getD 14 0 = d.s2 := d.first_get s _ (by decide)
  have qd : (d.first s ++ (d.ol ++ b)).getD 15 0 = d.s3 := d.first_get s _ (by decide)
  have qe : (d.first s ++ (d.ol ++ b)).getD 16 0 = d.d0 := d.first_get s _ (by decide)
  have qf : (d.first s ++ (d.ol ++ b)).getD 17 0 = d.d1 := d.first_get s _ (by decide)
  have qg : (d.first s ++ (d.ol ++ b)).getD 18 0 = d.d2 := d.first_get s _ (by decide)
  have qh : (d.first s ++ (d.ol ++ b)).getD 19 0 = d.d3 := d.first_get s _ (by decide)
  have r5 : d.id / 256 * 256 + d.id % 256 = d.id := by omega
  have r6 : d.offw / 256 % 32 * 256 + d.offw % 256 = d.off := by unfold D4.offw; split <;> split <;> omega
  have r7 : decide (d.offw / 256 / 64 % 2 = 1) = d.df := by
    unfold D4.offw
    cases d.df <;> cases d.mf <;> simp <;> omega
  have r8 : decide (d.offw / 256 / 32 % 2 = 1) = d.mf := by
    unfold D4.offw
    cases d.df <;> cases d.mf <;> simp <;> omega
  unfold of4
  rw [hH, hn, e4, e5, e6, e7, eo, eb, q1, q8, q9, qa, qb, qc, qd, qe, qf, qg, qh, r5, r6, r7, r8]

theorem D4.sum_rng (d : D4) (hd : d.ok) (hc : d.check = 0) (ho : InB d.ol) : 0 ≤ d.sum ∧ d.sum < 65536 := by
  have h := sumw_rng _ ((D4.first_rng hd hc (s := 0) (by decide)).app ho)
  unfold D4.sum
  omega
def D4.pre (d : D4) : List Int := (d.first 0).take 10
def D4.post (d : D4) : List Int := (d.first 0).drop 12
theorem D4.first_split (d : D4) (s : Int) (r : List Int) : d.first s ++ r = (d.pre ++ [s / 256, s % 256]) ++ (d.post ++ r) := by simp [D4.first, D4.pre, D4.post]
theorem D4.sum_right (d : D4) (hd : d.ok) (hc : d.check = 0) (ho : InB d.ol) : sumw (d.first d.sum ++ d.ol) = 65535 := by
  have hs := d.sum_rng hd hc ho
  have h0 := (D4.first_rng hd hc (s := 0) (by decide)).app ho
  have hT := wt_nonneg _ h0
  have e : d.sum = 65535 - cs (wt (d.first 0 ++ d.ol)) := by unfold D4.sum; rw [sumw_wt _ h0]
  have hw : ∀ s : Int, wt (d.first s ++ d.ol) = wt d.pre + (s / 256 * 256 + s % 256) + wt (d.post ++ d.ol) := fun s => by
    have p1 : d.pre.length % 2 = 0 := by simp [D4.pre, D4.first]
    have p2 : (d.pre ++ [s / 256, s % 256]).length % 2 = 0 := by simp [D4.pre, D4.first]
    rw [D4.first_split, wt_append _ _ p2, wt_append _ _ p1, wt_two]
  rw [sumw_wt _ ((D4.first_rng hd hc hs).app ho)]
  rw [hw 0] at e hT
  rw [hw d.sum]
  generalize wt d.pre = X at *
  generalize wt (d.post ++ d.ol) = Y at *
  have h1 : d.sum / 256 * 256 + d.sum % 256 = d.sum := by omega
  rw [h1, e]
  have hT' : 0 ≤ X + Y := by simpa using hT
  have e2 : X + ((0 : Int) / 256 * 256 + 0 % 256) + Y = X + Y := by omega
  rw [e2]
  unfold cs
  split <;> split <;> omega

theorem D4.bytes_eq (d : D4) : d.bytes = d.first d.sum ++ (d.ol ++ d.bl) := by unfold D4.bytes; rw [List.append_assoc]
theorem D4.bytes_len (d : D4) : d.bytes.length = 20 + d.ol.length + d.bl.length := by rw [D4.bytes_eq, List.length_append, List.length_append, D4.first_len]; omega
theorem D4.take_head (d : D4) (s : Int) (b : List Int) : (d.first s ++ (d.ol ++ b)).take (20 + d.ol.length) = d.first s ++ d.ol := by
  rw [← List.append_assoc, List.take_append_of_le_length (by rw [List.length_append, D4.first_len]; exact Nat.le_refl _), List.take_of_length_le (by rw [List.length_append, D4.first_len]; exact Nat.le_refl _)]
/-- what is written is parsed as the same -/
theorem D4.back (d : D4) (hd : d.ok) (hc : d.check = 0) (ho : InB d.ol) : pe4 false d.bytes = 0 ∧ got4 false d.bytes = d := by
  obtain ⟨h1, h2, h3, h4⟩ := d.head_of hd hc d.sum d.bl
  have hl := d.bytes_len
  rw [D4.bytes_eq] at hl ⊢
  have hz : pe4 false (d.first d.sum ++ (d.ol ++ d.bl)) = 0 := by
    refine pe4_intro (by omega) h2 (by omega) (by omega) (fun _ => by rw [h3, hl]; omega) (fun h => by cases h) (fun _ => ?_)
    rw [h1, show (20 + (d.ol.length : Int)).toNat = 20 + d.ol.length from by omega, d.take_head]
    exact d.sum_right hd hc ho
  refine ⟨hz, ?_⟩
  unfold got4
  rw [if_pos hz, h4]
/-- cut off behind the header it is read as it, with less body -/
theorem D4.cut (d : D4) (hd : d.ok) (hc : d.check = 0) (n : Nat) (hn : n ≤ d.bl.length) : pe4 true (d.bytes.take (d.bytes.length - n)) = 0 ∧ got4 true (d.bytes.take (d.bytes.length - n)) = { d with bl := d.bl.take (d.bl.length - n) } := by
  obtain ⟨h1, h2, h3, h4⟩ := d.head_of hd hc d.sum (d.bl.take (d.bl.length - n))
  have hl := d.bytes_len
  have e : d.bytes.take (d.bytes.length - n) = d.first d.sum ++ (d.ol ++ d.bl.take (d.bl.length - n)) := by
    rw [hl, D4.bytes_eq, ← List.append_assoc, List.take_append, List.length_append, D4.first_len, List.take_of_length_le (by rw [List.length_append, D4.first_len]; omega), ← List.append_assoc]
    congr 2
    omega
  rw [e]
  have hl2 : (d.first d.sum ++ (d.ol ++ d.bl.take (d.bl.length - n))).length = 20 + d.ol.length + (d.bl.length - n) := by rw [List.length_append, List.length_append, D4.first_len, List.length_take]; omega
  have hz : pe4 true (d.first d.sum ++ (d.ol ++ d.bl.take (d.bl.length - n))) = 0 :=
    pe4_intro (by omega) h2 (by omega) (by omega) (fun h => by cases h) (fun _ => by rw [h3, hl2, h1]; omega) (fun h => by cases h)
  refine ⟨hz, ?_⟩
  unfold got4
  rw [if_pos hz, h4]
end Go.Proofs.Ytfkcejfjmfliaaa
