/-
  Lemmas and walks for the row of TofourRight,TofourLong (part 32 of 33).
-/
import Derived.Test.YtjnphelfloiadaaFrAU
import Derived.Test.YtjnphelfloiadaaFrBE
set_option linter.unusedVariables false
set_option linter.unusedSimpArgs false
namespace Go.Proofs.Ytjnphelfloiadaa
open Go.RowKit

theorem pack18_ok {d : D6} {s t s' t' : List Int} (h : (pack18 d s t s' t').2 = 0) :
  d.check = 0 ∧ (any18 d s t s' t').2 = 0 ∧ (pack18 d s t s' t').1 = head18 d s t (any18 d s t s' t').1 ∧ (head18 d s t (any18 d s t s' t').1).check = 0 := by
 unfold pack18 at h ⊢
 split at h
 ·rename_i h0; exact absurd h h0
 split at h
 ·exact absurd h (by decide)
 split at h
 ·exact absurd h (by decide)
 split at h
 ·rename_i h0; exact absurd h h0
 split at h
 ·exact absurd h (by decide)
 ·rename_i h0 h1 h2 h3 h4
  rw [if_neg h0, if_neg h1, if_neg h2, if_neg h3, if_neg h4]
  exact ⟨Decidable.not_not.1 h0, Decidable.not_not.1 h3, rfl, Decidable.not_not.1 h4⟩
theorem pack18_none {d : D6} {s t s' t' : List Int} (h : ¬ (pack18 d s t s' t').2 = 0) : (pack18 d s t s' t').1 = zero18 := by
 revert h
 unfold pack18
 repeat' split
 all_goals (intro h; first | rfl | exact absurd rfl h)
theorem icmp18_ok {d : D6} {s t : List Int} (h : (icmp18 d s t).2 = 0) :
  perr7 d.bl (ps18 d) = 0 ∧ (msg18 (parse7 d.bl (ps18 d)) s t).2 = 0 ∧ (icmp18 d s t).1 = (msg18 (parse7 d.bl (ps18 d)) s t).1.write [] := by
 unfold icmp18 at h ⊢
 split at h
 ·exact absurd h (by decide)
 split at h
 ·rename_i h0; exact absurd h h0
 split at h
 ·rename_i h0; exact absurd h h0
 ·rename_i h0 h1 h2
  rw [if_neg h0, if_neg h1, if_neg h2]
  exact ⟨Decidable.not_not.1 h1, Decidable.not_not.1 h2, rfl⟩
/-- not a fragment: nothing lies ahead -/
theorem part18_off {d : D6} (hc : d.check = 0) (hp : d.part = false) : ¬ 0 < d.off := by
 obtain ⟨hr, -⟩ := D6.ok_of_check hc
 obtain ⟨-, -, -, ht⟩ := D6.right_true hr
 intro ho
 cases hf : d.frag with
 | true =>
  unfold D6.part at hp
  rw [hf] at hp
  simp only [Bool.true_and, Bool.or_eq_false_iff, decide_eq_false_iff_not] at hp
  exact hp.2 ho
 | false =>
  unfold D6.tail at ht
  rw [hf] at ht
  have := (of_decide_eq_true ht).2.1
  omega
theorem flat18_more {d : D6} (hc : d.check = 0) (hf : d.frag = false) : d.more = false ∧ d.off = 0 := by
 obtain ⟨hr, -⟩ := D6.ok_of_check hc
 obtain ⟨-, -, -, ht⟩ := D6.right_true hr
 unfold D6.tail at ht
 rw [hf] at ht
 have := of_decide_eq_true ht
 exact ⟨this.2.2.1, this.2.1⟩
theorem wt_to18 {s t : List Int} (hE : E4ok s t) : wt (to18 s t) = wt s + wt t := by
 unfold to18
 rw [wt_append _ _ (by simp [hE.sL, hE.tL]), wt_append _ _ (by simp [hE.sL]), show wt (List.replicate 24 0) = 0 from by decide]
 omega
theorem to18_rng {s t : List Int} (hE : E4ok s t) : InB (to18 s t) := (hE.s.app hE.t).app fun x hx => by
 rw [List.eq_of_mem_replicate hx]; decide
theorem four_eq {s : List Int} (h : s.length = 4) : [s.getD 0 0, s.getD 1 0, s.getD 2 0, s.getD 3 0] = s := by
 match s, h with
 | [_, _, _, _], _ => rfl
theorem body18_len {d : D6} {s t : List Int} (h : (body18 d s t).2 = 0) : (body18 d s t).1.length = d.bl.length := by
 revert h
 unfold body18
 repeat' split
 all_goals (intro h; first | rfl | exact carry17_len _ _ _ _ _ | exact absurd h (by decide))
/-- a segment's checksum stays right -/
theorem right18_seg {d : D6} {s t s' t' : List Int} (hd : d.ok) (hE : E4ok s t) (hb : InB d.bl) (h : (pack18 d s t s' t').2 = 0) (ho : d.part = false) (hp : d.pro = 6 ∨ d.pro = 17)
  (hr : sumw (pse6 d.src d.dst d.bl.length d.pro ++ d.bl) = 65535) :
  sumw (pse4r (pack18 d s t s' t').1.src (pack18 d s t s' t').1.dst (pack18 d s t s' t').1.bl.length (pack18 d s t s' t').1.proto ++ (pack18 d s t s' t').1.bl) = 65535 := by
 obtain ⟨hc, he, hpk, -⟩ := pack18_ok h
 have hck := (check18 hc).2.2
 have hof := part18_off hc ho
 rw [hpk]
 have ea : any18 d s t s' t' = body18 d s t := by rw [any18, if_neg (by omega)]
 rw [ea] at he ⊢
 have hpro : (head18 d s t (body18 d s t).1).proto = d.pro := by show pro18 d.pro = _; unfold pro18; rw [if_neg (by omega)]
 rw [hpro, show (head18 d s t (body18 d s t).1).bl = (body18 d s t).1 from rfl, show (head18 d s t (body18 d s t).1).src = s from four_eq hE.sL, show (head18 d s t (body18 d s t).1).dst = t from four_eq hE.tL]
 obtain ⟨n, hn⟩ : ∃ n, (d.bl.length : Int) = n := ⟨_, rfl⟩
 have hw4 := wt_pse4r hE.sL hE.tL n d.pro
 have hw6 := wt_pse6 hd.srcL hd.dstL n d.pro
 have hp8 : 0 ≤ d.pro ∧ d.pro ≤ 255 := by omega
 have r4 := pse4r_rng hE.s hE.t (n := n) (by omega) hp8
 have r6 := pse6_rng hd.src hd.dst (n := n) (by omega) hp8
 have l4 : (pse4r s t n d.pro).length % 2 = 0 := by simp [pse4r, hE.sL, hE.tL]
 have l6 : (pse6 d.src d.dst n d.pro).length % 2 = 0 := by simp [pse6, hd.srcL, hd.dstL]
 have wf : wt (from18 d) = wt d.src + wt d.dst := wt_append _ _ (by rw [hd.srcL])
 have hf := wt_to18 hE
 have ns := wt_nonneg _ hE.s
 have nt := wt_nonneg _ hE.t
 have hpos : 0 < wt (pse4r s t n d.pro) := by rw [hw4]; omega
 have hc2 : ∀ (udp : Bool) (k : Nat), k + 2 ≤ d.bl.length → k % 2 = 0 → sumw (pse4r s t (carry17 udp (from18 d) (to18 s t) d.bl k).length d.pro ++ carry17 udp (from18 d) (to18 s t) d.bl k) = 65535 := fun udp k hk ek => by
  rw [carry17_len, hn]
  rw [hn] at hr
  exact carry_right hk ek hb r6 r4 (hd.src.app hd.dst) (to18_rng hE) l6 l4 (by rw [from18_len hd, to18_len hE]) (by rw [to18_len hE]) (by rw [hw4, hw6, hf, wf]; omega) hpos hr
 rcases hp with hp | hp
 ·have e : body18 d s t = if d.bl.length < 20 then ([], 173) else (carry17 false (from18 d) (to18 s t) d.bl 16, 0) := by unfold body18; rw [if_neg hof, if_pos hp]
  rw [e] at he ⊢
  by_cases h20 : d.bl.length < 20
  ·rw [if_pos h20] at he; exact absurd he (by decide)
  ·rw [if_neg h20]; exact hc2 false 16 (by omega) rfl
 ·have e : body18 d s t = if d.bl.length < 8 then ([], 173) else if d.bl.getD 6 0 = 0 ∧ d.bl.getD 7 0 = 0 then ([], 172) else (carry17 true (from18 d) (to18 s t) d.bl 6, 0) := by
   unfold body18; rw [if_neg hof, if_neg (by omega), if_pos hp]
  rw [e] at he ⊢
  by_cases h8 : d.bl.length < 8
  ·rw [if_pos h8] at he; exact absurd he (by decide)
  rw [if_neg h8] at he ⊢
  by_cases h0 : d.bl.getD 6 0 = 0 ∧ d.bl.getD 7 0 = 0
  ·rw [if_pos h0] at he; exact absurd he (by decide)
  ·rw [if_neg h0]; exact hc2 true 6 (by omega) rfl
/-- a message's checksum is right on the other side -/
theorem right18_icmp {d : D6} {s t s' t' : List Int} (hb : InB d.bl) (h : (pack18 d s t s' t').2 = 0) (hr : InB (pack18 d s t s' t').1.bl) (hp : d.pro = 58) : sumw ([] ++ (pack18 d s t s' t').1.bl) = 65535 := by
 obtain ⟨hc, he, hpk, -⟩ := pack18_ok h
 rw [hpk] at hr ⊢
 rw [show (head18 d s t (any18 d s t s' t').1).bl = (any18 d s t s' t').1 from rfl] at hr ⊢
 have ea : any18 d s t s' t' = icmp18 d s' t' := by rw [any18, if_pos hp]
 rw [ea] at hr he ⊢
 obtain ⟨h1, h2, h3⟩ := icmp18_ok he
 have hl := msg18_len (m := parse7 d.bl (ps18 d)) (s := s') (t := t')
 have hok := msg18_ok (s := s') (t := t') (parse7_ok (ps := ps18 d) hb)
 rw [h3] at hr ⊢
 generalize (msg18 (parse7 d.bl (ps18 d)) s' t').1 = m at *
 unfold D7.write at hr ⊢
 rw [if_neg (by omega)] at hr ⊢
 exact sum_right m hok [] InB.nil (fun x hx => hr x (List.mem_append_right _ hx)) rfl
/-- how long a message is on the other side -/
theorem icmp18_len {d : D6} {s t : List Int} (h : (icmp18 d s t).2 = 0) (hl : d.bl.length ≤ 65535) : 8 ≤ d.bl.length ∧ (128 ≤ d.bl.getD 0 0 → (icmp18 d s t).1.length = d.bl.length) ∧ (d.bl.getD 0 0 < 128 → (icmp18 d s t).1.length ≤ 556) := by
 obtain ⟨h1, h2, h3⟩ := icmp18_ok h
 have h8 : 8 ≤ d.bl.length := by
  unfold perr7 at h1
  split at h1
  ·exact absurd h1 (by decide)
  ·omega
 have hp7 : parse7 d.bl (ps18 d) = of7 d.bl := by
  unfold perr7 at h1
  rw [if_neg (by omega), if_neg (by omega)] at h1
  split at h1
  ·exact absurd h1 (by decide)
  ·rename_i hs
   unfold parse7
   rw [if_neg (by omega)]
 have hty : (of7 d.bl).ty = d.bl.getD 0 0 := rfl
 have hbl : (of7 d.bl).bl.length + 8 = d.bl.length := by show (d.bl.drop 8).length + 8 = _; rw [List.length_drop]; omega
 rw [hp7] at h2 h3
 have hlw := msg18_len (m := of7 d.bl) (s := s) (t := t)
 have hwr : (icmp18 d s t).1.length = 8 + (msg18 (of7 d.bl) s t).1.bl.length := by
  rw [h3, D7.write, if_neg (by omega), D7.bytes_len]
 refine ⟨h8, fun hq => ?_, fun hq => ?_⟩
 all_goals
  rw [hwr]
  unfold msg18 at h2 ⊢
  split
  ·rename_i a; rw [if_pos a] at h2; exact absurd h2 (by decide)
  rename_i a
  rw [if_neg a] at h2
  split
  ·rename_i b; rw [if_pos b] at h2; exact absurd h2 (by decide)
  rename_i b
  rw [if_neg b] at h2
 ·rw [if_pos (by omega)]
  show 8 + (of7 d.bl).bl.length = _
  omega
 ·rw [if_neg (by omega)]
  split
  ·exact Nat.le_of_lt (by show 8 + 0 < 556; decide)
  ·show 8 + (List.take 548 _).length ≤ 556
   rw [List.length_take]
   omega
/-- what a datagram is on the other side -/
theorem long18 {d : D6} {s t s' t' : List Int} (hE : E4ok s t) (h : (pack18 d s t s' t').2 = 0) :
  (pack18 d s t s' t').1.check = 0 ∧ (pack18 d s t s' t').1.ol = [] ∧ ((d.pro ≠ 58 ∨ 0 < d.bl.length ∧ 128 ≤ d.bl.getD 0 0) → (pack18 d s t s' t').1.bl.length = d.bl.length) ∧ (¬ (d.pro ≠ 58 ∨ 0 < d.bl.length ∧ 128 ≤ d.bl.getD 0 0) → (pack18 d s t s' t').1.bl.length ≤ 556) := by
 obtain ⟨hc, he, hpk, h6⟩ := pack18_ok h
 have hck := (check18 hc).2.2
 rw [hpk]
 refine ⟨h6, rfl, ?_, ?_⟩
 all_goals
  intro hq
  rw [show (head18 d s t (any18 d s t s' t').1).bl = (any18 d s t s' t').1 from rfl]
  unfold any18 at he ⊢
  by_cases hp : d.pro = 58
 ·rw [if_pos hp] at he ⊢
  exact (icmp18_len he hck).2.1 (by omega)
 ·rw [if_neg hp] at he ⊢
  exact body18_len he
 ·rw [if_pos hp] at he ⊢
  have h8 := (icmp18_len he hck).1
  exact (icmp18_len he hck).2.2 (by omega)
 ·exact absurd (.inl hp) hq
theorem long18_fields {d : D6} {s t s' t' : List Int} (hE : E4ok s t) (h : (pack18 d s t s' t').2 = 0) :
  (pack18 d s t s' t').1.src = s ∧ (pack18 d s t s' t').1.dst = t ∧ (pack18 d s t s' t').1.ttl = d.hop ∧ (pack18 d s t s' t').1.tos = d.cls ∧ (pack18 d s t s' t').1.df = !d.frag ∧ (pack18 d s t s' t').1.mf = d.more ∧ (pack18 d s t s' t').1.off = d.off := by
 obtain ⟨hc, he, hpk, h6⟩ := pack18_ok h
 rw [hpk]
 refine ⟨four_eq hE.sL, four_eq hE.tL, rfl, rfl, rfl, ?_, ?_⟩
 ·show (if d.frag then d.more else false) = d.more
  cases hf : d.frag with
  | true => rfl
  | false => rw [(flat18_more hc hf).1]; rfl
 ·show (if d.frag then d.off else 0) = d.off
  cases hf : d.frag with
  | true => rfl
  | false => rw [(flat18_more hc hf).2]; rfl
end Go.Proofs.Ytjnphelfloiadaa
