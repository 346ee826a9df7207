/-
  Lemmas and walks for the row of TosixLong (part 36 of 37).
-/
import Derived.Test.YtijnifbpbgckgaaTlAG
import Derived.Test.YtijnifbpbgckgaaTlAL
import Derived.Test.YtijnifbpbgckgaaTlAM
import Derived.Test.YtijnifbpbgckgaaTlBE
import Derived.Test.YtijnifbpbgckgaaTlBI
set_option linter.unusedVariables false
set_option linter.unusedSimpArgs false
namespace Go.Proofs.Ytijnifbpbgckgaa
open Go.RowKit

/-- what Packet answers where there is an answer -/
theorem pack17_ok {d : D4} {s t s' t' : List Int} (h : (pack17 d s t s' t').2 = 0) :
    d.check = 0 ∧ (any17 d s t s' t').2 = 0 ∧ (pack17 d s t s' t').1 = head17 d s t (any17 d s t s' t').1 ∧ (head17 d s t (any17 d s t s' t').1).check = 0 := by
  unfold pack17 at h ⊢
  split at h
  · rename_i h0; exact absurd h h0
  split at h
  · exact absurd h (by decide)
  split at h
  · exact absurd h (by decide)
  split at h
  · rename_i h0; exact absurd h h0
  split at h
  · exact absurd h (by decide)
  · rename_i h0 h1 h2 h3 h4
    rw [if_neg h0, if_neg h1, if_neg h2, if_neg h3, if_neg h4]
    exact ⟨Decidable.not_not.1 h0, Decidable.not_not.1 h3, rfl, Decidable.not_not.1 h4⟩
theorem icmp17_ok {d : D4} {s t s' t' : List Int} (h : (icmp17 d s t s' t').2 = 0) :
    perr7 d.bl [] = 0 ∧ (msg17 (parse7 d.bl []) s' t').2 = 0 ∧ (icmp17 d s t s' t').1 = (msg17 (parse7 d.bl []) s' t').1.write (pse6 s t (8 + (msg17 (parse7 d.bl []) s' t').1.bl.length) 58) := by
  unfold icmp17 at h ⊢
  split at h
  · exact absurd h (by decide)
  split at h
  · rename_i h0; exact absurd h h0
  split at h
  · rename_i h0; exact absurd h h0
  · rename_i h0 h1 h2
    rw [if_neg h0, if_neg h1, if_neg h2]
    exact ⟨Decidable.not_not.1 h1, Decidable.not_not.1 h2, rfl⟩
theorem body17_len {d : D4} {s t : List Int} (h : (body17 d s t).2 = 0) : (body17 d s t).1.length = d.bl.length := by
  unfold body17 at h ⊢
  split
  · rfl
  rename_i h1
  rw [if_neg h1] at h
  split
  · rename_i h2
    rw [if_pos h2] at h
    split
    · rename_i h3; rw [if_pos h3] at h; exact absurd h (by decide)
    · exact carry17_len _ _ _ _ _
  rename_i h2
  rw [if_neg h2] at h
  split
  · rename_i h3
    rw [if_pos h3] at h
    split
    · rename_i h4; rw [if_pos h4] at h; exact absurd h (by decide)
    rename_i h4
    rw [if_neg h4] at h
    split
    · rename_i h5
      rw [if_pos h5] at h
      split
      · rename_i h6; rw [if_pos h6] at h; exact absurd h (by decide)
      rename_i h6
      rw [if_neg h6] at h
      split
      · rename_i h7; rw [if_pos h7] at h; exact absurd h (by decide)
      · exact put17_len _ _ _
    · exact carry17_len _ _ _ _ _
  · rfl
/-- a message of ICMP that is no error is as long on the other side -/
theorem icmp17_len {d : D4} {s t s' t' : List Int} (h : (icmp17 d s t s' t').2 = 0) (hk : ¬ (3 ≤ kind4 (parse7 d.bl []).ty (parse7 d.bl []).code ∧ kind4 (parse7 d.bl []).ty (parse7 d.bl []).code ≤ 6)) (hl : d.bl.length ≤ 65535) :
    (icmp17 d s t s' t').1.length = d.bl.length := by
  obtain ⟨h1, h2, h3⟩ := icmp17_ok h
  have h8 : 8 ≤ d.bl.length := by
    unfold perr7 at h1
    split at h1
    · exact absurd h1 (by decide)
    · omega
  have hlen : (parse7 d.bl []).bl.length + 8 = d.bl.length := by
    have h1' := h1
    unfold perr7 at h1'
    rw [if_neg (by omega), if_neg (by omega)] at h1'
    split at h1'
    · exact absurd h1' (by decide)
    · rename_i hs
      unfold parse7
      rw [if_neg (by omega)]
      show (d.bl.drop 8).length + 8 = _
      rw [List.length_drop]; omega
  rw [h3]
  generalize parse7 d.bl [] = m at *
  have hm : (msg17 m s' t').1.bl = m.bl ∧ m.bl.length ≤ 65527 := by
    have hk2 : (kind17 m).2 = true → 128 ≤ (kind17 m).1.1 := by
      intro hk2
      unfold kind4 at hk
      unfold kind17 at hk2 ⊢
      split
      · exact (by decide : (128 : Int) ≤ 128)
      rename_i a1
      rw [if_neg a1] at hk hk2
      split
      · exact (by decide : (128 : Int) ≤ 129)
      rename_i a2
      rw [if_neg a2] at hk hk2
      split
      · rename_i a3
        rw [if_pos a3] at hk
        exfalso
        split at hk <;> omega
      rename_i a3
      rw [if_neg a3] at hk hk2
      split
      · rename_i a4; rw [if_pos a4] at hk; omega
      rename_i a4
      rw [if_neg a4] at hk hk2
      split
      · rename_i a5; rw [if_pos a5] at hk; omega
      rename_i a5
      rw [if_neg a5] at hk2
      exact absurd hk2 (by decide)
    unfold msg17 at h2 ⊢
    split
    · rename_i a1; rw [if_pos a1] at h2; exact absurd h2 (by decide)
    rename_i a1
    rw [if_neg a1] at h2
    split
    · rename_i a2; rw [if_pos a2] at h2; exact absurd h2 (by decide)
    rename_i a2
    rw [if_pos (hk2 (by simpa using a1))]
    exact ⟨rfl, by omega⟩
  unfold D7.write
  rw [hm.1, if_neg (by omega), D7.bytes_len, hm.1]
  omega
/-- how long a datagram is on the other side -/
theorem long17 {d : D4} {s t s' t' : List Int} (h : (pack17 d s t s' t').2 = 0) (hk : d.proto = 1 → ¬ (3 ≤ kind4 (parse7 d.bl []).ty (parse7 d.bl []).code ∧ kind4 (parse7 d.bl []).ty (parse7 d.bl []).code ≤ 6)) :
    (pack17 d s t s' t').1.check = 0 ∧ (pack17 d s t s' t').1.ahead + (pack17 d s t s' t').1.bl.length = 40 + d.bl.length + (if d.part then 8 else 0) := by
  obtain ⟨hc, he, hpk, h6⟩ := pack17_ok h
  have hck := (d.ok_of_check hc).2.2.2
  rw [hpk]
  refine ⟨h6, ?_⟩
  have hl : (any17 d s t s' t').1.length = d.bl.length := by
    unfold any17 at he ⊢
    split
    · rename_i a; rw [if_pos a] at he; exact icmp17_len he (hk a) (by omega)
    · rename_i a; rw [if_neg a] at he; exact body17_len he
  show (40 + hsz [] + (if d.part then 8 else 0)) + (any17 d s t s' t').1.length = _
  rw [hl]
  simp only [hsz]
  omega
theorem long17_icmp {d : D4} {s t s' t' : List Int} (h : (pack17 d s t s' t').2 = 0) (hp : d.proto = 1) : perr7 d.bl [] = 0 := by
  have he := (pack17_ok h).2.1
  unfold any17 at he
  rw [if_pos hp] at he
  exact (icmp17_ok he).1
end Go.Proofs.Ytijnifbpbgckgaa
namespace Go.Proofs.Ytijnifbpbgckgaa
open Go.RowKit Go.Shelf
attribute [local irreducible] wpList Code.wp Oper.wp wpOp wpAnyH

set_option maxRecDepth 100000 in
set_option maxHeartbeats 4000000 in
theorem riserr_any (k : Int) (w : World) :
  Calls Try.prog 22 #[.int .i64 k] w fun e w' => e = .returned (.bool (decide (3 ≤ k ∧ k ≤ 6))) ∧ Below w.heap.size w w' := by
 go_enter Try.func22, Try.ntmps22
 refine wp_sr ?_
 refine lv (.bool false) (by exact xa) ?_
 simp only [lay]
 refine wn ?_
 refine wp_sr ?_
 refine lv (.int .i64 k) (by exact xm) ?_
 simp only [lay]
 by_cases q1 : k ≥ 3
 case pos =>
  refine lv (.bool true) (by exact ex_geq (by exact rfl) (by exact rfl) (by exact rfl) (decide_eq_true (by first | assumption | omega | decide))) ?_
  simp only [lay]
  refine lv (.bool true) (by exact xm) ?_
  simp only [lay]
  refine lv (.int .i64 k) (by exact xm) ?_
  simp only [lay]
  by_cases q2 : k ≤ 6
  case pos =>
   refine lv (.bool true) (by exact ex_leq (by exact rfl) (by exact rfl) (by exact rfl) (decide_eq_true (by first | assumption | omega | decide))) ?_
   simp only [lay]
   refine lv (.bool true) (by exact xp (b := true)) ?_
   simp only [lay]
   refine lv (.bool true) (by exact xa) ?_
   simp only [lay]
   refine wn ?_
   refine wp_ret ?_
   try simp only [Exit.then]
   exact bodyPost_ret (res_one Try.results22 rfl) rfl ⟨by rw [decide_eq_true (by omega : 3 ≤ k ∧ k ≤ 6)]; rfl, (Below.refl _ _)⟩
  refine lv (.bool false) (by exact ex_leq (by exact rfl) (by exact rfl) (by exact rfl) (decide_eq_false (by first | assumption | omega | decide))) ?_
  simp only [lay]
  refine lv (.bool false) (by exact xp (b := true)) ?_
  simp only [lay]
  refine lv (.bool false) (by exact xa) ?_
  simp only [lay]
  refine wn ?_
  refine wp_ret ?_
  try simp only [Exit.then]
  exact bodyPost_ret (res_one Try.results22 rfl) rfl ⟨by rw [decide_eq_false (by omega : ¬ (3 ≤ k ∧ k ≤ 6))]; rfl, (Below.refl _ _)⟩
 refine lv (.bool false) (by exact ex_geq (by exact rfl) (by exact rfl) (by exact rfl) (decide_eq_false (by first | assumption | omega | decide))) ?_
 simp only [lay]
 refine lv (.bool false) (by exact xm) ?_
 simp only [lay]
 refine lzn ?_
 simp only [lay]
 refine lzn ?_
 simp only [lay]
 refine lv (.bool false) (by exact xp (b := false)) ?_
 simp only [lay]
 refine lv (.bool false) (by exact xa) ?_
 simp only [lay]
 refine wn ?_
 refine wp_ret ?_
 try simp only [Exit.then]
 exact bodyPost_ret (res_one Try.results22 rfl) rfl ⟨by rw [decide_eq_false (by omega : ¬ (3 ≤ k ∧ k ≤ 6))]; rfl, (Below.refl _ _)⟩
end Go.Proofs.Ytijnifbpbgckgaa
namespace Go.Proofs.Ytijnifbpbgckgaa
open Go.RowKit Go.Shelf
attribute [local irreducible] wpList Code.wp Oper.wp wpOp wpAnyH

theorem pack17_at {d : D4} {s t s' t' : List Int} (h : (pack17 d s t s' t').2 = 0) : (pack17 d s t s' t').1.bl.length ≤ 65535 ∧ (pack17 d s t s' t').1.src = s ∧ (pack17 d s t s' t').1.dst = t := by
 obtain ⟨-, -, hpk, h6⟩ := pack17_ok h
 rw [← hpk] at h6
 have := (D6.ok_of_check h6).2
 exact ⟨by omega, by rw [hpk]; rfl, by rw [hpk]; rfl⟩

end Go.Proofs.Ytijnifbpbgckgaa
