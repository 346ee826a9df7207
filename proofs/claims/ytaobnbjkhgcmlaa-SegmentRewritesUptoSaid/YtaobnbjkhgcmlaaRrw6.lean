/-
  The walk of the reference's Rewrite where it refuses.
-/
import Derived.Test.YtaobnbjkhgcmlaaRw7
namespace Go.Proofs.Ytaobnbjkhgcmlaa
open Go.RowKit Go.Shelf

set_option maxRecDepth 100000 in
theorem rrw_err (proto : Int) (hp : 0 ≤ proto ∧ proto ≤ 255) (A : Option Addr) (c : Nat) (l : List Int) (A1 : Option Addr) (c1 : Nat) (f : List Int) (A2 : Option Addr) (c2 : Nat) (t : List Int) (src dst : Int) (w : World) (y : By w.heap.size w A l.length c l) (y1 : By w.heap.size w A1 f.length c1 f) (y2 : By w.heap.size w A2 t.length c2 t) (hbig : f.length ≤ 4398046511104 ∧ t.length ≤ 4398046511104) (he : rwErr proto l f t ≠ 0) :
    Calls Try.prog 39 #[.int .u8 proto, .slice A l.length c, .slice A1 f.length c1, .slice A2 t.length c2, .int .u16 src, .int .u16 dst] w fun e w' => ToldB [] (rwErr proto l f t) w e w' := by
  have hb := Nat.le_trans y.cap y.big
  have hb1 := Nat.le_trans y1.cap y1.big
  have hb2 := Nat.le_trans y2.cap y2.big
  have hc : (proto ≠ 6 ∧ proto ≠ 17 ∧ rwErr proto l f t = 64) ∨ ((proto = 6 ∨ proto = 17) ∧ l.length < 4 ∧ rwErr proto l f t = 60) ∨ ((proto = 6 ∨ proto = 17) ∧ 4 ≤ l.length ∧ f.length ≠ t.length ∧ rwErr proto l f t = 10) ∨ ((proto = 6 ∨ proto = 17) ∧ 4 ≤ l.length ∧ f.length = t.length ∧ f.length % 2 = 1 ∧ rwErr proto l f t = 10) := by
    unfold rwErr at he ⊢
    split at he
    · rename_i h; left; exact ⟨h.1, h.2, by rw [if_pos h]⟩
    · rename_i h
      split at he
      · rename_i h2; right; left; exact ⟨by omega, h2, by rw [if_neg h, if_pos h2]⟩
      · rename_i h2
        split at he
        · rename_i h3
          right; right
          by_cases h4 : f.length = t.length
          · right; exact ⟨by omega, by omega, h4, by omega, by rw [if_neg h, if_neg h2, if_pos h3]⟩
          · left; exact ⟨by omega, by omega, h4, by rw [if_neg h, if_neg h2, if_pos h3]⟩
        · exact absurd rfl he
  rcases hc with ⟨h1, h2, h3⟩ | ⟨h1, h2, h3⟩ | ⟨h1, h2, h3, h4⟩ | ⟨h1, h2, h3, h4, h5⟩
  · rw [h3]
    have h5 : (proto != 6) = true := by simp [h1]
    have h6 : (proto != 17) = true := by simp [h2]
    clear he h3
    go_enter Try.func39, Try.ntmps39
    go_wp2
    go_ret2
    exact ⟨_, _, rfl, Lib.hid rfl, OwnB.nil _ _, Below.refl _ _⟩
  · rw [h3]
    have h2' : (l.length : Int) < 4 := by omega
    clear he h3
    rcases h1 with rfl | rfl
    all_goals
      go_enter Try.func39, Try.ntmps39
      go_wp2
      go_ret2
      exact ⟨_, _, rfl, Lib.hid rfl, OwnB.nil _ _, Below.refl _ _⟩
  · rw [h4]
    have h2' : (4 : Int) ≤ (l.length : Int) := by omega
    have hu : (updateS 0 f t).2 = 10 := by unfold updateS; rw [if_neg (fun h => h3 h.1)]
    have huH := Lib.hid hu
    clear he h4 hu h3
    rcases h1 with rfl | rfl
    all_goals
      go_enter Try.func39, Try.ntmps39
      go_wp2_with fail
      refine (rupdate_any 0 (by decide) A1 A2 c1 c2 f t _ y1 y2 hbig).mono ?_
      rintro e w1 ⟨⟨q, er, rfl, hqe⟩, hb1⟩
      obtain rfl : er = 10 := hqe.out.2.trans huH.out
      go_wp2
      go_ret2
      exact ⟨_, _, rfl, Lib.hid rfl, OwnB.nil _ _, hb1⟩
  · rw [h5]
    have h2' : (4 : Int) ≤ (l.length : Int) := by omega
    have hu : (updateS 0 f t).2 = 10 := by unfold updateS; rw [if_neg (fun h => by omega)]
    have huH := Lib.hid hu
    clear he h5 h4 hu h3
    rcases h1 with rfl | rfl
    all_goals
      go_enter Try.func39, Try.ntmps39
      go_wp2_with fail
      refine (rupdate_any 0 (by decide) A1 A2 c1 c2 f t _ y1 y2 hbig).mono ?_
      rintro e w1 ⟨⟨q, er, rfl, hqe⟩, hb1⟩
      obtain rfl : er = 10 := hqe.out.2.trans huH.out
      go_wp2
      go_ret2
      exact ⟨_, _, rfl, Lib.hid rfl, OwnB.nil _ _, hb1⟩
end Go.Proofs.Ytaobnbjkhgcmlaa
