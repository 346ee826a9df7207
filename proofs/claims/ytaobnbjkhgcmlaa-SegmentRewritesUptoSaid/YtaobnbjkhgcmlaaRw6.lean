/-
  The walk of segment.Rewrite.
-/
import Derived.Test.YtaobnbjkhgcmlaaP6W
import Derived.Test.YtaobnbjkhgcmlaaSg4
import Derived.Test.YtaobnbjkhgcmlaaClone
namespace Go.Proofs.Ytaobnbjkhgcmlaa
open Go.RowKit Go.Shelf

def ToldB (v2 : List Int) (s : Int) (w : World) (e : Ending) (w' : World) : Prop := ∃ v s', e = .returned (.tuple #[v, .int .i64 s']) ∧ Hid (s' = s) ∧ OwnB w' w.heap.size v v2 ∧ Below w.heap.size w w'

set_option maxRecDepth 100000 in
theorem rw_err (proto : Int) (hp : 0 ≤ proto ∧ proto ≤ 255) (A : Option Addr) (c : Nat) (l : List Int) (A1 : Option Addr) (c1 : Nat) (f : List Int) (A2 : Option Addr) (c2 : Nat) (t : List Int) (src dst : Int) (w : World) (y : By w.heap.size w A l.length c l) (y1 : By w.heap.size w A1 f.length c1 f) (y2 : By w.heap.size w A2 t.length c2 t) (he : rwErr proto l f t ≠ 0) :
    Calls Try.prog 38 #[.int .u8 proto, .slice A l.length c, .slice A1 f.length c1, .slice A2 t.length c2, .int .u16 src, .int .u16 dst] w fun e w' => ToldB [] (rwErr proto l f t) w e w' := by
  have hb := Nat.le_trans y.cap y.big
  have hb1 := Nat.le_trans y1.cap y1.big
  have hb2 := Nat.le_trans y2.cap y2.big
  have hc : (proto ≠ 6 ∧ proto ≠ 17 ∧ rwErr proto l f t = 64) ∨ ((proto = 6 ∨ proto = 17) ∧ l.length < 4 ∧ rwErr proto l f t = 60) ∨ ((proto = 6 ∨ proto = 17) ∧ 4 ≤ l.length ∧ f.length ≠ t.length ∧ rwErr proto l f t = 10) ∨ ((proto = 6 ∨ proto = 17) ∧ 4 ≤ l.length ∧ f.length = t.length ∧ f.length % 2 = 1 ∧ rwErr proto l f t = 10) := by
    unfold rwErr at he ⊢
    split at he
    · rename_i h; left; exact ⟨h.1, h.2, by rw [if_pos h]⟩
    · rename_i h
      split at he
      · rename_i h2; right; left; exact ⟨by omega, h2, by rw [if_neg h, if_pos h2]⟩
      · rename_i h2
        split at he
        · rename_i h3
          right; right
          by_cases h4 : f.length = t.length
          · right; exact ⟨by omega, by omega, h4, by omega, by rw [if_neg h, if_neg h2, if_pos h3]⟩
          · left; exact ⟨by omega, by omega, h4, by rw [if_neg h, if_neg h2, if_pos h3]⟩
        · exact absurd rfl he
  rcases hc with ⟨h1, h2, h3⟩ | ⟨h1, h2, h3⟩ | ⟨h1, h2, h3, h4⟩ | ⟨h1, h2, h3, h4, h5⟩
  · rw [h3]
    have h5 : (proto == 6) = false := by simp [h1]
    have h6 : (proto == 17) = false := by simp [h2]
    clear he h3
    go_enter Try.func38, Try.ntmps38
    go_wp2
    go_ret2
    exact ⟨_, _, rfl, Lib.hid rfl, OwnB.nil _ _, Below.refl _ _⟩
  · rw [h3]
    have h2' : (l.length : Int) < 4 := by omega
    clear he h3
    rcases h1 with rfl | rfl
    all_goals
      go_enter Try.func38, Try.ntmps38
      go_wp2
      go_ret2
      exact ⟨_, _, rfl, Lib.hid rfl, OwnB.nil _ _, Below.refl _ _⟩
  · rw [h4]
    have h2' : (4 : Int) ≤ (l.length : Int) := by omega
    have h3' : ((f.length : Int) != (t.length : Int)) = true := by simp; omega
    clear he h4
    rcases h1 with rfl | rfl
    all_goals
      go_enter Try.func38, Try.ntmps38
      go_wp2
      go_ret2
      exact ⟨_, _, rfl, Lib.hid rfl, OwnB.nil _ _, Below.refl _ _⟩
  · rw [h5]
    have h2' : (4 : Int) ≤ (l.length : Int) := by omega
    have h4' : (t.length : Int) % 2 = 1 := by omega
    clear he h5 h4
    rw [h3]
    rcases h1 with rfl | rfl
    all_goals
      go_enter Try.func38, Try.ntmps38
      go_wp2
      go_ret2
      exact ⟨_, _, rfl, Lib.hid rfl, OwnB.nil _ _, Below.refl _ _⟩
end Go.Proofs.Ytaobnbjkhgcmlaa
