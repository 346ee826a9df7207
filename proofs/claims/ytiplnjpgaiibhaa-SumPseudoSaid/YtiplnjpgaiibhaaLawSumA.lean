/-
  The walks of what the laws of chapter 1 share: cut, alive.
-/
import Derived.Test.YtiplnjpgaiibhaaRefSum2
namespace Go.Proofs.Ytiplnjpgaiibhaa
open Go.RowKit Go.Shelf

def cutS (l : List Int) : List Int := l.take 3000
theorem cutS_le (l : List Int) : (cutS l).length ≤ 3000 := by unfold cutS; rw [List.length_take]; omega

theorem cut_any (B : Nat) (A : Option Addr) (c : Nat) (l : List Int) (w : World) (h : By B w A l.length c l) :
    Calls Try.prog 14 #[.slice A l.length c] w fun e w' => e = .returned (.slice A (cutS l).length c) ∧ By B w A (cutS l).length c (cutS l) ∧ w = w' := by
  have hcap := h.cap
  by_cases hg : 3000 < l.length
  · have hl : (cutS l).length = 3000 := by unfold cutS; rw [List.length_take]; omega
    have hy : By B w A (cutS l).length c (cutS l) := by rw [hl]; exact h.take (by omega)
    have hlH := Lib.hid hl
    clear hl
    go_enter Try.func14, Try.ntmps14
    go_wp2
    go_ret
    exact ⟨by rw [hlH.out]; rfl, hy, rfl⟩
  · have hl : cutS l = l := List.take_of_length_le (by omega)
    rw [hl]
    clear hl
    go_enter Try.func14, Try.ntmps14
    go_wp2
    go_ret
    exact ⟨rfl, h, rfl⟩

theorem alive_any (w : World) : Calls Try.prog 12 #[] w fun e w' => e = .returned (.bool true) ∧ Below w.heap.size w w' := by
  have hin : ∀ l : List Int, (l.all fun x => decide (0 ≤ x) && decide (x ≤ 255)) = true → InB l := fun l h x hx => by
    have := List.all_eq_true.1 h x hx
    simpa using this
  have hinH := Lib.hid hin
  clear hin
  go_enter Try.func12, Try.ntmps12
  go_wp2_with fail
  refine (update_any 56623 (by omega) _ _ _ _ [85, 85] [50, 133] _ (By.blk (t := 5) (fz := (0, 0)) (Has.newAt rfl).alloc (Nat.le_refl _) (hinH.out _ rfl) (by simp) rfl rfl) (By.blk (t := 5) (fz := (0, 0)) (Has.newAt (by simp)) (Nat.le_refl _) (hinH.out _ rfl) (by simp) rfl rfl)).mono ?_
  rintro e w1 ⟨⟨q, er, rfl, hq⟩, hb⟩
  obtain rfl : q = 0 := hq.out.1.trans (by decide)
  obtain rfl : er = 0 := hq.out.2.trans (by decide)
  clear hq
  have hB1 : Below w.heap.size w w1 := (((Below.refl _ w).alloc (Nat.le_refl _) (.cells #[Value.int .u8 85, .int .u8 85] 5)).alloc (by simp) (.cells #[Value.int .u8 50, .int .u8 133] 5)).trans (hb.mono (by simp; omega))
  go_wp2_with fail
  refine (of_any _ _ [(some ⟨w1.heap.size, 0, none⟩, 4, [0, 1, 242, 3]), (some ⟨w1.heap.size + 1, 0, none⟩, 4, [244, 245, 246, 247])] _
    (Parts.blk (t := 23) (fz := (0, 0)) (Has.newAt (by simp)) (Nat.le_refl _) rfl (all2
      (By.blk (t := 5) (fz := (0, 0)) (Has.newAt rfl).alloc.alloc (Nat.le_refl _) (hinH.out _ rfl) (by simp) rfl rfl)
      (By.blk (t := 5) (fz := (0, 0)) (Has.newAt (by simp)).alloc (Nat.le_refl _) (hinH.out _ rfl) (by simp) rfl rfl)) (by simp))).mono ?_
  rintro e w2 ⟨rfl, hb2⟩
  rw [show sumw (flat [(some ⟨w1.heap.size, 0, none⟩, 4, [0, 1, 242, 3]), (some ⟨w1.heap.size + 1, 0, none⟩, 4, [244, 245, 246, 247])]) = 56818 from (by decide : sumw [0, 1, 242, 3, 244, 245, 246, 247] = 56818)]
  have hB2 : Below w.heap.size w w2 := hB1.trans (((((Below.refl w1.heap.size w1).alloc (Nat.le_refl _) _).alloc (by simp) _).alloc (by simp; omega) _).trans (hb2.mono (by simp; omega)) |>.mono hB1.size)
  go_wp2
  go_ret
  exact ⟨rfl, hB2⟩
end Go.Proofs.Ytiplnjpgaiibhaa
