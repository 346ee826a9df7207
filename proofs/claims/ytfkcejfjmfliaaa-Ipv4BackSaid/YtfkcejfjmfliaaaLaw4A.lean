/-
  The walk of the law function awake of chapter 4.
-/
import Derived.Test.YtfkcejfjmfliaaaRef4C
namespace Go.Proofs.Ytfkcejfjmfliaaa
open Go.RowKit Go.Shelf

def dAwake : D4 := ⟨0, 0, false, false, 0, 64, 17, 10, 0, 0, 1, 10, 0, 0, 2, [], []⟩
def pAwake : W4 := ⟨none, 0, none, 0⟩
def aw : List Int := [69, 0, 0, 20, 0, 0, 0, 0, 64, 17, 102, 215, 10, 0, 0, 1, 10, 0, 0, 2]
theorem awake_bytes : dAwake.bytes = aw := by decide
theorem awake_rd (w : World) : Rd4 w.heap.size w dAwake pAwake where
  ok := ⟨by decide, by decide, by decide, by decide, by decide, by intro x hx; simp [dAwake, D4.src] at hx; omega, by intro x hx; simp [dAwake, D4.dst] at hx; omega⟩
  opt := ⟨⟨rfl, Nat.le_refl _, fun h => by cases h⟩, InB.nil, by decide⟩
  body := ⟨⟨rfl, Nat.le_refl _, fun h => by cases h⟩, InB.nil, by decide⟩

theorem aw_rng : InB aw := by intro x hx; simp [aw] at hx; omega
theorem aw_conv (w : World) : (convert 25 9 (.slice (some ⟨w.heap.size, 0, none⟩) 20 20)).run Try.prog (w.alloc (.cells #[.int .u8 69, .int .u8 0, .int .u8 0, .int .u8 20, .int .u8 0, .int .u8 0, .int .u8 0, .int .u8 0, .int .u8 64, .int .u8 17, .int .u8 102, .int .u8 215, .int .u8 10, .int .u8 0, .int .u8 0, .int .u8 1, .int .u8 10, .int .u8 0, .int .u8 0, .int .u8 2] 5)) = .ok (.string (strOfNums aw)) (w.alloc (.cells #[.int .u8 69, .int .u8 0, .int .u8 0, .int .u8 20, .int .u8 0, .int .u8 0, .int .u8 0, .int .u8 0, .int .u8 64, .int .u8 17, .int .u8 102, .int .u8 215, .int .u8 10, .int .u8 0, .int .u8 0, .int .u8 1, .int .u8 10, .int .u8 0, .int .u8 0, .int .u8 2] 5)) :=
  (By.blk (t := 5) (fz := (0, 0)) (Has.newAt rfl) (Nat.le_refl _) aw_rng (by decide) rfl rfl : By (w.alloc (.cells (u8s aw).toArray 5)).heap.size (w.alloc (.cells (u8s aw).toArray 5)) _ 20 20 aw).conv 25 9 Try.underlying25 Try.underlying5 Try.underlying9
theorem aw_eq : ((strOfNums aw).toList == (strOfNums aw).toList) = true := by simp

set_option maxRecDepth 100000 in
theorem awake_any (w : World) : Calls Try.prog 17 #[] w fun e w' => e = .returned (.bool true) ∧ Below w.heap.size w w' := by
  have hw := Lib.hid (write_ok dAwake pAwake w (awake_rd w) (by decide))
  go_enter Try.func17, Try.ntmps17
  go_wp2_with (go_at_call 11; refine hw.out.mono ?_; rintro e w1 ⟨v, rfl, ho, hb⟩; rw [awake_bytes] at ho; obtain ⟨A1, k1, rfl, y1⟩ := ho.by_; have hk1 := y1.conv (P := Try.prog) 25 9 Try.underlying25 Try.underlying5 Try.underlying9; have hk2 := aw_conv w1; clear ho y1)
  go_ret
  exact ⟨rfl, hb.trans (((Below.refl _ _).alloc (Nat.le_refl _) _).mono hb.size)⟩
end Go.Proofs.Ytfkcejfjmfliaaa
