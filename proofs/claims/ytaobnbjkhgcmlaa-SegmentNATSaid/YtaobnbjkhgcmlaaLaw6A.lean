/-
  The walk of the law function awake of chapter 6.
-/
import Derived.Test.YtaobnbjkhgcmlaaSg7
namespace Go.Proofs.Ytaobnbjkhgcmlaa
open Go.RowKit Go.Shelf

def uAw : DU := ⟨53, 1024, []⟩
def awb : List Int := [0, 53, 4, 0, 0, 8, 231, 166]
theorem awb_rng : InB awb := by intro x hx; simp [awb] at hx; omega
theorem uAw_write : uAw.write (pse4 [10, 0, 0, 1] [10, 0, 0, 2] (8 + uAw.bl.length) 17) = awb := by decide
theorem awb_conv (w : World) : (convert 24 9 (.slice (some ⟨w.heap.size, 0, none⟩) 8 8)).run Try.prog (w.alloc (.cells #[.int .u8 0, .int .u8 53, .int .u8 4, .int .u8 0, .int .u8 0, .int .u8 8, .int .u8 231, .int .u8 166] 5)) = .ok (.string (strOfNums awb)) (w.alloc (.cells #[.int .u8 0, .int .u8 53, .int .u8 4, .int .u8 0, .int .u8 0, .int .u8 8, .int .u8 231, .int .u8 166] 5)) :=
  (By.blk (t := 5) (fz := (0, 0)) (Has.newAt rfl) (Nat.le_refl _) awb_rng (by decide) rfl rfl : By (w.alloc (.cells (u8s awb).toArray 5)).heap.size (w.alloc (.cells (u8s awb).toArray 5)) _ 8 8 awb).conv 24 9 Try.underlying24 Try.underlying5 Try.underlying9

set_option maxRecDepth 100000 in
theorem awake_any (w : World) : Calls Try.prog 17 #[] w fun e w' => e = .returned (.bool true) ∧ Below w.heap.size w w' := by
  have hw := writeUDP4_any [10, 0, 0, 1] [10, 0, 0, 2] rfl rfl (by intro x hx; simp at hx; omega) (by intro x hx; simp at hx; omega) uAw none 0 w ⟨⟨by decide, by decide⟩, By.nil _ _ _ (by decide)⟩
  rw [uAw_write] at hw
  have hw := Lib.hid hw
  go_enter Try.func17, Try.ntmps17
  go_wp2_with fail
  refine hw.out.mono ?_
  rintro e w1 ⟨v, s, rfl, hs, ho, hb⟩
  obtain rfl : s = 0 := hs.out
  obtain ⟨A1, k1, rfl, y1⟩ := ho.by_
  have hk1 := y1.conv (P := Try.prog) 24 9 Try.underlying24 Try.underlying5 Try.underlying9
  have hk2 := awb_conv w1
  clear ho y1 hw hs
  go_wp2
  go_ret
  exact ⟨rfl, hb.trans (((Below.refl _ _).alloc (Nat.le_refl _) _).mono hb.size)⟩
end Go.Proofs.Ytaobnbjkhgcmlaa
