/-
  The walk of the law function alive of chapter 7.
-/
import Derived.Test.YtgigdaemecokbaaRRRIcE
namespace Go.Proofs.YtgigdaemecokbaaRRR
open Go.RowKit Go.Shelf

def dAl : D7 := ⟨8, 0, 65538, []⟩
def al : List Int := [8, 0, 247, 252, 0, 1, 0, 2]
theorem dAl_ok : dAl.ok := ⟨by decide, by decide, by decide⟩
theorem al_write : dAl.write [] = al := by decide
theorem al_err : dAl.err = 0 := by decide
theorem al_parse : parse7 al [] = dAl := by unfold parse7; rw [if_neg (by decide)]; rfl
theorem al_perr : perr7 al [] = 0 := by decide
theorem al_str : strOfNums al = ⟨#[8, 0, 247, 252, 0, 1, 0, 2]⟩ := by decide
theorem al_eq : ((strOfNums al).toList == (⟨#[8, 0, 247, 252, 0, 1, 0, 2]⟩ : ByteArray).toList) = true := by rw [al_str]; simp

set_option maxRecDepth 100000 in
theorem alive_any (w : World) : Calls Try.prog 17 #[] w fun e w' => e = .returned (.bool true) ∧ Below w.heap.size w w' := by
  have hw := write4_any dAl none 0 w ⟨dAl_ok, By.nil _ _ _ (by decide)⟩
  rw [al_write, al_err] at hw
  have hw := Lib.hid hw
  go_enter Try.func17, Try.ntmps17
  go_wp2_with fail
  refine hw.out.mono ?_
  rintro e w1 ⟨v1, s1, rfl, hs1, ho1, hb1⟩
  obtain rfl : s1 = 0 := hs1.out
  obtain ⟨A1, k1, rfl, y1⟩ := ho1.by_
  have hp := parse4_any A1 k1 al w1 y1
  rw [al_parse, al_perr] at hp
  have hp := Lib.hid hp
  clear hw hs1 ho1
  go_wp2_with fail
  refine hp.out.mono ?_
  rintro e w2 ⟨⟨A2, k2, s2, rfl, hs2, _, _⟩, hb2⟩
  obtain rfl : s2 = 0 := hs2.out
  have hB2 := hb1.trans (hb2.mono hb1.size)
  have y2 := (y1.below hb2 (Nat.le_refl _)).more (B' := w2.heap.size) hb2.size
  have hZ : Has (w2.alloc (.cells #[.int .u8 0, .int .u8 0, .int .u32 0, .slice none 0 0] 25)) w2.heap.size (.cells #[.int .u8 0, .int .u8 0, .int .u32 0, .slice none 0 0] 25 (0, 0)) := Has.newAt rfl
  have hH : Has ((w2.alloc (.cells #[.int .u8 0, .int .u8 0, .int .u32 0, .slice none 0 0] 25)).setRow w2.heap.size (dAl.cells A2 k2)) w2.heap.size (.cells (dAl.cells A2 k2) 25 (0, 0)) := hZ.setRow_same
  have u1 := ((y2.alloc (Nat.le_refl _) (.cells #[.int .u8 0, .int .u8 0, .int .u32 0, .slice none 0 0] 25)).below (below_setRow' (g := w2.heap.size) (cs := dAl.cells A2 k2)) (Nat.le_refl _)).conv (P := Try.prog) 23 9 Try.underlying23 Try.underlying5 Try.underlying9
  rw [al_str] at u1
  have c2 := hH.cell 2 (v := .int .u32 65538) rfl
  have hB3 : Below w.heap.size w ((w2.alloc (.cells #[.int .u8 0, .int .u8 0, .int .u32 0, .slice none 0 0] 25)).setRow w2.heap.size (dAl.cells A2 k2)) := (hB2.alloc hB2.size (.cells #[.int .u8 0, .int .u8 0, .int .u32 0, .slice none 0 0] 25)).trans (below_setRow'.mono hB2.size)
  clear hp hs2 y1 y2 hb1 hb2 hB2
  go_wp2_with (first
    | (refine wpList_store_row rfl 25 (.tmp 3) (.tmp 13) rfl w2.heap.size _ rfl rfl 25 _ hZ icmp_info rfl (by simp [D7.cells, Value.oneCell']) ?_)
    | (refine wpList_load_rowG (by kernel_rfl) 25 (.tmp 3) rfl w2.heap.size rfl 25 (dAl.cells A2 k2) (0, 0) _ hH Try.underlying25 rfl icmp_info ?_))
  refine (kind4_any dAl A2 k2 _).mono ?_
  rintro e w3 ⟨⟨q, rfl, hq⟩, hb3⟩
  obtain rfl : q = 1 := hq.out
  have hH3 := hH.below hb3 hH.lt
  have hB4 := hB3.trans (hb3.mono hB3.size)
  clear hq hb3 hB3 hH c2 u1 hZ
  go_wp2_with (refine wpList_load_rowG (by kernel_rfl) 25 (.tmp 3) rfl w2.heap.size rfl 25 (dAl.cells A2 k2) (0, 0) _ hH3 Try.underlying25 rfl icmp_info ?_)
  refine (ident_any dAl dAl_ok A2 k2 _).mono ?_
  rintro e w4 ⟨rfl, hb4⟩
  have hid : dAl.rest / 65536 = 1 := by decide
  rw [hid]
  go_wp2
  go_ret
  exact ⟨rfl, hB4.trans (hb4.mono hB4.size)⟩
end Go.Proofs.YtgigdaemecokbaaRRR
