/-
  Lemmas and walks for the row of TofourTells (part 15 of 37).
-/
import Derived.Test.YtjnphelfloiadaaFtAI
import Derived.Test.YtjnphelfloiadaaFtAN
set_option linter.unusedVariables false
set_option linter.unusedSimpArgs false
namespace Go.Proofs.Ytjnphelfloiadaa
open Go.RowKit Go.Shelf

set_option maxRecDepth 100000 in
set_option maxHeartbeats 16000000 in
theorem read6_false (A : Option Addr) (c : Nat) (l : List Int) (w : World) (hy : By w.heap.size w A l.length c l) :
  Calls Try.prog 78 #[.slice A l.length c, .bool false] w fun e w' => Told6 w.heap.size w' (got6 false l) ((g6 false l).pat : Int) (g6 false l).err e ∧ Below w.heap.size w w' := by
 have hmf : ∀ (fn : Fn) (first cap : Array Value) (w : World), (Instr.makeFunc fn first cap).run Try.prog w = .ok (.func fn first cap) w := fun _ _ _ _ => rfl
 obtain ⟨N, hN⟩ : ∃ N, l.length = N := ⟨_, rfl⟩
 rw [hN] at hy ⊢
 have hlH := Lib.hid hN
 have hBl : Below w.heap.size w ((((w.alloc (.cells #[.int .u8 0, .int .u32 0, .int .u8 0, .int .u8 0, .int .u8 0, .int .u8 0, .int .u8 0, .int .u8 0, .int .u8 0, .int .u8 0, .int .u8 0, .int .u8 0, .int .u8 0, .int .u8 0, .int .u8 0, .int .u8 0, .int .u8 0, .int .u8 0, .int .u8 0, .int .u8 0, .int .u8 0, .int .u8 0, .int .u8 0, .int .u8 0, .int .u8 0, .int .u8 0, .int .u8 0, .int .u8 0, .int .u8 0, .int .u8 0, .int .u8 0, .int .u8 0, .int .u8 0, .int .u8 0, .int .u8 0, .slice none 0 0, .bool false, .int .u32 0, .int .i64 0, .bool false, .int .u8 0, .slice none 0 0] 28)).alloc (.cells #[.int .i64 0] 3)).alloc (.cells #[.int .i64 0] 36)).alloc (.cells #[.slice A N c, .int .i64 0, .int .u8 0, .int .u32 0, .int .u8 0, .int .u8 0, .int .u8 0, .int .u8 0, .int .u8 0, .int .u8 0, .int .u8 0, .int .u8 0, .int .u8 0, .int .u8 0, .int .u8 0, .int .u8 0, .int .u8 0, .int .u8 0, .int .u8 0, .int .u8 0, .int .u8 0, .int .u8 0, .int .u8 0, .int .u8 0, .int .u8 0, .int .u8 0, .int .u8 0, .int .u8 0, .int .u8 0, .int .u8 0, .int .u8 0, .int .u8 0, .int .u8 0, .int .u8 0, .int .u8 0, .int .u8 0, .int .u8 0, .slice none 0 0, .bool false, .int .u32 0, .int .i64 0, .bool false, .int .u8 0, .slice none 0 0] 147)) :=
  ((((Below.refl _ _).alloc (Nat.le_refl _) _).alloc (by simp) _).alloc (by simp; omega) _).alloc (by simp; omega) _
 have hV : Has ((((w.alloc (.cells #[.int .u8 0, .int .u32 0, .int .u8 0, .int .u8 0, .int .u8 0, .int .u8 0, .int .u8 0, .int .u8 0, .int .u8 0, .int .u8 0, .int .u8 0, .int .u8 0, .int .u8 0, .int .u8 0, .int .u8 0, .int .u8 0, .int .u8 0, .int .u8 0, .int .u8 0, .int .u8 0, .int .u8 0, .int .u8 0, .int .u8 0, .int .u8 0, .int .u8 0, .int .u8 0, .int .u8 0, .int .u8 0, .int .u8 0, .int .u8 0, .int .u8 0, .int .u8 0, .int .u8 0, .int .u8 0, .int .u8 0, .slice none 0 0, .bool false, .int .u32 0, .int .i64 0, .bool false, .int .u8 0, .slice none 0 0] 28)).alloc (.cells #[.int .i64 0] 3)).alloc (.cells #[.int .i64 0] 36)).alloc (.cells #[.slice A N c, .int .i64 0, .int .u8 0, .int .u32 0, .int .u8 0, .int .u8 0, .int .u8 0, .int .u8 0, .int .u8 0, .int .u8 0, .int .u8 0, .int .u8 0, .int .u8 0, .int .u8 0, .int .u8 0, .int .u8 0, .int .u8 0, .int .u8 0, .int .u8 0, .int .u8 0, .int .u8 0, .int .u8 0, .int .u8 0, .int .u8 0, .int .u8 0, .int .u8 0, .int .u8 0, .int .u8 0, .int .u8 0, .int .u8 0, .int .u8 0, .int .u8 0, .int .u8 0, .int .u8 0, .int .u8 0, .int .u8 0, .int .u8 0, .slice none 0 0, .bool false, .int .u32 0, .int .i64 0, .bool false, .int .u8 0, .slice none 0 0] 147)) w.heap.size (.cells z6cells 28 (0, 0)) := (((Has.newAt rfl).alloc).alloc).alloc
 have hA : Has ((((w.alloc (.cells #[.int .u8 0, .int .u32 0, .int .u8 0, .int .u8 0, .int .u8 0, .int .u8 0, .int .u8 0, .int .u8 0, .int .u8 0, .int .u8 0, .int .u8 0, .int .u8 0, .int .u8 0, .int .u8 0, .int .u8 0, .int .u8 0, .int .u8 0, .int .u8 0, .int .u8 0, .int .u8 0, .int .u8 0, .int .u8 0, .int .u8 0, .int .u8 0, .int .u8 0, .int .u8 0, .int .u8 0, .int .u8 0, .int .u8 0, .int .u8 0, .int .u8 0, .int .u8 0, .int .u8 0, .int .u8 0, .int .u8 0, .slice none 0 0, .bool false, .int .u32 0, .int .i64 0, .bool false, .int .u8 0, .slice none 0 0] 28)).alloc (.cells #[.int .i64 0] 3)).alloc (.cells #[.int .i64 0] 36)).alloc (.cells #[.slice A N c, .int .i64 0, .int .u8 0, .int .u32 0, .int .u8 0, .int .u8 0, .int .u8 0, .int .u8 0, .int .u8 0, .int .u8 0, .int .u8 0, .int .u8 0, .int .u8 0, .int .u8 0, .int .u8 0, .int .u8 0, .int .u8 0, .int .u8 0, .int .u8 0, .int .u8 0, .int .u8 0, .int .u8 0, .int .u8 0, .int .u8 0, .int .u8 0, .int .u8 0, .int .u8 0, .int .u8 0, .int .u8 0, .int .u8 0, .int .u8 0, .int .u8 0, .int .u8 0, .int .u8 0, .int .u8 0, .int .u8 0, .int .u8 0, .slice none 0 0, .bool false, .int .u32 0, .int .i64 0, .bool false, .int .u8 0, .slice none 0 0] 147)) (w.heap.size + 1) (.cells #[.int .i64 0] 3 (0, 0)) := ((Has.newAt (by simp)).alloc).alloc
 have hE : Has ((((w.alloc (.cells #[.int .u8 0, .int .u32 0, .int .u8 0, .int .u8 0, .int .u8 0, .int .u8 0, .int .u8 0, .int .u8 0, .int .u8 0, .int .u8 0, .int .u8 0, .int .u8 0, .int .u8 0, .int .u8 0, .int .u8 0, .int .u8 0, .int .u8 0, .int .u8 0, .int .u8 0, .int .u8 0, .int .u8 0, .int .u8 0, .int .u8 0, .int .u8 0, .int .u8 0, .int .u8 0, .int .u8 0, .int .u8 0, .int .u8 0, .int .u8 0, .int .u8 0, .int .u8 0, .int .u8 0, .int .u8 0, .int .u8 0, .slice none 0 0, .bool false, .int .u32 0, .int .i64 0, .bool false, .int .u8 0, .slice none 0 0] 28)).alloc (.cells #[.int .i64 0] 3)).alloc (.cells #[.int .i64 0] 36)).alloc (.cells #[.slice A N c, .int .i64 0, .int .u8 0, .int .u32 0, .int .u8 0, .int .u8 0, .int .u8 0, .int .u8 0, .int .u8 0, .int .u8 0, .int .u8 0, .int .u8 0, .int .u8 0, .int .u8 0, .int .u8 0, .int .u8 0, .int .u8 0, .int .u8 0, .int .u8 0, .int .u8 0, .int .u8 0, .int .u8 0, .int .u8 0, .int .u8 0, .int .u8 0, .int .u8 0, .int .u8 0, .int .u8 0, .int .u8 0, .int .u8 0, .int .u8 0, .int .u8 0, .int .u8 0, .int .u8 0, .int .u8 0, .int .u8 0, .int .u8 0, .slice none 0 0, .bool false, .int .u32 0, .int .i64 0, .bool false, .int .u8 0, .slice none 0 0] 147)) (w.heap.size + 1 + 1) (.cells #[.int .i64 0] 36 (0, 0)) := (Has.newAt (by simp)).alloc
 have hG : Has ((((w.alloc (.cells #[.int .u8 0, .int .u32 0, .int .u8 0, .int .u8 0, .int .u8 0, .int .u8 0, .int .u8 0, .int .u8 0, .int .u8 0, .int .u8 0, .int .u8 0, .int .u8 0, .int .u8 0, .int .u8 0, .int .u8 0, .int .u8 0, .int .u8 0, .int .u8 0, .int .u8 0, .int .u8 0, .int .u8 0, .int .u8 0, .int .u8 0, .int .u8 0, .int .u8 0, .int .u8 0, .int .u8 0, .int .u8 0, .int .u8 0, .int .u8 0, .int .u8 0, .int .u8 0, .int .u8 0, .int .u8 0, .int .u8 0, .slice none 0 0, .bool false, .int .u32 0, .int .i64 0, .bool false, .int .u8 0, .slice none 0 0] 28)).alloc (.cells #[.int .i64 0] 3)).alloc (.cells #[.int .i64 0] 36)).alloc (.cells #[.slice A N c, .int .i64 0, .int .u8 0, .int .u32 0, .int .u8 0, .int .u8 0, .int .u8 0, .int .u8 0, .int .u8 0, .int .u8 0, .int .u8 0, .int .u8 0, .int .u8 0, .int .u8 0, .int .u8 0, .int .u8 0, .int .u8 0, .int .u8 0, .int .u8 0, .int .u8 0, .int .u8 0, .int .u8 0, .int .u8 0, .int .u8 0, .int .u8 0, .int .u8 0, .int .u8 0, .int .u8 0, .int .u8 0, .int .u8 0, .int .u8 0, .int .u8 0, .int .u8 0, .int .u8 0, .int .u8 0, .int .u8 0, .int .u8 0, .slice none 0 0, .bool false, .int .u32 0, .int .i64 0, .bool false, .int .u8 0, .slice none 0 0] 147)) (w.heap.size + 1 + 1 + 1) (.cells (rcells A N c ((0 : Nat) : Int) zero6 pZ6) 147 (0, 0)) := Has.newAt (by simp)
 have hsz : ((((w.alloc (.cells #[.int .u8 0, .int .u32 0, .int .u8 0, .int .u8 0, .int .u8 0, .int .u8 0, .int .u8 0, .int .u8 0, .int .u8 0, .int .u8 0, .int .u8 0, .int .u8 0, .int .u8 0, .int .u8 0, .int .u8 0, .int .u8 0, .int .u8 0, .int .u8 0, .int .u8 0, .int .u8 0, .int .u8 0, .int .u8 0, .int .u8 0, .int .u8 0, .int .u8 0, .int .u8 0, .int .u8 0, .int .u8 0, .int .u8 0, .int .u8 0, .int .u8 0, .int .u8 0, .int .u8 0, .int .u8 0, .int .u8 0, .slice none 0 0, .bool false, .int .u32 0, .int .i64 0, .bool false, .int .u8 0, .slice none 0 0] 28)).alloc (.cells #[.int .i64 0] 3)).alloc (.cells #[.int .i64 0] 36)).alloc (.cells #[.slice A N c, .int .i64 0, .int .u8 0, .int .u32 0, .int .u8 0, .int .u8 0, .int .u8 0, .int .u8 0, .int .u8 0, .int .u8 0, .int .u8 0, .int .u8 0, .int .u8 0, .int .u8 0, .int .u8 0, .int .u8 0, .int .u8 0, .int .u8 0, .int .u8 0, .int .u8 0, .int .u8 0, .int .u8 0, .int .u8 0, .int .u8 0, .int .u8 0, .int .u8 0, .int .u8 0, .int .u8 0, .int .u8 0, .int .u8 0, .int .u8 0, .int .u8 0, .int .u8 0, .int .u8 0, .int .u8 0, .int .u8 0, .int .u8 0, .slice none 0 0, .bool false, .int .u32 0, .int .i64 0, .bool false, .int .u8 0, .slice none 0 0] 147)).heap.size = w.heap.size + 1 + 1 + 1 + 1 := by simp
 obtain ⟨W0, hW0⟩ : ∃ W, ((((w.alloc (.cells #[.int .u8 0, .int .u32 0, .int .u8 0, .int .u8 0, .int .u8 0, .int .u8 0, .int .u8 0, .int .u8 0, .int .u8 0, .int .u8 0, .int .u8 0, .int .u8 0, .int .u8 0, .int .u8 0, .int .u8 0, .int .u8 0, .int .u8 0, .int .u8 0, .int .u8 0, .int .u8 0, .int .u8 0, .int .u8 0, .int .u8 0, .int .u8 0, .int .u8 0, .int .u8 0, .int .u8 0, .int .u8 0, .int .u8 0, .int .u8 0, .int .u8 0, .int .u8 0, .int .u8 0, .int .u8 0, .int .u8 0, .slice none 0 0, .bool false, .int .u32 0, .int .i64 0, .bool false, .int .u8 0, .slice none 0 0] 28)).alloc (.cells #[.int .i64 0] 3)).alloc (.cells #[.int .i64 0] 36)).alloc (.cells #[.slice A N c, .int .i64 0, .int .u8 0, .int .u32 0, .int .u8 0, .int .u8 0, .int .u8 0, .int .u8 0, .int .u8 0, .int .u8 0, .int .u8 0, .int .u8 0, .int .u8 0, .int .u8 0, .int .u8 0, .int .u8 0, .int .u8 0, .int .u8 0, .int .u8 0, .int .u8 0, .int .u8 0, .int .u8 0, .int .u8 0, .int .u8 0, .int .u8 0, .int .u8 0, .int .u8 0, .int .u8 0, .int .u8 0, .int .u8 0, .int .u8 0, .int .u8 0, .int .u8 0, .int .u8 0, .int .u8 0, .int .u8 0, .int .u8 0, .slice none 0 0, .bool false, .int .u32 0, .int .i64 0, .bool false, .int .u8 0, .slice none 0 0] 147)) = W := ⟨_, rfl⟩
 rw [hW0] at hBl hV hA hE hG hsz
 have hy := (hy.below hBl (Nat.le_refl _)).more (show w.heap.size ≤ w.heap.size + 1 + 1 + 1 by omega)
 have hRS : RS (w.heap.size + 1 + 1 + 1) (w.heap.size + 1 + 1 + 1) W0 W0 A N c 0 zero6 pZ6 := ⟨hG, OwnK.nil _ _ _, rfl, Below.refl _ _⟩
 have hNb := Nat.le_trans hy.cap hy.big
 clear hG hN
 by_cases h40 : N < 40
 case pos =>
  have hGe : Hid (g6 false l = bad6 50 0) := Lib.hid (by unfold g6; rw [if_pos (by rw [hlH.out]; exact h40)])
  have hc := Lib.hid (take_rs_bad (q := 0) 40 (z := 40) rfl hRS hNb (Nat.zero_le _) (by omega) (by decide))
  clear hRS
  go_enter_defers Try.func78, Try.ntmps78
  go_wp2_with fail
  refine hc.out.mono ?_
  rintro e w2 ⟨rfl, hb⟩
  have hV := hV.below hb (show w.heap.size < w.heap.size + 1 + 1 + 1 by omega)
  have hA := hA.below hb (show w.heap.size + 1 < w.heap.size + 1 + 1 + 1 by omega)
  have hE := hE.below hb (show w.heap.size + 1 + 1 < w.heap.size + 1 + 1 + 1 by omega)
  have hb2 := hBl.trans (Below.mono hb (show w.heap.size ≤ w.heap.size + 1 + 1 + 1 by omega))
  refine leaves_cons (f := 100) (args := #[.pointer (some ⟨w.heap.size, 0, none⟩), .pointer (some ⟨w.heap.size + 1, 0, none⟩), .pointer (some ⟨w.heap.size + 1 + 1, 0, none⟩)]) (by simp) (by simp [go_sem]) ?_
  refine (catch6_fault _ _ _ 0 50 [] _ _ _ _ hV rfl hA hE (by omega) (by omega) (by omega)).mono ?_
  rintro e u' w'' ⟨rfl, rfl, h1, h2, h3, hall⟩
  have hgot : got6 false l = zero6 := by unfold got6; rw [hGe.out]; exact if_neg (by simp [bad6])
  rw [hgot, hGe.out]
  exact told6_mk (p := pZ6) Try.results78 rfl rfl rfl h1 h2 h3 (own6_zero _ _) rfl rfl (hb2.trans (hall _ (by omega) (by omega) (by omega)))
 have hc := Lib.hid (take_rs (q := 0) 40 (z := 40) rfl hRS hy (Nat.le_refl _) (by omega))
 have hlr := hy.rng
 have gr := fun i => getD_byte hlr i
 have hget : ∀ i, i < 40 → ((l.drop 0).take 40).getD i 0 = l.getD i 0 := fun i hi => by simp [List.getD, hi]
 clear hRS
 go_enter_defers Try.func78, Try.ntmps78
 go_wp2_with fail
 refine hc.out.mono ?_
 rintro e w1 ⟨A1, c1, rfl, y1, h1⟩
 clear hc hW0 hmf
 obtain ⟨b, o, rfl, hb, -⟩ := y1.row.at_ (by decide)
 have e0 : W0.cell? ⟨b, o, none⟩ = _ := y1.atO (k := 0) (by decide)
 have e1 := y1.atO (k := 1) (by decide)
 have e2 := y1.atO (k := 2) (by decide)
 have e3 := y1.atO (k := 3) (by decide)
 have e4 := y1.atO (k := 4) (by decide)
 have e5 := y1.atO (k := 5) (by decide)
 have e6 := y1.atO (k := 6) (by decide)
 have e7 := y1.atO (k := 7) (by decide)
 rw [hget _ (by decide)] at e0 e1 e2 e3 e4 e5 e6 e7
 have g0 := gr 0
 have g1 := gr 1
 have g2 := gr 2
 have g3 := gr 3
 have g4 := gr 4
 have g5 := gr 5
 have g6' := gr 6
 have g7 := gr 7
 obtain ⟨x0, hx0⟩ : ∃ x, l.getD 0 0 = x := ⟨_, rfl⟩
 obtain ⟨x1, hx1⟩ : ∃ x, l.getD 1 0 = x := ⟨_, rfl⟩
 obtain ⟨x2, hx2⟩ : ∃ x, l.getD 2 0 = x := ⟨_, rfl⟩
 obtain ⟨x3, hx3⟩ : ∃ x, l.getD 3 0 = x := ⟨_, rfl⟩
 obtain ⟨x4, hx4⟩ : ∃ x, l.getD 4 0 = x := ⟨_, rfl⟩
 obtain ⟨x5, hx5⟩ : ∃ x, l.getD 5 0 = x := ⟨_, rfl⟩
 obtain ⟨x6, hx6⟩ : ∃ x, l.getD 6 0 = x := ⟨_, rfl⟩
 obtain ⟨x7, hx7⟩ : ∃ x, l.getD 7 0 = x := ⟨_, rfl⟩
 rw [hx0] at e0 g0
 rw [hx1] at e1 g1
 rw [hx2] at e2 g2
 rw [hx3] at e3 g3
 rw [hx4] at e4 g4
 rw [hx5] at e5 g5
 rw [hx6] at e6 g6'
 rw [hx7] at e7 g7
 have d0 := (h1.bel.cell (p := ⟨b, o, none⟩) hb).trans e0
 have hx0H := Lib.hid hx0
 have hGs : Hid (∀ G, (if x0 / 16 ≠ 6 then bad6 51 0 else if x4 * 256 + x5 < (N : Int) - 40 ∨ (false = true ∧ (N : Int) - 40 < x4 * 256 + x5) then bad6 52 4 else go6 l 9 40 x6 []) = G → g6 false l = G) := Lib.hid (by
  intro G hG
  rw [← hG, g6, if_neg (by rw [hlH.out]; exact h40), said6, hx0, hx4, hx5, hx6, hlH.out])
 by_cases hv : x0 / 16 = 6
 case neg =>
  have hGe : Hid (g6 false l = bad6 51 0) := Lib.hid (hGs.out _ (if_pos hv))
  have hv : (x0 / 16 != 6) = true := by simpa using hv
  have hb := h1.bel
  clear hGs hx0 hx1 hx2 hx3 hx4 hx5 hx6 hx7 h1 y1
  go_wp2
  have hV := hV.below hb (show w.heap.size < w.heap.size + 1 + 1 + 1 by omega)
  have hA := hA.below hb (show w.heap.size + 1 < w.heap.size + 1 + 1 + 1 by omega)
  have hE := hE.below hb (show w.heap.size + 1 + 1 < w.heap.size + 1 + 1 + 1 by omega)
  have hb2 := hBl.trans (Below.mono hb (show w.heap.size ≤ w.heap.size + 1 + 1 + 1 by omega))
  refine leaves_cons (f := 100) (args := #[.pointer (some ⟨w.heap.size, 0, none⟩), .pointer (some ⟨w.heap.size + 1, 0, none⟩), .pointer (some ⟨w.heap.size + 1 + 1, 0, none⟩)]) (by simp) (by simp [go_sem]) ?_
  refine (catch6_fault _ _ _ 0 51 [] _ _ _ _ hV rfl hA hE (by omega) (by omega) (by omega)).mono ?_
  rintro e u' w'' ⟨rfl, rfl, h1, h2, h3, hall⟩
  have hgot : got6 false l = zero6 := by unfold got6; rw [hGe.out]; exact if_neg (by simp [bad6])
  rw [hgot, hGe.out]
  exact told6_mk (p := pZ6) Try.results78 rfl rfl rfl h1 h2 h3 (own6_zero _ _) rfl rfl (hb2.trans (hall _ (by omega) (by omega) (by omega)))
 case pos =>
 have hv2 : (x0 / 16 != 6) = false := by simpa using hv
 obtain ⟨SD, hSD⟩ : ∃ SD, x4 * 256 + x5 = SD := ⟨_, rfl⟩
 have hor : bits .or .i64 (x4 * 256) x5 = SD := (or8_i64' g4 g5).trans hSD
 have hSDb : 0 ≤ SD ∧ SD ≤ 65535 := by omega
 have hGs : Hid (∀ G, (if SD < (N : Int) - 40 ∨ (false = true ∧ (N : Int) - 40 < SD) then bad6 52 4 else go6 l 9 40 x6 []) = G → g6 false l = G) := Lib.hid (fun G hG => hGs.out G (by rw [if_neg (Decidable.not_not.2 hv), hSD]; exact hG))
 have hGxs := Lib.hid (show l.getD 0 0 % 16 * 16 + l.getD 1 0 / 16 = x0 % 16 * 16 + x1 / 16 ∧ l.getD 1 0 % 16 * 65536 + l.getD 2 0 * 256 + l.getD 3 0 = x1 % 16 * 65536 + x2 * 256 + x3 ∧ l.getD 7 0 = x7 from ⟨by rw [hx0, hx1], by rw [hx1, hx2, hx3], hx7⟩)
 have hxk : Hid (∀ j, l.getD j 0 = l.getD j 0) := Lib.hid (fun _ => rfl)
 clear hx0 hx1 hx2 hx3 hx4 hx5 hx6 hx7 hSD hget hxk hx0H
 go_wp2
 refine wp_region_held_drew (S := fun W => Below (w.heap.size + 1 + 1 + 1) W0 W) (by kernel_rfl) (h1.bel.trans (below_drew _ _)) (fun hS => ?_)
 refine tk (i := 0) (.slice (some ⟨b, o, none⟩) 40 c1) hS rfl (by kernel_rfl) (by kernel_rfl) (by kernel_rfl) (by exact hqp6 Try.results78 _ (by decide) _) (by kernel_rfl) (by intro _ _; exact rfl) ?_
 simp only [lay]
 refine tk (i := 1) (.pointer (some ⟨b, o + 4, none⟩)) hS rfl (by kernel_rfl) (by kernel_rfl) (by kernel_rfl) (by exact hqp6 Try.results78 _ (by decide) _) (by kernel_rfl) (by intro _ _; exact ex_index (by exact rfl) Try.underlying26 (by kernel_rfl) (by exact rfl) (by exact rfl) ((by decide))) ?_
 simp only [lay]
 refine tk (i := 2) (.int .u8 x4) hS rfl (by kernel_rfl) (by kernel_rfl) (by kernel_rfl) (by exact hqp6 Try.results78 _ (by decide) _) (by kernel_rfl) (by intro _ h; exact ex_cell (by exact rfl) Try.underlying5 rfl (by exact rfl) ((Below.cell h (p := ⟨b, o + 4, none⟩) hb).trans e4)) ?_
 simp only [lay]
 refine tk (i := 3) (.int .i64 x4) hS rfl (by kernel_rfl) (by kernel_rfl) (by kernel_rfl) (by exact hqp6 Try.results78 _ (by decide) _) (by kernel_rfl) (by intro _ h; exact ex_conv (by exact rfl) (by exact rfl) (conv_i64 _ _ _ _ rfl rfl (by omega) _)) ?_
 simp only [lay]
 refine tk (i := 4) (.int .i64 (x4 * 256)) hS rfl (by kernel_rfl) (by kernel_rfl) (by kernel_rfl) (by exact hqp6 Try.results78 _ (by decide) _) (by kernel_rfl) (by intro _ _; exact ex_bin (by exact rfl) (by exact rfl) (by exact rfl) (by decide) (b_shl64 _ 8 _ (by exact rfl) (by omega) (by decide) _)) ?_
 simp only [lay]
 refine tk (i := 5) (.slice (some ⟨b, o, none⟩) 40 c1) hS rfl (by kernel_rfl) (by kernel_rfl) (by kernel_rfl) (by exact hqp6 Try.results78 _ (by decide) _) (by kernel_rfl) (by intro _ _; exact rfl) ?_
 simp only [lay]
 refine tk (i := 6) (.pointer (some ⟨b, o + 5, none⟩)) hS rfl (by kernel_rfl) (by kernel_rfl) (by kernel_rfl) (by exact hqp6 Try.results78 _ (by decide) _) (by kernel_rfl) (by intro _ _; exact ex_index (by exact rfl) Try.underlying26 (by kernel_rfl) (by exact rfl) (by exact rfl) ((by decide))) ?_
 simp only [lay]
 refine tk (i := 7) (.int .u8 x5) hS rfl (by kernel_rfl) (by kernel_rfl) (by kernel_rfl) (by exact hqp6 Try.results78 _ (by decide) _) (by kernel_rfl) (by intro _ h; exact ex_cell (by exact rfl) Try.underlying5 rfl (by exact rfl) ((Below.cell h (p := ⟨b, o + 5, none⟩) hb).trans e5)) ?_
 simp only [lay]
 refine tk (i := 8) (.int .i64 x5) hS rfl (by kernel_rfl) (by kernel_rfl) (by kernel_rfl) (by exact hqp6 Try.results78 _ (by decide) _) (by kernel_rfl) (by intro _ h; exact ex_conv (by exact rfl) (by exact rfl) (conv_i64 _ _ _ _ rfl rfl (by omega) _)) ?_
 simp only [lay]
 refine tk (i := 9) (.int .i64 SD) hS rfl (by kernel_rfl) (by kernel_rfl) (by kernel_rfl) (by exact hqp6 Try.results78 _ (by decide) _) (by kernel_rfl) (by intro _ _; exact ex_bin (by exact rfl) (by exact rfl) (by exact rfl) (by decide) (b_or64 _ _ hor _)) ?_
 simp only [lay]
 refine tk (i := 10) (.int .i64 SD) hS rfl (by kernel_rfl) (by kernel_rfl) (by kernel_rfl) (by exact hqp6 Try.results78 _ (by decide) _) (by kernel_rfl) (by intro _ _; exact rfl) ?_
 simp only [lay]
 refine wpAnyH_done (by kernel_rfl) ?_ _
 by_cases hlong : SD < (N : Int) - 40
 case pos =>
  have hGe : Hid (g6 false l = bad6 52 4) := Lib.hid (hGs.out _ (if_pos (.inl hlong)))
  clear hGs h1 y1
  have hb := hS
  go_wp2
  have hV := hV.below hb (show w.heap.size < w.heap.size + 1 + 1 + 1 by omega)
  have hA := hA.below hb (show w.heap.size + 1 < w.heap.size + 1 + 1 + 1 by omega)
  have hE := hE.below hb (show w.heap.size + 1 + 1 < w.heap.size + 1 + 1 + 1 by omega)
  have hb2 := hBl.trans (Below.mono hb (show w.heap.size ≤ w.heap.size + 1 + 1 + 1 by omega))
  refine leaves_cons (f := 100) (args := #[.pointer (some ⟨w.heap.size, 0, none⟩), .pointer (some ⟨w.heap.size + 1, 0, none⟩), .pointer (some ⟨w.heap.size + 1 + 1, 0, none⟩)]) (by simp) (by simp [go_sem]) ?_
  refine (catch6_fault _ _ _ 4 52 [] _ _ _ _ hV rfl hA hE (by omega) (by omega) (by omega)).mono ?_
  rintro e u' w'' ⟨rfl, rfl, h1, h2, h3, hall⟩
  have hgot : got6 false l = zero6 := by unfold got6; rw [hGe.out]; exact if_neg (by simp [bad6])
  rw [hgot, hGe.out]
  exact told6_mk (p := pZ6) Try.results78 rfl rfl rfl h1 h2 h3 (own6_zero _ _) rfl rfl (hb2.trans (hall _ (by omega) (by omega) (by omega)))
 obtain ⟨G, hG⟩ : ∃ G, go6 l 9 40 x6 [] = G := ⟨_, rfl⟩
 have hGd : Hid (g6 false l = G) := Lib.hid (hGs.out _ (by rw [if_neg (by rintro (h | h); exact hlong h; exact Bool.false_ne_true h.1)]; exact hG))
 have hG0 := Lib.hid hG
 have hN65 : N ≤ 65575 := by omega
 obtain ⟨CL, hCL⟩ : ∃ CL, x0 % 16 * 16 + x1 / 16 = CL := ⟨_, rfl⟩
 obtain ⟨LB, hLB⟩ : ∃ LB, x1 % 16 * 65536 + x2 * 256 + x3 = LB := ⟨_, rfl⟩
 have or1 : bits .or .u8 (x0 * 16 % 256) (x1 / 16) = CL := (or_u8 4 (by omega) (by omega) (by omega) (by omega) (by omega) (by omega)).trans (by omega)
 have and1 : bits .and .u8 x1 15 = x1 % 16 := and_u8 4 15 rfl (by decide) (by omega) (by omega)
 have or2 : bits .or .u32 (x1 % 16 * 65536) (x2 * 256) = x1 % 16 * 65536 + x2 * 256 := or_u32 16 (by omega) (by omega) (by omega) (by omega) (by omega) (by omega)
 have or3 : bits .or .u32 (x1 % 16 * 65536 + x2 * 256) x3 = LB := (or_u32 8 (by omega) (by omega) (by omega) (by omega) (by omega) (by omega)).trans hLB
 rw [hCL, hLB] at hGxs
 obtain ⟨A8, c8, r8, y8⟩ := y1.from_ (P := Try.prog) 26 Try.underlying26 (by kernel_rfl) (k := 8) (by decide)
 obtain ⟨A24, c24, r24, y24⟩ := y1.from_ (P := Try.prog) 26 Try.underlying26 (by kernel_rfl) (k := 24) (by decide)
 obtain ⟨L8, hL8⟩ : ∃ L, ((l.drop 0).take 40).drop 8 = L := ⟨_, rfl⟩
 obtain ⟨L24, hL24⟩ : ∃ L, ((l.drop 0).take 40).drop 24 = L := ⟨_, rfl⟩
 rw [hL8] at y8
 rw [hL24] at y24
 obtain ⟨SRC, hSRC⟩ : ∃ S, L8.take 16 = S := ⟨_, rfl⟩
 obtain ⟨DST, hDST⟩ : ∃ S, L24.take 16 = S := ⟨_, rfl⟩
 have hSL : SRC.length = 16 := by rw [← hSRC, List.length_take, y8.len]; rfl
 have hDL : DST.length = 16 := by rw [← hDST, List.length_take, y24.len]; rfl
 have hSs : (l.drop 8).take 16 = SRC := by rw [← hSRC, ← hL8, List.drop_take, List.take_take, List.drop_zero]; rfl
 have hDs : (l.drop 24).take 16 = DST := by rw [← hDST, ← hL24, List.drop_take, List.take_take, List.drop_zero]; rfl
 have hfl0 := Lib.hid (show CL = l.getD 0 0 % 16 * 16 + l.getD 1 0 / 16 ∧ LB = l.getD 1 0 % 16 * 65536 + l.getD 2 0 * 256 + l.getD 3 0 ∧ x7 = l.getD 7 0 ∧ SRC = (l.drop 8).take 16 ∧ DST = (l.drop 24).take 16 from ⟨hGxs.out.1.symm, hGxs.out.2.1.symm, hGxs.out.2.2.symm, hSs.symm, hDs.symm⟩)
 have hZ0 := h1.has.drew
 clear hCL hLB hSs hDs hL8 hL24 y1 hGs hG h1 gr
 go_wp2
 obtain ⟨g, hg⟩ : ∃ g, w.heap.size + 1 + 1 + 1 = g := ⟨_, rfl⟩
 have hgH := Lib.hid hg
 rw [hg] at hS hy hb hZ0 y8 y24 hsz ⊢
 clear hg
 refine wp_region_held_drew (S := fun W => Below g W0 W) (by kernel_rfl) (hS.trans (below_drew _ _)) (fun hS => ?_)
 have hZ := hZ0.drew
 clear hZ0
 generalize w1.drew.drew = W3 at hS hZ ⊢
 refine tk (i := 0) (.pointer (some ⟨g, 0, none⟩)) hS rfl (by kernel_rfl) (by kernel_rfl) (by kernel_rfl) (by exact hqp6 Try.results78 _ (by decide) _) (by kernel_rfl) (by intro _ _; exact rfl) ?_
 simp only [lay]
 refine tk (i := 1) (.slice (some ⟨b, o, none⟩) 40 c1) hS rfl (by kernel_rfl) (by kernel_rfl) (by kernel_rfl) (by exact hqp6 Try.results78 _ (by decide) _) (by kernel_rfl) (by intro _ _; exact rfl) ?_
 simp only [lay]
 refine tk (i := 2) (.pointer (some ⟨b, o + 0, none⟩)) hS rfl (by kernel_rfl) (by kernel_rfl) (by kernel_rfl) (by exact hqp6 Try.results78 _ (by decide) _) (by kernel_rfl) (by intro _ _; exact ex_index (by exact rfl) Try.underlying26 (by kernel_rfl) (by exact rfl) (by exact rfl) ((by decide))) ?_
 simp only [lay]
 refine tk (i := 3) (.int .u8 x0) hS rfl (by kernel_rfl) (by kernel_rfl) (by kernel_rfl) (by exact hqp6 Try.results78 _ (by decide) _) (by kernel_rfl) (by intro _ h; exact ex_cell (by exact rfl) Try.underlying5 rfl (by exact rfl) ((Below.cell h (p := ⟨b, o + 0, none⟩) hb).trans e0)) ?_
 simp only [lay]
 refine tk (i := 4) (.int .u8 (x0 * 16 % 256)) hS rfl (by kernel_rfl) (by kernel_rfl) (by kernel_rfl) (by exact hqp6 Try.results78 _ (by decide) _) (by kernel_rfl) (by intro _ _; exact ex_bin (by exact rfl) (by exact rfl) (by exact rfl) (by decide) (b_shl4 _ _ rfl _)) ?_
 simp only [lay]
 refine tk (i := 5) (.slice (some ⟨b, o, none⟩) 40 c1) hS rfl (by kernel_rfl) (by kernel_rfl) (by kernel_rfl) (by exact hqp6 Try.results78 _ (by decide) _) (by kernel_rfl) (by intro _ _; exact rfl) ?_
 simp only [lay]
 refine tk (i := 6) (.pointer (some ⟨b, o + 1, none⟩)) hS rfl (by kernel_rfl) (by kernel_rfl) (by kernel_rfl) (by exact hqp6 Try.results78 _ (by decide) _) (by kernel_rfl) (by intro _ _; exact ex_index (by exact rfl) Try.underlying26 (by kernel_rfl) (by exact rfl) (by exact rfl) ((by decide))) ?_
 simp only [lay]
 refine tk (i := 7) (.int .u8 x1) hS rfl (by kernel_rfl) (by kernel_rfl) (by kernel_rfl) (by exact hqp6 Try.results78 _ (by decide) _) (by kernel_rfl) (by intro _ h; exact ex_cell (by exact rfl) Try.underlying5 rfl (by exact rfl) ((Below.cell h (p := ⟨b, o + 1, none⟩) hb).trans e1)) ?_
 simp only [lay]
 refine tk (i := 8) (.int .u8 (x1 / 16)) hS rfl (by kernel_rfl) (by kernel_rfl) (by kernel_rfl) (by exact hqp6 Try.results78 _ (by decide) _) (by kernel_rfl) (by intro _ _; exact ex_bin (by exact rfl) (by exact rfl) (by exact rfl) (by decide) (b_shr .u8 _ 4 _ rfl (by decide) _)) ?_
 simp only [lay]
 refine tk (i := 9) (.int .u8 CL) hS rfl (by kernel_rfl) (by kernel_rfl) (by kernel_rfl) (by exact hqp6 Try.results78 _ (by decide) _) (by kernel_rfl) (by intro _ _; exact ex_bin (by exact rfl) (by exact rfl) (by exact rfl) (by decide) (b_or8 _ _ or1 _)) ?_
 simp only [lay]
 refine tk (i := 10) (.slice (some ⟨b, o, none⟩) 40 c1) hS rfl (by kernel_rfl) (by kernel_rfl) (by kernel_rfl) (by exact hqp6 Try.results78 _ (by decide) _) (by kernel_rfl) (by intro _ _; exact rfl) ?_
 simp only [lay]
 refine tk (i := 11) (.pointer (some ⟨b, o + 1, none⟩)) hS rfl (by kernel_rfl) (by kernel_rfl) (by kernel_rfl) (by exact hqp6 Try.results78 _ (by decide) _) (by kernel_rfl) (by intro _ _; exact ex_index (by exact rfl) Try.underlying26 (by kernel_rfl) (by exact rfl) (by exact rfl) ((by decide))) ?_
 simp only [lay]
 refine tk (i := 12) (.int .u8 x1) hS rfl (by kernel_rfl) (by kernel_rfl) (by kernel_rfl) (by exact hqp6 Try.results78 _ (by decide) _) (by kernel_rfl) (by intro _ h; exact ex_cell (by exact rfl) Try.underlying5 rfl (by exact rfl) ((Below.cell h (p := ⟨b, o + 1, none⟩) hb).trans e1)) ?_
 simp only [lay]
 refine tk (i := 13) (.int .u8 (x1 % 16)) hS rfl (by kernel_rfl) (by kernel_rfl) (by kernel_rfl) (by exact hqp6 Try.results78 _ (by decide) _) (by kernel_rfl) (by intro _ _; exact ex_bin (by exact rfl) (by exact rfl) (by exact rfl) (by decide) (b_and_u8 _ _ _ _ and1 _)) ?_
 simp only [lay]
 refine tk (i := 14) (.int .u32 (x1 % 16)) hS rfl (by kernel_rfl) (by kernel_rfl) (by kernel_rfl) (by exact hqp6 Try.results78 _ (by decide) _) (by kernel_rfl) (by intro _ h; exact ex_conv (by exact rfl) (by exact rfl) (conv_u32 _ _ _ _ rfl rfl (by omega) (by omega) _)) ?_
 simp only [lay]
 refine tk (i := 15) (.int .u32 (x1 % 16 * 65536)) hS rfl (by kernel_rfl) (by kernel_rfl) (by kernel_rfl) (by exact hqp6 Try.results78 _ (by decide) _) (by kernel_rfl) (by intro _ _; exact ex_bin (by exact rfl) (by exact rfl) (by exact rfl) (by decide) (b_shl32 _ 16 _ (by exact rfl) (by omega) (by decide) _)) ?_
 simp only [lay]
 refine tk (i := 16) (.slice (some ⟨b, o, none⟩) 40 c1) hS rfl (by kernel_rfl) (by kernel_rfl) (by kernel_rfl) (by exact hqp6 Try.results78 _ (by decide) _) (by kernel_rfl) (by intro _ _; exact rfl) ?_
 simp only [lay]
 refine tk (i := 17) (.pointer (some ⟨b, o + 2, none⟩)) hS rfl (by kernel_rfl) (by kernel_rfl) (by kernel_rfl) (by exact hqp6 Try.results78 _ (by decide) _) (by kernel_rfl) (by intro _ _; exact ex_index (by exact rfl) Try.underlying26 (by kernel_rfl) (by exact rfl) (by exact rfl) ((by decide))) ?_
 simp only [lay]
 refine tk (i := 18) (.int .u8 x2) hS rfl (by kernel_rfl) (by kernel_rfl) (by kernel_rfl) (by exact hqp6 Try.results78 _ (by decide) _) (by kernel_rfl) (by intro _ h; exact ex_cell (by exact rfl) Try.underlying5 rfl (by exact rfl) ((Below.cell h (p := ⟨b, o + 2, none⟩) hb).trans e2)) ?_
 simp only [lay]
 refine tk (i := 19) (.int .u32 x2) hS rfl (by kernel_rfl) (by kernel_rfl) (by kernel_rfl) (by exact hqp6 Try.results78 _ (by decide) _) (by kernel_rfl) (by intro _ h; exact ex_conv (by exact rfl) (by exact rfl) (conv_u32 _ _ _ _ rfl rfl (by omega) (by omega) _)) ?_
 simp only [lay]
 refine tk (i := 20) (.int .u32 (x2 * 256)) hS rfl (by kernel_rfl) (by kernel_rfl) (by kernel_rfl) (by exact hqp6 Try.results78 _ (by decide) _) (by kernel_rfl) (by intro _ _; exact ex_bin (by exact rfl) (by exact rfl) (by exact rfl) (by decide) (b_shl32 _ 8 _ (by exact rfl) (by omega) (by decide) _)) ?_
 simp only [lay]
 refine tk (i := 21) (.int .u32 (x1 % 16 * 65536 + x2 * 256)) hS rfl (by kernel_rfl) (by kernel_rfl) (by kernel_rfl) (by exact hqp6 Try.results78 _ (by decide) _) (by kernel_rfl) (by intro _ _; exact ex_bin (by exact rfl) (by exact rfl) (by exact rfl) (by decide) (b_or32 _ _ or2 _)) ?_
 simp only [lay]
 refine tk (i := 22) (.slice (some ⟨b, o, none⟩) 40 c1) hS rfl (by kernel_rfl) (by kernel_rfl) (by kernel_rfl) (by exact hqp6 Try.results78 _ (by decide) _) (by kernel_rfl) (by intro _ _; exact rfl) ?_
 simp only [lay]
 refine tk (i := 23) (.pointer (some ⟨b, o + 3, none⟩)) hS rfl (by kernel_rfl) (by kernel_rfl) (by kernel_rfl) (by exact hqp6 Try.results78 _ (by decide) _) (by kernel_rfl) (by intro _ _; exact ex_index (by exact rfl) Try.underlying26 (by kernel_rfl) (by exact rfl) (by exact rfl) ((by decide))) ?_
 simp only [lay]
 refine tk (i := 24) (.int .u8 x3) hS rfl (by kernel_rfl) (by kernel_rfl) (by kernel_rfl) (by exact hqp6 Try.results78 _ (by decide) _) (by kernel_rfl) (by intro _ h; exact ex_cell (by exact rfl) Try.underlying5 rfl (by exact rfl) ((Below.cell h (p := ⟨b, o + 3, none⟩) hb).trans e3)) ?_
 simp only [lay]
 refine tk (i := 25) (.int .u32 x3) hS rfl (by kernel_rfl) (by kernel_rfl) (by kernel_rfl) (by exact hqp6 Try.results78 _ (by decide) _) (by kernel_rfl) (by intro _ h; exact ex_conv (by exact rfl) (by exact rfl) (conv_u32 _ _ _ _ rfl rfl (by omega) (by omega) _)) ?_
 simp only [lay]
 refine tk (i := 26) (.int .u32 LB) hS rfl (by kernel_rfl) (by kernel_rfl) (by kernel_rfl) (by exact hqp6 Try.results78 _ (by decide) _) (by kernel_rfl) (by intro _ _; exact ex_bin (by exact rfl) (by exact rfl) (by exact rfl) (by decide) (b_or32 _ _ or3 _)) ?_
 simp only [lay]
 refine tk (i := 27) (.slice (some ⟨b, o, none⟩) 40 c1) hS rfl (by kernel_rfl) (by kernel_rfl) (by kernel_rfl) (by exact hqp6 Try.results78 _ (by decide) _) (by kernel_rfl) (by intro _ _; exact rfl) ?_
 simp only [lay]
 refine tk (i := 28) (.pointer (some ⟨b, o + 7, none⟩)) hS rfl (by kernel_rfl) (by kernel_rfl) (by kernel_rfl) (by exact hqp6 Try.results78 _ (by decide) _) (by kernel_rfl) (by intro _ _; exact ex_index (by exact rfl) Try.underlying26 (by kernel_rfl) (by exact rfl) (by exact rfl) ((by decide))) ?_
 simp only [lay]
 refine tk (i := 29) (.int .u8 x7) hS rfl (by kernel_rfl) (by kernel_rfl) (by kernel_rfl) (by exact hqp6 Try.results78 _ (by decide) _) (by kernel_rfl) (by intro _ h; exact ex_cell (by exact rfl) Try.underlying5 rfl (by exact rfl) ((Below.cell h (p := ⟨b, o + 7, none⟩) hb).trans e7)) ?_
 simp only [lay]
 refine tk (i := 30) (.agg #[.int .u8 CL, .int .u32 LB, .int .u8 x7, .int .u8 0, .int .u8 0, .int .u8 0, .int .u8 0, .int .u8 0, .int .u8 0, .int .u8 0, .int .u8 0, .int .u8 0, .int .u8 0, .int .u8 0, .int .u8 0, .int .u8 0, .int .u8 0, .int .u8 0, .int .u8 0, .int .u8 0, .int .u8 0, .int .u8 0, .int .u8 0, .int .u8 0, .int .u8 0, .int .u8 0, .int .u8 0, .int .u8 0, .int .u8 0, .int .u8 0, .int .u8 0, .int .u8 0, .int .u8 0, .int .u8 0, .int .u8 0, .slice none 0 0, .bool false, .int .u32 0, .int .i64 0, .bool false, .int .u8 0, .slice none 0 0]) hS rfl (by kernel_rfl) (by kernel_rfl) (by kernel_rfl) (by exact hqp6 Try.results78 _ (by decide) _) (by kernel_rfl) (by intro _ _; go_simp) ?_
 simp only [lay]
 refine tk (i := 31) (.pointer (some ⟨g, 0, none⟩)) hS rfl (by kernel_rfl) (by kernel_rfl) (by kernel_rfl) (by exact hqp6 Try.results78 _ (by decide) _) (by kernel_rfl) (by intro _ _; exact ex_nilc (by exact rfl) (by exact rfl)) ?_
 simp only [lay]
 refine tk (i := 32) (.pointer (some ⟨g, 2, none⟩)) hS rfl (by kernel_rfl) (by kernel_rfl) (by kernel_rfl) (by exact hqp6 Try.results78 _ (by decide) _) (by kernel_rfl) (by intro _ _; exact ex_field 2 41 (by exact rfl) Try.underlying147 (by exact rfl) rfl (by kernel_rfl) (by exact rfl)) ?_
 simp only [lay]
 refine tk_storeO (i := 33) (cells := D6.cells { zero6 with cls := CL, lab := LB, hop := x7 } pZ6) (new := rcells A N c ((0 + 40 : Nat) : Int) { zero6 with cls := CL, lab := LB, hop := x7 } pZ6) (by kernel_rfl) rfl (by kernel_rfl) rfl rfl rfl hZ v6_info (show 2 + 42 ≤ 44 by decide) (D6.cells_one _ _) (rc_v A N c _ zero6 _ pZ6 pZ6) (below_setRow hS (Nat.le_refl g) _) ?_
 simp only [lay]
 refine wpAnyH_done (by kernel_rfl) ?_ _
 have hZ := hZ.setRow_same (cs' := rcells A N c ((0 + 40 : Nat) : Int) { zero6 with cls := CL, lab := LB, hop := x7 } pZ6)
 have hS := below_setRow hS (Nat.le_refl g) (rcells A N c ((0 + 40 : Nat) : Int) { zero6 with cls := CL, lab := LB, hop := x7 } pZ6)
 generalize W3.setRow g (rcells A N c ((0 + 40 : Nat) : Int) { zero6 with cls := CL, lab := LB, hop := x7 } pZ6) = W4' at hS hZ ⊢
 go_wp2
 refine wp_region_held_drew (S := fun W => Below g W0 W) (by kernel_rfl) (hS.trans (below_drew _ _)) (fun hS => ?_)
 have hZ := hZ.drew
 generalize W4'.drew = W5 at hS hZ ⊢
 refine tk (i := 0) (.pointer (some ⟨g, 0, none⟩)) hS rfl (by kernel_rfl) (by kernel_rfl) (by kernel_rfl) (by exact hqp6 Try.results78 _ (by decide) _) (by kernel_rfl) (by intro _ _; exact rfl) ?_
 simp only [lay]
 refine tk (i := 1) (.pointer (some ⟨g, 0, none⟩)) hS rfl (by kernel_rfl) (by kernel_rfl) (by kernel_rfl) (by exact hqp6 Try.results78 _ (by decide) _) (by kernel_rfl) (by intro _ _; exact ex_nilc (by exact rfl) (by exact rfl)) ?_
 simp only [lay]
 refine tk (i := 2) (.pointer (some ⟨g, 2, none⟩)) hS rfl (by kernel_rfl) (by kernel_rfl) (by kernel_rfl) (by exact hqp6 Try.results78 _ (by decide) _) (by kernel_rfl) (by intro _ _; exact ex_field 2 41 (by exact rfl) Try.underlying147 (by exact rfl) rfl (by kernel_rfl) (by exact rfl)) ?_
 simp only [lay]
 refine tk (i := 3) (.pointer (some ⟨g, 5, none⟩)) hS rfl (by kernel_rfl) (by kernel_rfl) (by kernel_rfl) (by exact hqp6 Try.results78 _ (by decide) _) (by kernel_rfl) (by intro _ _; exact ex_fieldO 3 15 (by exact rfl) Try.underlying28 (by exact rfl) rfl (by kernel_rfl) (by exact rfl)) ?_
 simp only [lay]
 refine tk (i := 4) (.slice (some ⟨g, 5, none⟩) 16 16) hS rfl (by kernel_rfl) (by kernel_rfl) (by kernel_rfl) (by exact hqp6 Try.results78 _ (by decide) _) (by kernel_rfl) (by intro _ _; exact ex_arr (by exact rfl) Try.underlying24 (by kernel_rfl) (by exact rfl)) ?_
 simp only [lay]
 refine tk (i := 5) (.slice (some ⟨b, o, none⟩) 40 c1) hS rfl (by kernel_rfl) (by kernel_rfl) (by kernel_rfl) (by exact hqp6 Try.results78 _ (by decide) _) (by kernel_rfl) (by intro _ _; exact rfl) ?_
 simp only [lay]
 refine tk (i := 6) (.slice A8 32 c8) hS rfl (by kernel_rfl) (by kernel_rfl) (by kernel_rfl) (by exact hqp6 Try.results78 _ (by decide) _) (by kernel_rfl) (by intro _ _; exact ex_slice (by exact rfl) (by exact rfl) (r8 _)) ?_
 simp only [lay]
 refine tk_copyM (i := 7) (new := rcells A N c ((0 + 40 : Nat) : Int) { { zero6 with cls := CL, lab := LB, hop := x7 } with src := SRC } pZ6) _ _ 26 26 (by kernel_rfl) rfl (by kernel_rfl) rfl Try.underlying26 (by kernel_rfl) rfl rfl (y8.below hS (Nat.le_refl _)) (by decide) (by decide) hZ (show 5 + 16 ≤ 44 by decide) (by rw [hSRC]; exact rc_src A N c _ { zero6 with cls := CL, lab := LB, hop := x7 } pZ6 hSL) (below_setRow hS (Nat.le_refl g) _) ?_
 simp only [lay]
 refine wpAnyH_done (by kernel_rfl) ?_ _
 have hZ := hZ.setRow_same (cs' := rcells A N c ((0 + 40 : Nat) : Int) { { zero6 with cls := CL, lab := LB, hop := x7 } with src := SRC } pZ6)
 have hS := below_setRow hS (Nat.le_refl g) (rcells A N c ((0 + 40 : Nat) : Int) { { zero6 with cls := CL, lab := LB, hop := x7 } with src := SRC } pZ6)
 generalize W5.setRow g (rcells A N c ((0 + 40 : Nat) : Int) { { zero6 with cls := CL, lab := LB, hop := x7 } with src := SRC } pZ6) = W6' at hS hZ ⊢
 go_wp2
 refine wp_region_held_drew (S := fun W => Below g W0 W) (by kernel_rfl) (hS.trans (below_drew _ _)) (fun hS => ?_)
 have hZ := hZ.drew
 generalize W6'.drew = W7 at hS hZ ⊢
 refine tk (i := 0) (.pointer (some ⟨g, 0, none⟩)) hS rfl (by kernel_rfl) (by kernel_rfl) (by kernel_rfl) (by exact hqp6 Try.results78 _ (by decide) _) (by kernel_rfl) (by intro _ _; exact rfl) ?_
 simp only [lay]
 refine tk (i := 1) (.pointer (some ⟨g, 0, none⟩)) hS rfl (by kernel_rfl) (by kernel_rfl) (by kernel_rfl) (by exact hqp6 Try.results78 _ (by decide) _) (by kernel_rfl) (by intro _ _; exact ex_nilc (by exact rfl) (by exact rfl)) ?_
 simp only [lay]
 refine tk (i := 2) (.pointer (some ⟨g, 2, none⟩)) hS rfl (by kernel_rfl) (by kernel_rfl) (by kernel_rfl) (by exact hqp6 Try.results78 _ (by decide) _) (by kernel_rfl) (by intro _ _; exact ex_field 2 41 (by exact rfl) Try.underlying147 (by exact rfl) rfl (by kernel_rfl) (by exact rfl)) ?_
 simp only [lay]
 refine tk (i := 3) (.pointer (some ⟨g, 21, none⟩)) hS rfl (by kernel_rfl) (by kernel_rfl) (by kernel_rfl) (by exact hqp6 Try.results78 _ (by decide) _) (by kernel_rfl) (by intro _ _; exact ex_fieldO 19 15 (by exact rfl) Try.underlying28 (by exact rfl) rfl (by kernel_rfl) (by exact rfl)) ?_
 simp only [lay]
 refine tk (i := 4) (.slice (some ⟨g, 21, none⟩) 16 16) hS rfl (by kernel_rfl) (by kernel_rfl) (by kernel_rfl) (by exact hqp6 Try.results78 _ (by decide) _) (by kernel_rfl) (by intro _ _; exact ex_arr (by exact rfl) Try.underlying24 (by kernel_rfl) (by exact rfl)) ?_
 simp only [lay]
 refine tk (i := 5) (.slice (some ⟨b, o, none⟩) 40 c1) hS rfl (by kernel_rfl) (by kernel_rfl) (by kernel_rfl) (by exact hqp6 Try.results78 _ (by decide) _) (by kernel_rfl) (by intro _ _; exact rfl) ?_
 simp only [lay]
 refine tk (i := 6) (.slice A24 16 c24) hS rfl (by kernel_rfl) (by kernel_rfl) (by kernel_rfl) (by exact hqp6 Try.results78 _ (by decide) _) (by kernel_rfl) (by intro _ _; exact ex_slice (by exact rfl) (by exact rfl) (r24 _)) ?_
 simp only [lay]
 refine tk_copyM (i := 7) (new := rcells A N c ((0 + 40 : Nat) : Int) { { { zero6 with cls := CL, lab := LB, hop := x7 } with src := SRC } with dst := DST } pZ6) _ _ 26 26 (by kernel_rfl) rfl (by kernel_rfl) rfl Try.underlying26 (by kernel_rfl) rfl rfl (y24.below hS (Nat.le_refl _)) (by decide) (by decide) hZ (show 21 + 16 ≤ 44 by decide) (by rw [hDST]; exact rc_dst A N c _ { { zero6 with cls := CL, lab := LB, hop := x7 } with src := SRC } pZ6 hDL) (below_setRow hS (Nat.le_refl g) _) ?_
 simp only [lay]
 refine wpAnyH_done (by kernel_rfl) ?_ _
 have hZ := hZ.setRow_same (cs' := rcells A N c ((0 + 40 : Nat) : Int) { { { zero6 with cls := CL, lab := LB, hop := x7 } with src := SRC } with dst := DST } pZ6)
 have hS := below_setRow hS (Nat.le_refl g) (rcells A N c ((0 + 40 : Nat) : Int) { { { zero6 with cls := CL, lab := LB, hop := x7 } with src := SRC } with dst := DST } pZ6)
 generalize W7.setRow g (rcells A N c ((0 + 40 : Nat) : Int) { { { zero6 with cls := CL, lab := LB, hop := x7 } with src := SRC } with dst := DST } pZ6) = W8' at hS hZ ⊢
 have d6 := (hS.cell (p := ⟨b, o + 6, none⟩) hb).trans e6
 have h1 : RS g g W0 W8' A N c (0 + 40) { { { zero6 with cls := CL, lab := LB, hop := x7 } with src := SRC } with dst := DST } pZ6 := ⟨hZ, OwnK.nil _ _ _, rfl, hS⟩
 have hstart : Hid (go6 l 9 (0 + 40) x6 [] = G) := hG0
 clear hS hZ y8 y24 r8 r24 hSRC hDST e0 e1 e2 e3 e4 e5 e6 e7 d0 hG0 hSL hDL or1 or2 or3 and1 hor
 go_wp2
 go_loopw [11] (fun kd wr => ∃ (n k : Nat) (kind : Int) (D : D6) (p : W6), kd = .int .u8 kind ∧ RS g g W0 wr A N c k D p ∧ (0 ≤ kind ∧ kind ≤ 255) ∧ k ≤ N ∧ D.hs.length ≤ 8 ∧ Hid (D.cls = CL ∧ D.lab = LB ∧ D.hop = x7 ∧ D.src = SRC ∧ D.dst = DST) ∧ Hid ((D.frag = false ∧ D.id = 0 ∧ D.off = 0 ∧ D.more = false ∧ n + D.hs.length = 9 ∧ go6 l n k kind D.hs = G) ∨ (D.frag = true ∧ G = ⟨0, 0, D.hs, true, D.id, D.off, D.more, kind, k⟩))) (fun _ wr => N + 1 - atOf wr g)
 case atStart => exact ⟨9, 0 + 40, x6, { { { zero6 with cls := CL, lab := LB, hop := x7 } with src := SRC } with dst := DST }, pZ6, rfl, h1, g6', by omega, Nat.zero_le _, Lib.hid ⟨rfl, rfl, rfl, rfl, rfl⟩, Lib.hid (.inl ⟨rfl, rfl, rfl, rfl, rfl, hstart.out⟩)⟩
 case round =>
 clear h1 hstart
 obtain ⟨n, k, kind, D, p, rfl, h, hkr, hk, h8, hfl, hG0⟩ := hrel
 rename_i wr _
 have hm0 : atOf wr g = k := h.atOf
 have hggH : w.heap.size + 1 + 1 + 1 = g := hgH.out
 have hfl : Hid (D.cls = l.getD 0 0 % 16 * 16 + l.getD 1 0 / 16 ∧ D.lab = l.getD 1 0 % 16 * 65536 + l.getD 2 0 * 256 + l.getD 3 0 ∧ D.hop = l.getD 7 0 ∧ D.src = (l.drop 8).take 16 ∧ D.dst = (l.drop 24).take 16) := Lib.hid (by
  obtain ⟨q1, q2, q3, q4, q5⟩ := hfl.out
  obtain ⟨z1, z2, z3, z4, z5⟩ := hfl0.out
  exact ⟨q1.trans z1, q2.trans z2, q3.trans z3, q4.trans z4, q5.trans z5⟩)
 have c38 := h.has.cell 38 (v := .bool D.frag) rfl
 cases hf : D.frag with
 | true =>
  rw [hf] at c38
  have hG1 : Hid (G = ⟨0, 0, D.hs, true, D.id, D.off, D.more, kind, k⟩) := Lib.hid (by
   rcases hG0.out with h | h
   ·rw [hf] at h; cases h.1
   ·exact h.2)
  have hGk : Hid (G = ⟨0, 0, D.hs, D.frag, D.id, D.off, D.more, kind, k⟩) := Lib.hid (by rw [hG1.out, hf])
  have h42 := h.set (j := 42) (v := .int .u8 kind) (D' := { D with pro := kind }) (p' := p) (Nat.le_refl g) rfl rfl rfl rfl rfl
  have k42 := h.has.cell 42 (v := .int .u8 D.pro) rfl
  have f42 := h.has.free 42
  have hAt := h42.has.cell 1 (v := .int .i64 (k : Int)) rfl
  obtain ⟨A9, c9, r9, y9⟩ := hy.from_ (P := Try.prog) 26 Try.underlying26 (by kernel_rfl) (k := k) hk
  obtain ⟨W7, hW7⟩ : ∃ W, wr.setCell ⟨g, 42, none⟩ (.int .u8 kind) = W := ⟨_, rfl⟩
  rw [hW7] at h42 hAt
  have hc9 := Lib.hid (clone_n A9 c9 (N - k) (l.drop k) W7 ((y9.below h42.bel (Nat.le_refl _)).more (Nat.le_of_lt h42.has.lt)) (by rw [List.length_drop, hlH.out]; omega))
  clear h y9 hG0
  go_wp2_with (refine wl_slice 26 _ _ _ _ rfl (by kernel_rfl) (.slice A N c) rfl (some (.int .i64 (k : Int))) none none rfl rfl rfl (r9 _) ?_)
  refine hc9.out.mono ?_
  rintro e w9 ⟨v9, rfl, o9, hb9⟩
  clear hc9 hW7 k42 f42
  have h43 := h42.below6 (Nat.le_refl g) hb9
  have o9 := o9.more (Nat.succ_le_of_lt h42.has.lt)
  obtain ⟨A9', c9', rfl, _⟩ := own_shape o9.own
  have hdl : (l.drop k).length = N - k := by rw [List.length_drop, hlH.out]
  rw [hdl] at o9 ⊢
  have k43 := h43.has.cell 43 (v := .slice p.bA D.bl.length p.bc) rfl
  have f43 := h43.has.free 43
  have h44 := h43.set (j := 43) (v := .slice A9' (N - k) c9') (D' := { D with pro := kind, bl := l.drop k }) (p' := { p with bA := A9', bc := c9' }) (Nat.le_refl g) (by rw [← hdl]; rfl) rfl rfl rfl rfl
  have o9 := o9.but6 (But6.setCell g 43 w9 (.slice A9' (N - k) c9')) (show g < g + 1 from Nat.lt_succ_self g)
  obtain ⟨W10, hW10⟩ : ∃ W, w9.setCell ⟨g, 43, none⟩ (.slice A9' (N - k) c9') = W := ⟨_, rfl⟩
  rw [hW10] at h44 o9
  have hld := rc_load h44.has
  have hb := h44.bel
  have hV := hV.below hb (show w.heap.size < g by omega)
  have hA := hA.below hb (show w.heap.size + 1 < g by omega)
  have hE := hE.below hb (show w.heap.size + 1 + 1 < g by omega)
  have hb2 := hBl.trans (Below.mono hb (show w.heap.size ≤ g by omega))
  obtain ⟨CC, hCC⟩ : ∃ CC, D6.cells { D with pro := kind, bl := l.drop k } { p with bA := A9', bc := c9' } = CC := ⟨_, rfl⟩
  have hCs : CC.size = 42 := by rw [← hCC]; rfl
  have hC1 : CC.all (·.oneCell') = true := by rw [← hCC]; exact D6.cells_one _ _
  rw [hCC] at hld
  have nA : w.heap.size + 1 ≠ w.heap.size := by omega
  have nE : w.heap.size + 1 + 1 ≠ w.heap.size := by omega
  have nEA : w.heap.size + 1 + 1 ≠ w.heap.size + 1 := by omega
  have hA := hA.setRow_other (cs' := CC) nA
  have hE := hE.setRow_other (cs' := CC) nE
  have cA := hA.cell 0 (v := .int .i64 0) rfl
  have fA := hA.free 0
  have hE' := hE.setCell_other nEA 0 (.int .i64 0)
  have cE := hE'.cell 0 (v := .int .i64 0) rfl
  have fE := hE'.free 0
  go_wp2_with (first | (refine wl (.agg CC) (by kernel_rfl) (by exact ex_loadAt (by exact rfl) (by exact rfl) hld) ?_) | (refine wpList_store_row rfl 28 (.tmp 4) (.tmp 143) rfl w.heap.size _ rfl rfl 28 _ hV (by rw [hCs]; exact v6_info) (by rw [hCs]; rfl) hC1 ?_))
  have hV := ((hV.setRow_same (cs' := CC)).setCell_other (Ne.symm nA) 0 (.int .i64 0)).setCell_other (Ne.symm nE) 0 (.int .i64 0)
  have hA := (hA.setCell 0 (.int .i64 0)).setCell_other (Ne.symm nEA) 0 (.int .i64 0)
  have hE := hE'.setCell 0 (.int .i64 0)
  have hb3 := below_setCell (below_setCell (hb2.trans (below_setRow' (cs := CC))) (show w.heap.size ≤ w.heap.size + 1 by omega) 0 (.int .i64 0)) (show w.heap.size ≤ w.heap.size + 1 + 1 by omega) 0 (.int .i64 0)
  have bu := ((But6g.setRow w.heap.size W10 CC).trans (But6g.setCell (w.heap.size + 1) 0 _ (.int .i64 0) (B := w.heap.size + 1 + 1) (by omega))).trans (But6g.setCell (w.heap.size + 1 + 1) 0 _ (.int .i64 0) (B := w.heap.size + 1 + 1 + 1) (by omega))
  have hfl := hfl.out
  have hok : (of6 l G).ok := by have := @of6_ok false l hy.rng (by rw [hGd.out, hGk.out]); rw [hGd.out] at this; exact this
  have hDe : ({ D with pro := kind, bl := l.drop k } : D6) = of6 l G := by
   rw [hGk.out]
   obtain ⟨q1, q2, q3, q4, q5⟩ := hfl
   simp only [of6]
   rw [q1, q2, q3, q4, q5]
  have hgot : got6 false l = of6 l G := by unfold got6; rw [hGd.out, if_pos (by rw [hGk.out])]
  have ho3 : Own6 _ w.heap.size { D with pro := kind, bl := l.drop k } { p with bA := A9', bc := c9' } := ⟨hDe ▸ hok, (bu.ownK h44.own (by omega)).more (by omega), h44.hl, (by rw [hdl]; exact (bu.ownB o9 (by omega)).more (by omega))⟩
  subst hCC
  refine leaves_cons (f := 100) (args := #[.pointer (some ⟨w.heap.size, 0, none⟩), .pointer (some ⟨w.heap.size + 1, 0, none⟩), .pointer (some ⟨w.heap.size + 1 + 1, 0, none⟩)]) (by simp) (by simp [go_sem]) ?_
  refine (catch6_idle _ _ _ _).mono ?_
  rintro e u' w'' ⟨rfl, rfl, rfl⟩
  rw [hgot, hGd.out, hGk.out, ← hGk.out, ← hDe]
  exact told6_mk Try.results78 rfl rfl rfl hV hA hE ho3 (by rw [hGk.out]; rfl) (by rw [hGk.out]) hb3
 | false =>
  rw [hf] at c38
  have hG1 : Hid (D.id = 0 ∧ D.off = 0 ∧ D.more = false ∧ n + D.hs.length = 9 ∧ go6 l n k kind D.hs = G) := Lib.hid (by
   rcases hG0.out with h | h
   ·exact h.2
   ·rw [hf] at h; cases h.1)
  obtain ⟨m, hm⟩ : ∃ m, n = m + 1 := ⟨n - 1, by have := hG1.out.2.2.2.1; omega⟩
  have hmH := Lib.hid hm
  clear hm hG0
  cases hx : extra6 kind with
  | false =>
   by_cases h44 : kind = 44
   case neg =>
    have h44b : (kind == 44) = false := by simpa using h44
    have hG0 : Hid (G = ⟨0, 0, D.hs, D.frag, D.id, D.off, D.more, kind, k⟩) := Lib.hid (by
     obtain ⟨i1, i2, i3, i4, i5⟩ := hG1.out
     rw [← i5, hmH.out, go6, if_pos ⟨hx, h44⟩, hf, i1, i2, i3])
    go_wp2_with fail
    refine (extra_any _ _).mono ?_
    rintro e w9 ⟨⟨q, rfl, hq⟩, hw9⟩
    obtain rfl : wr = w9 := hw9.symm
    obtain rfl : q = false := hq.out.trans hx
    clear hq
    clear hG1 hx
    have hGk : Hid (G = ⟨0, 0, D.hs, D.frag, D.id, D.off, D.more, kind, k⟩) := Lib.hid (by exact hG0.out)
    have h42 := h.set (j := 42) (v := .int .u8 kind) (D' := { D with pro := kind }) (p' := p) (Nat.le_refl g) rfl rfl rfl rfl rfl
    have k42 := h.has.cell 42 (v := .int .u8 D.pro) rfl
    have f42 := h.has.free 42
    have hAt := h42.has.cell 1 (v := .int .i64 (k : Int)) rfl
    obtain ⟨A9, c9, r9, y9⟩ := hy.from_ (P := Try.prog) 26 Try.underlying26 (by kernel_rfl) (k := k) hk
    obtain ⟨W7, hW7⟩ : ∃ W, wr.setCell ⟨g, 42, none⟩ (.int .u8 kind) = W := ⟨_, rfl⟩
    rw [hW7] at h42 hAt
    have hc9 := Lib.hid (clone_n A9 c9 (N - k) (l.drop k) W7 ((y9.below h42.bel (Nat.le_refl _)).more (Nat.le_of_lt h42.has.lt)) (by rw [List.length_drop, hlH.out]; omega))
    clear h y9 hG0
    go_wp2_with (refine wl_slice 26 _ _ _ _ rfl (by kernel_rfl) (.slice A N c) rfl (some (.int .i64 (k : Int))) none none rfl rfl rfl (r9 _) ?_)
    refine hc9.out.mono ?_
    rintro e w9 ⟨v9, rfl, o9, hb9⟩
    clear hc9 hW7 k42 f42
    have h43 := h42.below6 (Nat.le_refl g) hb9
    have o9 := o9.more (Nat.succ_le_of_lt h42.has.lt)
    obtain ⟨A9', c9', rfl, _⟩ := own_shape o9.own
    have hdl : (l.drop k).length = N - k := by rw [List.length_drop, hlH.out]
    rw [hdl] at o9 ⊢
    have k43 := h43.has.cell 43 (v := .slice p.bA D.bl.length p.bc) rfl
    have f43 := h43.has.free 43
    have h44 := h43.set (j := 43) (v := .slice A9' (N - k) c9') (D' := { D with pro := kind, bl := l.drop k }) (p' := { p with bA := A9', bc := c9' }) (Nat.le_refl g) (by rw [← hdl]; rfl) rfl rfl rfl rfl
    have o9 := o9.but6 (But6.setCell g 43 w9 (.slice A9' (N - k) c9')) (show g < g + 1 from Nat.lt_succ_self g)
    obtain ⟨W10, hW10⟩ : ∃ W, w9.setCell ⟨g, 43, none⟩ (.slice A9' (N - k) c9') = W := ⟨_, rfl⟩
    rw [hW10] at h44 o9
    have hld := rc_load h44.has
    have hb := h44.bel
    have hV := hV.below hb (show w.heap.size < g by omega)
    have hA := hA.below hb (show w.heap.size + 1 < g by omega)
    have hE := hE.below hb (show w.heap.size + 1 + 1 < g by omega)
    have hb2 := hBl.trans (Below.mono hb (show w.heap.size ≤ g by omega))
    obtain ⟨CC, hCC⟩ : ∃ CC, D6.cells { D with pro := kind, bl := l.drop k } { p with bA := A9', bc := c9' } = CC := ⟨_, rfl⟩
    have hCs : CC.size = 42 := by rw [← hCC]; rfl
    have hC1 : CC.all (·.oneCell') = true := by rw [← hCC]; exact D6.cells_one _ _
    rw [hCC] at hld
    have nA : w.heap.size + 1 ≠ w.heap.size := by omega
    have nE : w.heap.size + 1 + 1 ≠ w.heap.size := by omega
    have nEA : w.heap.size + 1 + 1 ≠ w.heap.size + 1 := by omega
    have hA := hA.setRow_other (cs' := CC) nA
    have hE := hE.setRow_other (cs' := CC) nE
    have cA := hA.cell 0 (v := .int .i64 0) rfl
    have fA := hA.free 0
    have hE' := hE.setCell_other nEA 0 (.int .i64 0)
    have cE := hE'.cell 0 (v := .int .i64 0) rfl
    have fE := hE'.free 0
    go_wp2_with (first | (refine wl (.agg CC) (by kernel_rfl) (by exact ex_loadAt (by exact rfl) (by exact rfl) hld) ?_) | (refine wpList_store_row rfl 28 (.tmp 4) (.tmp 143) rfl w.heap.size _ rfl rfl 28 _ hV (by rw [hCs]; exact v6_info) (by rw [hCs]; rfl) hC1 ?_))
    have hV := ((hV.setRow_same (cs' := CC)).setCell_other (Ne.symm nA) 0 (.int .i64 0)).setCell_other (Ne.symm nE) 0 (.int .i64 0)
    have hA := (hA.setCell 0 (.int .i64 0)).setCell_other (Ne.symm nEA) 0 (.int .i64 0)
    have hE := hE'.setCell 0 (.int .i64 0)
    have hb3 := below_setCell (below_setCell (hb2.trans (below_setRow' (cs := CC))) (show w.heap.size ≤ w.heap.size + 1 by omega) 0 (.int .i64 0)) (show w.heap.size ≤ w.heap.size + 1 + 1 by omega) 0 (.int .i64 0)
    have bu := ((But6g.setRow w.heap.size W10 CC).trans (But6g.setCell (w.heap.size + 1) 0 _ (.int .i64 0) (B := w.heap.size + 1 + 1) (by omega))).trans (But6g.setCell (w.heap.size + 1 + 1) 0 _ (.int .i64 0) (B := w.heap.size + 1 + 1 + 1) (by omega))
    have hfl := hfl.out
    have hok : (of6 l G).ok := by have := @of6_ok false l hy.rng (by rw [hGd.out, hGk.out]); rw [hGd.out] at this; exact this
    have hDe : ({ D with pro := kind, bl := l.drop k } : D6) = of6 l G := by
     rw [hGk.out]
     obtain ⟨q1, q2, q3, q4, q5⟩ := hfl
     simp only [of6]
     rw [q1, q2, q3, q4, q5]
    have hgot : got6 false l = of6 l G := by unfold got6; rw [hGd.out, if_pos (by rw [hGk.out])]
    have ho3 : Own6 _ w.heap.size { D with pro := kind, bl := l.drop k } { p with bA := A9', bc := c9' } := ⟨hDe ▸ hok, (bu.ownK h44.own (by omega)).more (by omega), h44.hl, (by rw [hdl]; exact (bu.ownB o9 (by omega)).more (by omega))⟩
    subst hCC
    refine leaves_cons (f := 100) (args := #[.pointer (some ⟨w.heap.size, 0, none⟩), .pointer (some ⟨w.heap.size + 1, 0, none⟩), .pointer (some ⟨w.heap.size + 1 + 1, 0, none⟩)]) (by simp) (by simp [go_sem]) ?_
    refine (catch6_idle _ _ _ _).mono ?_
    rintro e u' w'' ⟨rfl, rfl, rfl⟩
    rw [hgot, hGd.out, hGk.out, ← hGk.out, ← hDe]
    exact told6_mk Try.results78 rfl rfl rfl hV hA hE ho3 (by rw [hGk.out]; rfl) (by rw [hGk.out]) hb3
   case pos =>
   subst h44
   by_cases hs : N < k + 8
   case pos =>
    have hGe : Hid (g6 false l = bad6 50 k) := Lib.hid (by
     obtain ⟨i1, i2, i3, i4, i5⟩ := hG1.out
     rw [hGd.out, ← i5, hmH.out, go6, if_neg (by rintro ⟨_, h⟩; exact h rfl), if_pos (by rw [hlH.out]; exact hs)])
    go_wp2_with fail
    refine (extra_any _ _).mono ?_
    rintro e w9 ⟨⟨q, rfl, hq⟩, hw9⟩
    obtain rfl : wr = w9 := hw9.symm
    obtain rfl : q = false := hq.out.trans hx
    clear hq
    clear hG1 hx
    go_wp2_with fail
    refine (head_short 44 h hNb hk hs).mono ?_
    rintro e w5 ⟨rfl, hb⟩
    have hV := hV.below hb (show w.heap.size < g by omega)
    have hA := hA.below hb (show w.heap.size + 1 < g by omega)
    have hE := hE.below hb (show w.heap.size + 1 + 1 < g by omega)
    have hb2 := hBl.trans (Below.mono hb (show w.heap.size ≤ g by omega))
    refine leaves_cons (f := 100) (args := #[.pointer (some ⟨w.heap.size, 0, none⟩), .pointer (some ⟨w.heap.size + 1, 0, none⟩), .pointer (some ⟨w.heap.size + 1 + 1, 0, none⟩)]) (by simp) (by simp [go_sem]) ?_
    refine (catch6_fault _ _ _ (k : Int) 50 [] _ _ _ _ hV rfl hA hE (by omega) (by omega) (by omega)).mono ?_
    rintro e u' w'' ⟨rfl, rfl, h1, h2, h3, hall⟩
    have hgot : got6 false l = zero6 := by unfold got6; rw [hGe.out]; exact if_neg (by simp [bad6])
    rw [hgot, hGe.out]
    exact told6_mk (p := pZ6) Try.results78 rfl rfl rfl h1 h2 h3 (own6_zero _ _) rfl rfl (hb2.trans (hall _ (by omega) (by omega) (by omega)))
   have hG2 : Hid (G = ⟨0, 0, D.hs, true, l.getD (k + 4) 0 * 16777216 + l.getD (k + 5) 0 * 65536 + l.getD (k + 6) 0 * 256 + l.getD (k + 7) 0, l.getD (k + 2) 0 * 32 + l.getD (k + 3) 0 / 8, decide (l.getD (k + 3) 0 % 2 = 1), l.getD k 0, k + 8⟩) := Lib.hid (by
    obtain ⟨i1, i2, i3, i4, i5⟩ := hG1.out
    rw [← i5, hmH.out, go6, if_neg (by rintro ⟨_, h⟩; exact h rfl), if_neg (by rw [hlH.out]; exact hs), if_pos rfl])
   go_wp2_with fail
   refine (extra_any _ _).mono ?_
   rintro e w9 ⟨⟨q, rfl, hq⟩, hw9⟩
   obtain rfl : wr = w9 := hw9.symm
   obtain rfl : q = false := hq.out.trans hx
   clear hq
   clear hG1 hx
   go_wp2_with fail
   refine (head_frag h hy (Nat.le_refl g) (by omega)).mono ?_
   rintro e w5 ⟨⟨q, rfl, hq⟩, h5⟩
   clear c38
   go_wp2
   go_roundw
   case rel => exact ⟨0, k + 8, q, _, p, rfl, h5, by rw [hq.out]; exact getD_byte hy.rng k, by omega, h8, Lib.hid (by obtain ⟨q1, q2, q3, q4, q5⟩ := hfl.out; obtain ⟨z1, z2, z3, z4, z5⟩ := hfl0.out; exact ⟨q1.trans z1.symm, q2.trans z2.symm, q3.trans z3.symm, q4.trans z4.symm, q5.trans z5.symm⟩), Lib.hid (.inr ⟨rfl, by rw [hG2.out, hq.out]⟩)⟩
   case measure => rw [h5.atOf, hm0]; omega
  | true =>
   have h44 : kind ≠ 44 := by
    rintro rfl
    simp [extra6] at hx
   obtain ⟨pA, hc2, ps, bA, bc⟩ := p
   by_cases hs : N < k + 8
   case pos =>
    have hGe : Hid (g6 false l = bad6 50 k) := Lib.hid (by
     obtain ⟨i1, i2, i3, i4, i5⟩ := hG1.out
     rw [hGd.out, ← i5, hmH.out, go6, if_neg (by rintro ⟨h, _⟩; rw [hx] at h; cases h), if_pos (by rw [hlH.out]; exact hs)])
    go_wp2_with fail
    refine (extra_any _ _).mono ?_
    rintro e w9 ⟨⟨q, rfl, hq⟩, hw9⟩
    obtain rfl : wr = w9 := hw9.symm
    obtain rfl : q = true := hq.out.trans hx
    clear hq
    clear hG1 hx
    go_wp2_with fail
    refine (head_short kind h hNb hk hs).mono ?_
    rintro e w5 ⟨rfl, hb⟩
    have hV := hV.below hb (show w.heap.size < g by omega)
    have hA := hA.below hb (show w.heap.size + 1 < g by omega)
    have hE := hE.below hb (show w.heap.size + 1 + 1 < g by omega)
    have hb2 := hBl.trans (Below.mono hb (show w.heap.size ≤ g by omega))
    refine leaves_cons (f := 100) (args := #[.pointer (some ⟨w.heap.size, 0, none⟩), .pointer (some ⟨w.heap.size + 1, 0, none⟩), .pointer (some ⟨w.heap.size + 1 + 1, 0, none⟩)]) (by simp) (by simp [go_sem]) ?_
    refine (catch6_fault _ _ _ (k : Int) 50 [] _ _ _ _ hV rfl hA hE (by omega) (by omega) (by omega)).mono ?_
    rintro e u' w'' ⟨rfl, rfl, h1, h2, h3, hall⟩
    have hgot : got6 false l = zero6 := by unfold got6; rw [hGe.out]; exact if_neg (by simp [bad6])
    rw [hgot, hGe.out]
    exact told6_mk (p := pZ6) Try.results78 rfl rfl rfl h1 h2 h3 (own6_zero _ _) rfl rfl (hb2.trans (hall _ (by omega) (by omega) (by omega)))
   by_cases hs2 : N < k + 8 + g6len l k
   case pos =>
    have hGe : Hid (g6 false l = bad6 50 k) := Lib.hid (by
     obtain ⟨i1, i2, i3, i4, i5⟩ := hG1.out
     rw [hGd.out, ← i5, hmH.out, go6, if_neg (by rintro ⟨h, _⟩; rw [hx] at h; cases h), if_neg (by rw [hlH.out]; exact hs), if_neg h44, if_pos (by rw [hlH.out]; exact hs2)])
    go_wp2_with fail
    refine (extra_any _ _).mono ?_
    rintro e w9 ⟨⟨q, rfl, hq⟩, hw9⟩
    obtain rfl : wr = w9 := hw9.symm
    obtain rfl : q = true := hq.out.trans hx
    clear hq
    clear hG1 hx
    go_wp2_with fail
    refine (head_short2 kind h hy (Nat.le_refl g) (by omega) h44 hs2).mono ?_
    rintro e w5 ⟨rfl, hb⟩
    have hV := hV.below hb (show w.heap.size < g by omega)
    have hA := hA.below hb (show w.heap.size + 1 < g by omega)
    have hE := hE.below hb (show w.heap.size + 1 + 1 < g by omega)
    have hb2 := hBl.trans (Below.mono hb (show w.heap.size ≤ g by omega))
    refine leaves_cons (f := 100) (args := #[.pointer (some ⟨w.heap.size, 0, none⟩), .pointer (some ⟨w.heap.size + 1, 0, none⟩), .pointer (some ⟨w.heap.size + 1 + 1, 0, none⟩)]) (by simp) (by simp [go_sem]) ?_
    refine (catch6_fault _ _ _ (k : Int) 50 [] _ _ _ _ hV rfl hA hE (by omega) (by omega) (by omega)).mono ?_
    rintro e u' w'' ⟨rfl, rfl, h1, h2, h3, hall⟩
    have hgot : got6 false l = zero6 := by unfold got6; rw [hGe.out]; exact if_neg (by simp [bad6])
    rw [hgot, hGe.out]
    exact told6_mk (p := pZ6) Try.results78 rfl rfl rfl h1 h2 h3 (own6_zero _ _) rfl rfl (hb2.trans (hall _ (by omega) (by omega) (by omega)))
   by_cases hf3 : (kind = 0 ∧ 0 < D.hs.length) ∨ D.hs.length = 8
   case pos =>
    have hGe : Hid (g6 false l = bad6 53 k) := Lib.hid (by
     obtain ⟨i1, i2, i3, i4, i5⟩ := hG1.out
     rw [hGd.out, ← i5, hmH.out, go6, if_neg (by rintro ⟨h, _⟩; rw [hx] at h; cases h), if_neg (by rw [hlH.out]; exact hs), if_neg h44, if_neg (by rw [hlH.out]; exact hs2), if_pos hf3])
    go_wp2_with fail
    refine (extra_any _ _).mono ?_
    rintro e w9 ⟨⟨q, rfl, hq⟩, hw9⟩
    obtain rfl : wr = w9 := hw9.symm
    obtain rfl : q = true := hq.out.trans hx
    clear hq
    clear hG1 hx
    go_wp2_with fail
    refine (head_full kind h hy (Nat.le_refl g) (by omega) h44 (by omega) hf3).mono ?_
    rintro e w5 ⟨rfl, hb⟩
    have hV := hV.below hb (show w.heap.size < g by omega)
    have hA := hA.below hb (show w.heap.size + 1 < g by omega)
    have hE := hE.below hb (show w.heap.size + 1 + 1 < g by omega)
    have hb2 := hBl.trans (Below.mono hb (show w.heap.size ≤ g by omega))
    refine leaves_cons (f := 100) (args := #[.pointer (some ⟨w.heap.size, 0, none⟩), .pointer (some ⟨w.heap.size + 1, 0, none⟩), .pointer (some ⟨w.heap.size + 1 + 1, 0, none⟩)]) (by simp) (by simp [go_sem]) ?_
    refine (catch6_fault _ _ _ (k : Int) 53 [] _ _ _ _ hV rfl hA hE (by omega) (by omega) (by omega)).mono ?_
    rintro e u' w'' ⟨rfl, rfl, h1, h2, h3, hall⟩
    have hgot : got6 false l = zero6 := by unfold got6; rw [hGe.out]; exact if_neg (by simp [bad6])
    rw [hgot, hGe.out]
    exact told6_mk (p := pZ6) Try.results78 rfl rfl rfl h1 h2 h3 (own6_zero _ _) rfl rfl (hb2.trans (hall _ (by omega) (by omega) (by omega)))
   have hG2 : Hid (m + (D.hs.length + 1) = 9 ∧ D.id = 0 ∧ D.off = 0 ∧ D.more = false ∧ go6 l m (k + 8 + g6len l k) (l.getD k 0) (D.hs ++ [(kind, (l.drop (k + 2)).take (6 + g6len l k))]) = G) := Lib.hid (by
    obtain ⟨i1, i2, i3, i4, i5⟩ := hG1.out
    rw [hmH.out, go6, if_neg (by rintro ⟨h, _⟩; rw [hx] at h; cases h), if_neg (by rw [hlH.out]; exact hs), if_neg h44, if_neg (by rw [hlH.out]; exact hs2), if_neg hf3] at i5
    have := hmH.out
    exact ⟨by omega, i1, i2, i3, i5⟩)
   go_wp2_with fail
   refine (extra_any _ _).mono ?_
   rintro e w9 ⟨⟨q, rfl, hq⟩, hw9⟩
   obtain rfl : wr = w9 := hw9.symm
   obtain rfl : q = true := hq.out.trans hx
   clear hq
   clear hG1 hx
   go_wp2_with fail
   refine (head_ok kind h hy (Nat.le_refl g) (by omega) h44 (by omega) hf3 h8 hkr (by omega)).mono ?_
   rintro e w5 ⟨⟨q, rfl, hq⟩, p', h5⟩
   clear c38
   go_wp2
   go_roundw
   case rel =>
    obtain ⟨j1, j2, j3, j4, j5⟩ := hG2.out
    refine ⟨m, k + 8 + g6len l k, q, _, p', rfl, h5, by rw [hq.out]; exact getD_byte hy.rng k, by omega, ?_, Lib.hid (by obtain ⟨q1, q2, q3, q4, q5⟩ := hfl.out; obtain ⟨z1, z2, z3, z4, z5⟩ := hfl0.out; exact ⟨q1.trans z1.symm, q2.trans z2.symm, q3.trans z3.symm, q4.trans z4.symm, q5.trans z5.symm⟩), Lib.hid (.inl ⟨hf, j2, j3, j4, ?_, by rw [hq.out]; exact j5⟩)⟩
    ·show (D.hs ++ [_]).length ≤ 8
     rw [List.length_append, List.length_singleton]
     omega
    ·show m + (D.hs ++ [_]).length = 9
     rw [List.length_append, List.length_singleton]
     exact j1
   case measure => rw [h5.atOf, hm0]; omega
end Go.Proofs.Ytjnphelfloiadaa
