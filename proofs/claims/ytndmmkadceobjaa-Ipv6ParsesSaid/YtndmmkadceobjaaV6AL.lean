/-
  An IPv6 datagram in a variable of a law's; the walk of the laws' alive.
-/
import Derived.Test.YtndmmkadceobjaaV6SA
namespace Go.Proofs.Ytndmmkadceobjaa
open Go.RowKit Go.Shelf

structure K6 (w' : World) (g : Nat) (D : D6) (p : W6) : Prop where
  has : Has w' g (.cells (D.cells p) 28 (0, 0))
  rd : Rd6 w'.heap.size w' D p
theorem K6.below {w w' : World} {g : Nat} {D : D6} {p : W6} (h : K6 w g D p) (hb : Below w.heap.size w w') : K6 w' g D p := ⟨h.has.below hb h.has.lt, (h.rd.below hb (Nat.le_refl _)).more hb.size⟩
theorem K6.new (C : Array Value) {w : World} {D : D6} {p : W6} (hr : Rd6 w.heap.size w D p) : K6 ((w.alloc (.cells C 28)).setRow w.heap.size (D.cells p)) w.heap.size D p ∧ Below w.heap.size w ((w.alloc (.cells C 28)).setRow w.heap.size (D.cells p)) := by
  have hb : Below w.heap.size w ((w.alloc (.cells C 28)).setRow w.heap.size (D.cells p)) := ((Below.refl _ _).alloc (Nat.le_refl _) _).trans below_setRow'
  exact ⟨⟨(Has.newAt (o := .cells C 28) rfl).setRow_same, (hr.below hb (Nat.le_refl _)).more hb.size⟩, hb⟩
theorem K6.arg {w : World} {D : D6} {p : W6} (hr : Rd6 w.heap.size w D p) : K6 (w.alloc (.cells (D.cells p) 28)) w.heap.size D p ∧ Below w.heap.size w (w.alloc (.cells (D.cells p) 28)) := by
  have hb : Below w.heap.size w (w.alloc (.cells (D.cells p) 28)) := (Below.refl _ _).alloc (Nat.le_refl _) _
  exact ⟨⟨Has.newAt rfl, (hr.below hb (Nat.le_refl _)).more hb.size⟩, hb⟩
theorem K6.same {w : World} {g g' : Nat} {D D' : D6} {p p' : W6} (h : K6 w g D p) (h' : K6 w g' D' p') : Calls Try.prog 16 #[.agg (D.cells p), .agg (D'.cells p')] w fun e w' => Tru (same6 D D') e ∧ Below w.heap.size w w' :=
  rsame6_any D D' p p' w h.rd h'.rd

def dA0 : D6 := { zero6 with hop := 64, pro := 59 }
def dA1 : D6 := { dA0 with dst := [0, 0, 0, 0, 0, 0, 0, 0, 0, 0, 0, 0, 0, 0, 0, 1] }
theorem dA1_ok : dA1.ok := ⟨by decide, by decide, by decide, rfl, by intro x hx; simp [dA1, dA0, zero6] at hx; omega, rfl, by intro x hx; simp [dA1] at hx; omega, by decide, by decide, by decide⟩
theorem dA1_check : dA1.check = 0 := by decide
theorem dA1_rd (w : World) : Rd6 w.heap.size w dA1 pZ6 := ⟨dA1_ok, rfl, Kds.nil _ _, By.nil _ _ _ (by decide)⟩

set_option maxRecDepth 100000 in
set_option maxHeartbeats 4000000 in
theorem alive6_any (w : World) : Calls Try.prog 14 #[] w fun e w' => e = .returned (.bool true) ∧ Below w.heap.size w w' := by
  have hN : Has (w.alloc (.cells #[.int .u8 0, .int .u32 0, .int .u8 0, .int .u8 0, .int .u8 0, .int .u8 0, .int .u8 0, .int .u8 0, .int .u8 0, .int .u8 0, .int .u8 0, .int .u8 0, .int .u8 0, .int .u8 0, .int .u8 0, .int .u8 0, .int .u8 0, .int .u8 0, .int .u8 0, .int .u8 0, .int .u8 0, .int .u8 0, .int .u8 0, .int .u8 0, .int .u8 0, .int .u8 0, .int .u8 0, .int .u8 0, .int .u8 0, .int .u8 0, .int .u8 0, .int .u8 0, .int .u8 0, .int .u8 0, .int .u8 0, .slice none 0 0, .bool false, .int .u32 0, .int .i64 0, .bool false, .int .u8 0, .slice none 0 0] 28)) w.heap.size (.cells #[.int .u8 0, .int .u32 0, .int .u8 0, .int .u8 0, .int .u8 0, .int .u8 0, .int .u8 0, .int .u8 0, .int .u8 0, .int .u8 0, .int .u8 0, .int .u8 0, .int .u8 0, .int .u8 0, .int .u8 0, .int .u8 0, .int .u8 0, .int .u8 0, .int .u8 0, .int .u8 0, .int .u8 0, .int .u8 0, .int .u8 0, .int .u8 0, .int .u8 0, .int .u8 0, .int .u8 0, .int .u8 0, .int .u8 0, .int .u8 0, .int .u8 0, .int .u8 0, .int .u8 0, .int .u8 0, .int .u8 0, .slice none 0 0, .bool false, .int .u32 0, .int .i64 0, .bool false, .int .u8 0, .slice none 0 0] 28 (0, 0)) := Has.newAt rfl
  have hW : Below w.heap.size w ((w.alloc (.cells #[.int .u8 0, .int .u32 0, .int .u8 0, .int .u8 0, .int .u8 0, .int .u8 0, .int .u8 0, .int .u8 0, .int .u8 0, .int .u8 0, .int .u8 0, .int .u8 0, .int .u8 0, .int .u8 0, .int .u8 0, .int .u8 0, .int .u8 0, .int .u8 0, .int .u8 0, .int .u8 0, .int .u8 0, .int .u8 0, .int .u8 0, .int .u8 0, .int .u8 0, .int .u8 0, .int .u8 0, .int .u8 0, .int .u8 0, .int .u8 0, .int .u8 0, .int .u8 0, .int .u8 0, .int .u8 0, .int .u8 0, .slice none 0 0, .bool false, .int .u32 0, .int .i64 0, .bool false, .int .u8 0, .slice none 0 0] 28)).setRow w.heap.size (D6.cells dA0 pZ6)) := ((Below.refl _ _).alloc (Nat.le_refl _) _).trans below_setRow'
  have hH := hN.setRow_same (cs' := D6.cells dA0 pZ6)
  obtain ⟨W1, hW1⟩ : ∃ W, (w.alloc (.cells #[.int .u8 0, .int .u32 0, .int .u8 0, .int .u8 0, .int .u8 0, .int .u8 0, .int .u8 0, .int .u8 0, .int .u8 0, .int .u8 0, .int .u8 0, .int .u8 0, .int .u8 0, .int .u8 0, .int .u8 0, .int .u8 0, .int .u8 0, .int .u8 0, .int .u8 0, .int .u8 0, .int .u8 0, .int .u8 0, .int .u8 0, .int .u8 0, .int .u8 0, .int .u8 0, .int .u8 0, .int .u8 0, .int .u8 0, .int .u8 0, .int .u8 0, .int .u8 0, .int .u8 0, .int .u8 0, .int .u8 0, .slice none 0 0, .bool false, .int .u32 0, .int .i64 0, .bool false, .int .u8 0, .slice none 0 0] 28)).setRow w.heap.size (D6.cells dA0 pZ6) = W := ⟨_, rfl⟩
  rw [hW1] at hW hH
  have c34 := hH.cell 34 (v := .int .u8 0) rfl
  have f34 := hH.free 34
  have hH2 : Has (W1.setCell ⟨w.heap.size, 34, none⟩ (.int .u8 1)) w.heap.size (.cells (D6.cells dA1 pZ6) 28 (0, 0)) := hH.setCell 34 (.int .u8 1)
  have hB2 := below_setCell hW (Nat.le_refl w.heap.size) 34 (.int .u8 1)
  obtain ⟨W2, hW2⟩ : ∃ W, W1.setCell ⟨w.heap.size, 34, none⟩ (.int .u8 1) = W := ⟨_, rfl⟩
  rw [hW2] at hH2 hB2
  have K1 : K6 W2 w.heap.size dA1 pZ6 := ⟨hH2, dA1_rd _⟩
  clear hW hH
  go_enter Try.func14, Try.ntmps14
  go_wp2_with (first | (refine wpList_store_row rfl 28 (.tmp 1) (.tmp 7) rfl w.heap.size (D6.cells dA0 pZ6) rfl rfl 28 _ hN v6_info rfl (D6.cells_one _ _) ?_) | (refine wpList_load_row rfl 28 (.tmp 1) rfl w.heap.size rfl 28 (D6.cells dA1 pZ6) (0, 0) _ hH2 Try.underlying28 rfl v6_info ?_))
  refine (write6_any dA1 pZ6 W2 K1.rd).mono ?_
  rintro e w3 ⟨v3, s, rfl, hs, o3, hb⟩
  obtain rfl : s = 0 := hs.out.trans dA1_check
  have hB3 := hB2.trans (hb.mono hB2.size)
  have K1 := K1.below hb
  obtain ⟨LA, hLA⟩ : ∃ L, dA1.write = L := ⟨_, rfl⟩
  have hLb : dA1.write = dA1.bytes := by unfold D6.write; rw [if_pos dA1_check]
  have hbk := D6.back dA1 dA1_ok dA1_check
  rw [← hLb, hLA] at hbk
  have hL40 : LA.length = 40 := by rw [← hLA]; rfl
  have h6 : LA.getD 6 0 = 59 := by rw [← hLA]; rfl
  have h7 : LA.getD 7 0 = 64 := by rw [← hLA]; rfl
  rw [hLA] at o3
  obtain ⟨A, c, rfl, y⟩ := o3.by_
  have hgt := Lib.hid hbk.2
  have hge := Lib.hid hbk.1
  clear hbk hLb hLA hW1 hW2 hN c34 f34 hH2 hs
  have hc := Lib.hid (pparse6_any A c LA w3 y)
  rw [hgt.out, hge.out] at hc
  rw [hL40] at hc y o3 ⊢
  go_wp2_with fail
  refine hc.out.mono ?_
  rintro e w4 ⟨⟨p4, a, s, rfl, ha, hs, ho⟩, hb⟩
  obtain rfl : s = 0 := hs.out
  have hB4 := hB3.trans (hb.mono hB3.size)
  have K1 := K1.below hb
  have y := y.below hb (Nat.le_refl _)
  have hsz34 := hb.size
  obtain ⟨K2, hb⟩ := K6.new #[.int .u8 0, .int .u32 0, .int .u8 0, .int .u8 0, .int .u8 0, .int .u8 0, .int .u8 0, .int .u8 0, .int .u8 0, .int .u8 0, .int .u8 0, .int .u8 0, .int .u8 0, .int .u8 0, .int .u8 0, .int .u8 0, .int .u8 0, .int .u8 0, .int .u8 0, .int .u8 0, .int .u8 0, .int .u8 0, .int .u8 0, .int .u8 0, .int .u8 0, .int .u8 0, .int .u8 0, .int .u8 0, .int .u8 0, .int .u8 0, .int .u8 0, .int .u8 0, .int .u8 0, .int .u8 0, .int .u8 0, .slice none 0 0, .bool false, .int .u32 0, .int .i64 0, .bool false, .int .u8 0, .slice none 0 0] ho.rd
  have hZ : Has (w4.alloc (.cells #[.int .u8 0, .int .u32 0, .int .u8 0, .int .u8 0, .int .u8 0, .int .u8 0, .int .u8 0, .int .u8 0, .int .u8 0, .int .u8 0, .int .u8 0, .int .u8 0, .int .u8 0, .int .u8 0, .int .u8 0, .int .u8 0, .int .u8 0, .int .u8 0, .int .u8 0, .int .u8 0, .int .u8 0, .int .u8 0, .int .u8 0, .int .u8 0, .int .u8 0, .int .u8 0, .int .u8 0, .int .u8 0, .int .u8 0, .int .u8 0, .int .u8 0, .int .u8 0, .int .u8 0, .int .u8 0, .int .u8 0, .slice none 0 0, .bool false, .int .u32 0, .int .i64 0, .bool false, .int .u8 0, .slice none 0 0] 28)) w4.heap.size (.cells #[.int .u8 0, .int .u32 0, .int .u8 0, .int .u8 0, .int .u8 0, .int .u8 0, .int .u8 0, .int .u8 0, .int .u8 0, .int .u8 0, .int .u8 0, .int .u8 0, .int .u8 0, .int .u8 0, .int .u8 0, .int .u8 0, .int .u8 0, .int .u8 0, .int .u8 0, .int .u8 0, .int .u8 0, .int .u8 0, .int .u8 0, .int .u8 0, .int .u8 0, .int .u8 0, .int .u8 0, .int .u8 0, .int .u8 0, .int .u8 0, .int .u8 0, .int .u8 0, .int .u8 0, .int .u8 0, .int .u8 0, .slice none 0 0, .bool false, .int .u32 0, .int .i64 0, .bool false, .int .u8 0, .slice none 0 0] 28 (0, 0)) := Has.newAt rfl
  have hB5 := hB4.trans (hb.mono hB4.size)
  have K1 := K1.below hb
  have y := y.below hb hsz34
  obtain ⟨W5, hW5⟩ : ∃ W, (w4.alloc (.cells #[.int .u8 0, .int .u32 0, .int .u8 0, .int .u8 0, .int .u8 0, .int .u8 0, .int .u8 0, .int .u8 0, .int .u8 0, .int .u8 0, .int .u8 0, .int .u8 0, .int .u8 0, .int .u8 0, .int .u8 0, .int .u8 0, .int .u8 0, .int .u8 0, .int .u8 0, .int .u8 0, .int .u8 0, .int .u8 0, .int .u8 0, .int .u8 0, .int .u8 0, .int .u8 0, .int .u8 0, .int .u8 0, .int .u8 0, .int .u8 0, .int .u8 0, .int .u8 0, .int .u8 0, .int .u8 0, .int .u8 0, .slice none 0 0, .bool false, .int .u32 0, .int .i64 0, .bool false, .int .u8 0, .slice none 0 0] 28)).setRow w4.heap.size (D6.cells dA1 p4) = W := ⟨_, rfl⟩
  rw [hW5] at K1 K2 hB5 y
  obtain ⟨b, o, rfl, hbb, -⟩ := y.row.at_ (by decide)
  have d6 := y.atO (k := 6) (by decide)
  have d7 := y.atO (k := 7) (by decide)
  rw [h6] at d6
  rw [h7] at d7
  have x1 := K1.has
  have x2 := K2.has
  clear ho hc hs ha hb y
  go_wp2_with (first
    | (refine wpList_store_row rfl 28 (.tmp 4) (.tmp 18) rfl w4.heap.size _ rfl rfl 28 _ hZ v6_info rfl (D6.cells_one _ _) ?_)
    | (refine wpList_load_rowG (by kernel_rfl) 28 (.tmp 1) rfl w.heap.size rfl 28 (D6.cells dA1 pZ6) (0, 0) _ x1 Try.underlying28 rfl v6_info ?_)
    | (refine wpList_load_rowG (by kernel_rfl) 28 (.tmp 4) rfl w4.heap.size rfl 28 (D6.cells dA1 p4) (0, 0) _ x2 Try.underlying28 rfl v6_info ?_))
  refine (K1.same K2).mono ?_
  rintro e w6 ⟨⟨q, rfl, hq⟩, hb⟩
  obtain rfl : q = true := hq.out.trans (same6_self _)
  have hB6 := hB5.trans (hb.mono hB5.size)
  clear hq
  go_wp2
  go_ret
  exact ⟨rfl, hB6⟩
end Go.Proofs.Ytndmmkadceobjaa
