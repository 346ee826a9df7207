/-
  The walks of segment.ParseTCP4, ParseTCP6.
-/
import Derived.Test.YtaobnbjkhgcmlaaPt6
namespace Go.Proofs.Ytaobnbjkhgcmlaa
open Go.RowKit Go.Shelf

set_option maxRecDepth 100000 in
theorem parseTCP4_any (a b : List Int) (ha : a.length = 4) (hb : b.length = 4) (ra : InB a) (rb : InB b) (A : Option Addr) (c : Nat) (l : List Int) (w : World) (y : By w.heap.size w A l.length c l) :
    Calls Try.prog 29 #[.agg (u8s a).toArray, .agg (u8s b).toArray, .slice A l.length c] w fun e w' => ToldT (tGot (pse4 a b l.length 6) l) (tErr (pse4 a b l.length 6) l) w e w' := by
  have hB : Below w.heap.size w (((w.alloc (.cells (u8s a).toArray 34)).alloc (.cells (u8s b).toArray 34)).alloc (.cells #[.int .u16 0, .int .u16 0, .int .u32 0, .int .u32 0, .int .u8 0, .int .u16 0, .int .u16 0, .slice none 0 0, .slice none 0 0] 26)) := (((Below.refl _ _).alloc (Nat.le_refl _) _).alloc (by simp) _).alloc (by simp; omega) _
  have hHa : Has (((w.alloc (.cells (u8s a).toArray 34)).alloc (.cells (u8s b).toArray 34)).alloc (.cells #[.int .u16 0, .int .u16 0, .int .u32 0, .int .u32 0, .int .u8 0, .int .u16 0, .int .u16 0, .slice none 0 0, .slice none 0 0] 26)) w.heap.size (.cells (u8s a).toArray 34 (0, 0)) := ((Has.newAt rfl).alloc).alloc
  have hHb : Has (((w.alloc (.cells (u8s a).toArray 34)).alloc (.cells (u8s b).toArray 34)).alloc (.cells #[.int .u16 0, .int .u16 0, .int .u32 0, .int .u32 0, .int .u8 0, .int .u16 0, .int .u16 0, .slice none 0 0, .slice none 0 0] 26)) (w.heap.size + 1) (.cells (u8s b).toArray 34 (0, 0)) := (Has.newAt (by simp)).alloc
  have hHn : Has (((w.alloc (.cells (u8s a).toArray 34)).alloc (.cells (u8s b).toArray 34)).alloc (.cells #[.int .u16 0, .int .u16 0, .int .u32 0, .int .u32 0, .int .u8 0, .int .u16 0, .int .u16 0, .slice none 0 0, .slice none 0 0] 26)) (w.heap.size + 1 + 1) (.cells #[.int .u16 0, .int .u16 0, .int .u32 0, .int .u32 0, .int .u8 0, .int .u16 0, .int .u16 0, .slice none 0 0, .slice none 0 0] 26 (0, 0)) := Has.newAt (by simp)
  have hia := addr4_info a ha
  have hib := addr4_info b hb
  have hpH := Lib.hid (fun g1 g2 w hA hB y => ptcp4_any a b ha hb ra rb g1 g2 A c l w hA hB y)
  generalize tGot (pse4 a b l.length 6) l = D at hpH ⊢
  generalize tErr (pse4 a b l.length 6) l = s at hpH ⊢
  go_enter Try.func29, Try.ntmps29
  go_wp2_with (first | (refine wpList_load_row rfl 34 (.tmp 3) rfl w.heap.size rfl 34 (u8s a).toArray (0, 0) _ hHa Try.underlying34 rfl hia ?_) | (refine wpList_load_row rfl 34 (.tmp 4) rfl (w.heap.size + 1) rfl 34 (u8s b).toArray (0, 0) _ hHb Try.underlying34 rfl hib ?_))
  refine (over4_any a b _).mono ?_
  rintro e w1 ⟨h1, h2, rfl, k1, k2, hb1⟩
  have hHn := hHn.below hb1 hHn.lt
  have hB1 := hB.trans (hb1.mono hB.size)
  clear hb1 hB hHa hHb
  have y1 := (y.below hB1 (Nat.le_refl _)).more (B' := w1.heap.size) hB1.size
  go_wp2_with fail
  refine (hpH.out h1 h2 w1 k1 k2 y1).mono ?_
  rintro e w2 ⟨p', rfl, hok, ho, ho', hb2⟩
  have hH2 := hHn.below hb2 hHn.lt
  have ho2 := (ho.setRow (g := w.heap.size + 1 + 1) (cs := D.cells p') hHn.lt).more hB1.size
  have ho3 := (ho'.setRow (g := w.heap.size + 1 + 1) (cs := D.cells p') hHn.lt).more hB1.size
  have hB2 := (hB1.trans (hb2.mono hB1.size)).trans ((below_setRow' (w := w2) (g := w.heap.size + 1 + 1) (cs := D.cells p')).mono (by omega))
  clear ho ho' hb2 hHn
  go_wp2_with (refine wpList_store_row rfl 26 (.tmp 6) (.tmp 13) rfl (w.heap.size + 1 + 1) _ rfl rfl 26 _ hH2 tcp_info rfl (by simp [DT.cells, Value.oneCell']) ?_)
  exact bodyPost_ret (res_cell2 Try.results29 rfl (hH2.setRow_same.load (P := Try.prog) 26 Try.underlying26 rfl tcp_info) rfl) rfl ⟨p', rfl, hok, ho2, ho3, hB2⟩

set_option maxRecDepth 100000 in
theorem parseTCP6_any (a b : List Int) (ha : a.length = 16) (hb : b.length = 16) (ra : InB a) (rb : InB b) (A : Option Addr) (c : Nat) (l : List Int) (w : World) (y : By w.heap.size w A l.length c l) :
    Calls Try.prog 31 #[.agg (u8s a).toArray, .agg (u8s b).toArray, .slice A l.length c] w fun e w' => ToldT (tGot (pse6 a b l.length 6) l) (tErr (pse6 a b l.length 6) l) w e w' := by
  have hB : Below w.heap.size w (((w.alloc (.cells (u8s a).toArray 36)).alloc (.cells (u8s b).toArray 36)).alloc (.cells #[.int .u16 0, .int .u16 0, .int .u32 0, .int .u32 0, .int .u8 0, .int .u16 0, .int .u16 0, .slice none 0 0, .slice none 0 0] 26)) := (((Below.refl _ _).alloc (Nat.le_refl _) _).alloc (by simp) _).alloc (by simp; omega) _
  have hHa : Has (((w.alloc (.cells (u8s a).toArray 36)).alloc (.cells (u8s b).toArray 36)).alloc (.cells #[.int .u16 0, .int .u16 0, .int .u32 0, .int .u32 0, .int .u8 0, .int .u16 0, .int .u16 0, .slice none 0 0, .slice none 0 0] 26)) w.heap.size (.cells (u8s a).toArray 36 (0, 0)) := ((Has.newAt rfl).alloc).alloc
  have hHb : Has (((w.alloc (.cells (u8s a).toArray 36)).alloc (.cells (u8s b).toArray 36)).alloc (.cells #[.int .u16 0, .int .u16 0, .int .u32 0, .int .u32 0, .int .u8 0, .int .u16 0, .int .u16 0, .slice none 0 0, .slice none 0 0] 26)) (w.heap.size + 1) (.cells (u8s b).toArray 36 (0, 0)) := (Has.newAt (by simp)).alloc
  have hHn : Has (((w.alloc (.cells (u8s a).toArray 36)).alloc (.cells (u8s b).toArray 36)).alloc (.cells #[.int .u16 0, .int .u16 0, .int .u32 0, .int .u32 0, .int .u8 0, .int .u16 0, .int .u16 0, .slice none 0 0, .slice none 0 0] 26)) (w.heap.size + 1 + 1) (.cells #[.int .u16 0, .int .u16 0, .int .u32 0, .int .u32 0, .int .u8 0, .int .u16 0, .int .u16 0, .slice none 0 0, .slice none 0 0] 26 (0, 0)) := Has.newAt (by simp)
  have hia := addr6_info a ha
  have hib := addr6_info b hb
  have hpH := Lib.hid (fun g1 g2 w hA hB y => ptcp6_any a b ha hb ra rb g1 g2 A c l w hA hB y)
  generalize tGot (pse6 a b l.length 6) l = D at hpH ⊢
  generalize tErr (pse6 a b l.length 6) l = s at hpH ⊢
  go_enter Try.func31, Try.ntmps31
  go_wp2_with (first | (refine wpList_load_row rfl 36 (.tmp 3) rfl w.heap.size rfl 36 (u8s a).toArray (0, 0) _ hHa Try.underlying36 rfl hia ?_) | (refine wpList_load_row rfl 36 (.tmp 4) rfl (w.heap.size + 1) rfl 36 (u8s b).toArray (0, 0) _ hHb Try.underlying36 rfl hib ?_))
  refine (over6_any a b _).mono ?_
  rintro e w1 ⟨h1, h2, rfl, k1, k2, hb1⟩
  have hHn := hHn.below hb1 hHn.lt
  have hB1 := hB.trans (hb1.mono hB.size)
  clear hb1 hB hHa hHb
  have y1 := (y.below hB1 (Nat.le_refl _)).more (B' := w1.heap.size) hB1.size
  go_wp2_with fail
  refine (hpH.out h1 h2 w1 k1 k2 y1).mono ?_
  rintro e w2 ⟨p', rfl, hok, ho, ho', hb2⟩
  have hH2 := hHn.below hb2 hHn.lt
  have ho2 := (ho.setRow (g := w.heap.size + 1 + 1) (cs := D.cells p') hHn.lt).more hB1.size
  have ho3 := (ho'.setRow (g := w.heap.size + 1 + 1) (cs := D.cells p') hHn.lt).more hB1.size
  have hB2 := (hB1.trans (hb2.mono hB1.size)).trans ((below_setRow' (w := w2) (g := w.heap.size + 1 + 1) (cs := D.cells p')).mono (by omega))
  clear ho ho' hb2 hHn
  go_wp2_with (refine wpList_store_row rfl 26 (.tmp 6) (.tmp 13) rfl (w.heap.size + 1 + 1) _ rfl rfl 26 _ hH2 tcp_info rfl (by simp [DT.cells, Value.oneCell']) ?_)
  exact bodyPost_ret (res_cell2 Try.results31 rfl (hH2.setRow_same.load (P := Try.prog) 26 Try.underlying26 rfl tcp_info) rfl) rfl ⟨p', rfl, hok, ho2, ho3, hB2⟩
end Go.Proofs.Ytaobnbjkhgcmlaa
