/-
  The walks of segment.ParseUDP4, ParseUDP6.
-/
import Derived.Test.YtaobnbjkhgcmlaaPu6
namespace Go.Proofs.Ytaobnbjkhgcmlaa
open Go.RowKit Go.Shelf

set_option maxRecDepth 100000 in
theorem parseUDP4_any (a b : List Int) (ha : a.length = 4) (hb : b.length = 4) (ra : InB a) (rb : InB b) (A : Option Addr) (c : Nat) (l : List Int) (w : World) (y : By w.heap.size w A l.length c l) :
    Calls Try.prog 26 #[.agg (u8s a).toArray, .agg (u8s b).toArray, .slice A l.length c] w fun e w' => ToldU (uGot false (pse4 a b l.length 17) l) (uNone false (pse4 a b l.length 17) l) (uErr false (pse4 a b l.length 17) l) w e w' := by
  have hB : Below w.heap.size w (((w.alloc (.cells (u8s a).toArray 34)).alloc (.cells (u8s b).toArray 34)).alloc (.cells #[.int .u16 0, .int .u16 0, .slice none 0 0] 28)) := (((Below.refl _ _).alloc (Nat.le_refl _) _).alloc (by simp) _).alloc (by simp; omega) _
  have hHa : Has (((w.alloc (.cells (u8s a).toArray 34)).alloc (.cells (u8s b).toArray 34)).alloc (.cells #[.int .u16 0, .int .u16 0, .slice none 0 0] 28)) w.heap.size (.cells (u8s a).toArray 34 (0, 0)) := ((Has.newAt rfl).alloc).alloc
  have hHb : Has (((w.alloc (.cells (u8s a).toArray 34)).alloc (.cells (u8s b).toArray 34)).alloc (.cells #[.int .u16 0, .int .u16 0, .slice none 0 0] 28)) (w.heap.size + 1) (.cells (u8s b).toArray 34 (0, 0)) := (Has.newAt (by simp)).alloc
  have hHn : Has (((w.alloc (.cells (u8s a).toArray 34)).alloc (.cells (u8s b).toArray 34)).alloc (.cells #[.int .u16 0, .int .u16 0, .slice none 0 0] 28)) (w.heap.size + 1 + 1) (.cells #[.int .u16 0, .int .u16 0, .slice none 0 0] 28 (0, 0)) := Has.newAt (by simp)
  have hia := addr4_info a ha
  have hib := addr4_info b hb
  have hpH := Lib.hid (fun g1 g2 w hA hB y => pudp4_any a b ha hb ra rb g1 g2 A c l w hA hB y)
  generalize uGot false (pse4 a b l.length 17) l = D at hpH ⊢
  generalize uNone false (pse4 a b l.length 17) l = q at hpH ⊢
  generalize uErr false (pse4 a b l.length 17) l = s at hpH ⊢
  go_enter Try.func26, Try.ntmps26
  go_wp2_with (first | (refine wpList_load_row rfl 34 (.tmp 3) rfl w.heap.size rfl 34 (u8s a).toArray (0, 0) _ hHa Try.underlying34 rfl hia ?_) | (refine wpList_load_row rfl 34 (.tmp 4) rfl (w.heap.size + 1) rfl 34 (u8s b).toArray (0, 0) _ hHb Try.underlying34 rfl hib ?_))
  refine (over4_any a b _).mono ?_
  rintro e w1 ⟨h1, h2, rfl, k1, k2, hb1⟩
  have hHn := hHn.below hb1 hHn.lt
  have hB1 := hB.trans (hb1.mono hB.size)
  clear hb1 hB hHa hHb
  have y1 := (y.below hB1 (Nat.le_refl _)).more (B' := w1.heap.size) hB1.size
  go_wp2_with fail
  refine (hpH.out h1 h2 w1 k1 k2 y1).mono ?_
  rintro e w2 ⟨A', c', rfl, hok, ho, hb2⟩
  have hH2 := hHn.below hb2 hHn.lt
  have ho2 := (ho.setRow (g := w.heap.size + 1 + 1) (cs := D.cells A' c') hHn.lt).more hB1.size
  have hB2 := (hB1.trans (hb2.mono hB1.size)).trans ((below_setRow' (w := w2) (g := w.heap.size + 1 + 1) (cs := D.cells A' c')).mono (by omega))
  clear ho hb2 hHn
  go_wp2_with (refine wpList_store_row rfl 28 (.tmp 6) (.tmp 14) rfl (w.heap.size + 1 + 1) _ rfl rfl 28 _ hH2 udp_info rfl (by simp [DU.cells, Value.oneCell']) ?_)
  exact bodyPost_ret (res_cell3 Try.results26 rfl (hH2.setRow_same.load (P := Try.prog) 28 Try.underlying28 rfl udp_info) rfl rfl) rfl ⟨A', c', rfl, hok, ho2, hB2⟩

/-- ParseUDP6 tells no bool -/
def ToldU2 (d : DU) (s : Int) (w : World) (e : Ending) (w' : World) : Prop := ∃ A c, e = .returned (.tuple #[.agg (d.cells A c), .int .i64 s]) ∧ d.ok ∧ OwnB w' w.heap.size (.slice A d.bl.length c) d.bl ∧ Below w.heap.size w w'
set_option maxRecDepth 100000 in
theorem parseUDP6_any (a b : List Int) (ha : a.length = 16) (hb : b.length = 16) (ra : InB a) (rb : InB b) (A : Option Addr) (c : Nat) (l : List Int) (w : World) (y : By w.heap.size w A l.length c l) :
    Calls Try.prog 28 #[.agg (u8s a).toArray, .agg (u8s b).toArray, .slice A l.length c] w fun e w' => ToldU2 (uGot true (pse6 a b l.length 17) l) (uErr true (pse6 a b l.length 17) l) w e w' := by
  have hB : Below w.heap.size w (((w.alloc (.cells (u8s a).toArray 36)).alloc (.cells (u8s b).toArray 36)).alloc (.cells #[.int .u16 0, .int .u16 0, .slice none 0 0] 28)) := (((Below.refl _ _).alloc (Nat.le_refl _) _).alloc (by simp) _).alloc (by simp; omega) _
  have hHa : Has (((w.alloc (.cells (u8s a).toArray 36)).alloc (.cells (u8s b).toArray 36)).alloc (.cells #[.int .u16 0, .int .u16 0, .slice none 0 0] 28)) w.heap.size (.cells (u8s a).toArray 36 (0, 0)) := ((Has.newAt rfl).alloc).alloc
  have hHb : Has (((w.alloc (.cells (u8s a).toArray 36)).alloc (.cells (u8s b).toArray 36)).alloc (.cells #[.int .u16 0, .int .u16 0, .slice none 0 0] 28)) (w.heap.size + 1) (.cells (u8s b).toArray 36 (0, 0)) := (Has.newAt (by simp)).alloc
  have hHn : Has (((w.alloc (.cells (u8s a).toArray 36)).alloc (.cells (u8s b).toArray 36)).alloc (.cells #[.int .u16 0, .int .u16 0, .slice none 0 0] 28)) (w.heap.size + 1 + 1) (.cells #[.int .u16 0, .int .u16 0, .slice none 0 0] 28 (0, 0)) := Has.newAt (by simp)
  have hia := addr6_info a ha
  have hib := addr6_info b hb
  have hpH := Lib.hid (fun g1 g2 w hA hB y => pudp6_any a b ha hb ra rb g1 g2 A c l w hA hB y)
  generalize uGot true (pse6 a b l.length 17) l = D at hpH ⊢
  generalize uNone true (pse6 a b l.length 17) l = q at hpH
  generalize uErr true (pse6 a b l.length 17) l = s at hpH ⊢
  go_enter Try.func28, Try.ntmps28
  go_wp2_with (first | (refine wpList_load_row rfl 36 (.tmp 3) rfl w.heap.size rfl 36 (u8s a).toArray (0, 0) _ hHa Try.underlying36 rfl hia ?_) | (refine wpList_load_row rfl 36 (.tmp 4) rfl (w.heap.size + 1) rfl 36 (u8s b).toArray (0, 0) _ hHb Try.underlying36 rfl hib ?_))
  refine (over6_any a b _).mono ?_
  rintro e w1 ⟨h1, h2, rfl, k1, k2, hb1⟩
  have hHn := hHn.below hb1 hHn.lt
  have hB1 := hB.trans (hb1.mono hB.size)
  clear hb1 hB hHa hHb
  have y1 := (y.below hB1 (Nat.le_refl _)).more (B' := w1.heap.size) hB1.size
  go_wp2_with fail
  refine (hpH.out h1 h2 w1 k1 k2 y1).mono ?_
  rintro e w2 ⟨A', c', rfl, hok, ho, hb2⟩
  have hH2 := hHn.below hb2 hHn.lt
  have hB2 := hB1.trans (hb2.mono hB1.size)
  have ho2 := ho
  have hlt := hHn.lt
  clear ho hb2 hHn
  have hN3 : Has (w2.alloc (.cells #[.int .u16 0, .int .u16 0, .slice none 0 0] 28)) w2.heap.size (.cells #[.int .u16 0, .int .u16 0, .slice none 0 0] 28 (0, 0)) := Has.newAt rfl
  have hw3 : Has ((w2.alloc (.cells #[.int .u16 0, .int .u16 0, .slice none 0 0] 28)).setRow w2.heap.size (D.cells A' c')) w2.heap.size (.cells (D.cells A' c') 28 (0, 0)) := hN3.setRow_same
  have hb3 : Below w2.heap.size w2 ((w2.alloc (.cells #[.int .u16 0, .int .u16 0, .slice none 0 0] 28)).setRow w2.heap.size (D.cells A' c')) := ((Below.refl _ _).alloc (Nat.le_refl _) _).trans below_setRow'
  have hH3 := hH2.below hb3 hH2.lt
  have ho3 := (ho2.below hb3)
  go_wp2_with (first
    | (refine wpList_store_row rfl 28 (.tmp 8) (.tmp 17) rfl w2.heap.size _ rfl rfl 28 _ hN3 udp_info rfl (by simp [DU.cells, Value.oneCell']) ?_)
    | (refine wpList_load_row rfl 28 (.tmp 8) rfl w2.heap.size rfl 28 (D.cells A' c') (0, 0) _ hw3 Try.underlying28 rfl udp_info ?_)
    | (refine wpList_store_row rfl 28 (.tmp 6) (.tmp 20) rfl (w.heap.size + 1 + 1) _ rfl rfl 28 _ hH3 udp_info rfl (by simp [DU.cells, Value.oneCell']) ?_))
  have ho4 := (ho3.setRow (g := w.heap.size + 1 + 1) (cs := D.cells A' c') hlt).more hB1.size
  have hB4 := (hB2.trans (hb3.mono hB2.size)).trans ((below_setRow' (w := (w2.alloc (.cells #[.int .u16 0, .int .u16 0, .slice none 0 0] 28)).setRow w2.heap.size (D.cells A' c')) (g := w.heap.size + 1 + 1) (cs := D.cells A' c')).mono (by omega))
  exact bodyPost_ret (res_cell2 Try.results28 rfl (hH3.setRow_same.load (P := Try.prog) 28 Try.underlying28 rfl udp_info) rfl) rfl ⟨A', c', rfl, hok, ho4, hB4⟩
end Go.Proofs.Ytaobnbjkhgcmlaa
