/-
  The walk of SegmentClamps.
-/
import Derived.Test.YtaobnbjkhgcmlaaRcl6
import Derived.Test.YtaobnbjkhgcmlaaLaw6A
import Derived.Test.YtaobnbjkhgcmlaaSg1
namespace Go.Proofs.Ytaobnbjkhgcmlaa
open Go.RowKit Go.Shelf

set_option maxRecDepth 100000 in
set_option maxHeartbeats 4000000 in
theorem clamps_walk (t : DT) (p : WT) (most : Int) (w : World) (rt : RdT w.heap.size w t p) (hs1 : t.ol.length ≤ 140737488355328) (hs2 : t.bl.length ≤ 140737488355328) (hm : -9223372036854775808 ≤ most ∧ most ≤ 9223372036854775807) :
    Calls Try.prog 8 #[.agg (t.cells p), .int .i64 most] w fun e w' => e = .returned (.bool true) ∧ Below w.heap.size w w' := by
  have hT : Has (w.alloc (.cells (t.cells p) 26)) w.heap.size (.cells (t.cells p) 26 (0, 0)) := Has.newAt rfl
  have hB : Below w.heap.size w (w.alloc (.cells (t.cells p) 26)) := (Below.refl _ _).alloc (Nat.le_refl _) _
  obtain ⟨D, hD⟩ : ∃ D, clampD t most = D := ⟨_, rfl⟩
  obtain ⟨Q, hQ⟩ : ∃ Q, clampQ t most = Q := ⟨_, rfl⟩
  have hDH := Lib.hid hD
  have hQH := Lib.hid hQ
  clear hD hQ
  go_enter Try.func8, Try.ntmps8
  go_wp2_with (refine wpList_load_row rfl 26 (.tmp 2) rfl w.heap.size rfl 26 (t.cells p) (0, 0) _ hT Try.underlying26 rfl tcp_info ?_)
  refine (mss_any t p _ ((rt.below hB (Nat.le_refl _)).more hB.size) hs1).mono ?_
  rintro e w1 ⟨⟨n, q, rfl, hnq⟩, hb⟩
  have hT := hT.below hb hT.lt
  have hB := hB.trans (hb.mono hB.size)
  clear hb
  go_wp2_with (refine wpList_load_row rfl 26 (.tmp 2) rfl w.heap.size rfl 26 (t.cells p) (0, 0) _ hT Try.underlying26 rfl tcp_info ?_)
  refine (rmss_any t p _ ((rt.below hB (Nat.le_refl _)).more hB.size) hs1).mono ?_
  rintro e w2 ⟨⟨n', q', rfl, hnq'⟩, hb⟩
  obtain rfl : n' = n := hnq'.out.1.trans hnq.out.1.symm
  obtain rfl : q' = q := hnq'.out.2.trans hnq.out.2.symm
  have hT := hT.below hb hT.lt
  have hB := hB.trans (hb.mono hB.size)
  clear hb hnq hnq'
  go_wp2_with (refine wpList_load_row rfl 26 (.tmp 2) rfl w.heap.size rfl 26 (t.cells p) (0, 0) _ hT Try.underlying26 rfl tcp_info ?_)
  refine (clamp_any t p most _ ((rt.below hB (Nat.le_refl _)).more hB.size) hs1 hs2 hm).mono ?_
  rw [hDH.out, hQH.out]
  rintro e w3 ⟨p9, rfl, hR, hb⟩
  have hN : Has (w3.alloc (.cells #[.int .u16 0, .int .u16 0, .int .u32 0, .int .u32 0, .int .u8 0, .int .u16 0, .int .u16 0, .slice none 0 0, .slice none 0 0] 26)) w3.heap.size (.cells #[.int .u16 0, .int .u16 0, .int .u32 0, .int .u32 0, .int .u8 0, .int .u16 0, .int .u16 0, .slice none 0 0, .slice none 0 0] 26 (0, 0)) := Has.newAt rfl
  have hnew := KT.new (cs := #[.int .u16 0, .int .u16 0, .int .u32 0, .int .u32 0, .int .u8 0, .int .u16 0, .int .u16 0, .slice none 0 0, .slice none 0 0]) hR.opt hR.body
  have hT := (hT.below hb hT.lt).below hnew.2 (Nat.lt_of_lt_of_le hT.lt hb.size)
  have hB := (hB.trans (hb.mono hB.size)).trans (hnew.2.mono (Nat.le_trans hB.size hb.size))
  have k9 := hnew.1
  clear hb hnew hR
  go_wp2_with (first | (refine wpList_store_row rfl 26 (.tmp 9) (.tmp 27) rfl w3.heap.size _ rfl rfl 26 _ hN tcp_info rfl (by simp [DT.cells, Value.oneCell']) ?_) | (refine wpList_load_row rfl 26 (.tmp 2) rfl w.heap.size rfl 26 (t.cells p) (0, 0) _ hT Try.underlying26 rfl tcp_info ?_))
  clear hN
  generalize (w3.alloc (.cells #[.int .u16 0, .int .u16 0, .int .u32 0, .int .u32 0, .int .u8 0, .int .u16 0, .int .u16 0, .slice none 0 0, .slice none 0 0] 26)).setRow w3.heap.size (D.cells p9) = W3 at hT hB k9 ⊢
  generalize w3.heap.size = g9 at k9 ⊢
  refine (rclamp_any t p most _ ((rt.below hB (Nat.le_refl _)).more hB.size) hs1 hm).mono ?_
  rw [hDH.out, hQH.out]
  rintro e w4 ⟨p11, rfl, hR, hb⟩
  have hN : Has (w4.alloc (.cells #[.int .u16 0, .int .u16 0, .int .u32 0, .int .u32 0, .int .u8 0, .int .u16 0, .int .u16 0, .slice none 0 0, .slice none 0 0] 26)) w4.heap.size (.cells #[.int .u16 0, .int .u16 0, .int .u32 0, .int .u32 0, .int .u8 0, .int .u16 0, .int .u16 0, .slice none 0 0, .slice none 0 0] 26 (0, 0)) := Has.newAt rfl
  have hnew := KT.new (cs := #[.int .u16 0, .int .u16 0, .int .u32 0, .int .u32 0, .int .u8 0, .int .u16 0, .int .u16 0, .slice none 0 0, .slice none 0 0]) hR.opt hR.body
  have hB := (hB.trans (hb.mono hB.size)).trans (hnew.2.mono (Nat.le_trans hB.size hb.size))
  have k9 := (k9.below hb).below hnew.2
  have k11 := hnew.1
  clear hb hnew hR hT
  go_wp2_with (first | (refine wpList_store_row rfl 26 (.tmp 11) (.tmp 33) rfl w4.heap.size _ rfl rfl 26 _ hN tcp_info rfl (by simp [DT.cells, Value.oneCell']) ?_) | (refine wpList_load_rowG (by kernel_rfl) 26 (.tmp 9) rfl _ rfl 26 (D.cells p9) (0, 0) _ k9.has Try.underlying26 rfl tcp_info ?_) | (refine wpList_load_rowG (by kernel_rfl) 26 (.tmp 11) rfl _ rfl 26 (D.cells p11) (0, 0) _ k11.has Try.underlying26 rfl tcp_info ?_))
  clear hN
  generalize (w4.alloc (.cells #[.int .u16 0, .int .u16 0, .int .u32 0, .int .u32 0, .int .u8 0, .int .u16 0, .int .u16 0, .slice none 0 0, .slice none 0 0] 26)).setRow w4.heap.size (D.cells p11) = W4 at hB k9 k11 ⊢
  generalize w4.heap.size = g11 at k11 ⊢
  refine (rsameT_any _ _ D D p9 p11 _ k9.opt k11.opt k9.row k11.row (Nat.le_refl _) (Nat.le_refl _)).mono ?_
  rintro e w5 ⟨b, rfl, hb, hbb⟩
  obtain rfl : b = true := by rw [hb.out, sameT_self]
  have hB := hB.trans (hbb.mono hB.size)
  clear hb hbb k9 k11
  go_wp2_with fail
  refine (awake_any _).mono ?_
  rintro e w6 ⟨rfl, hb⟩
  go_wp2
  go_ret
  exact ⟨rfl, hB.trans (hb.mono hB.size)⟩
end Go.Proofs.Ytaobnbjkhgcmlaa
