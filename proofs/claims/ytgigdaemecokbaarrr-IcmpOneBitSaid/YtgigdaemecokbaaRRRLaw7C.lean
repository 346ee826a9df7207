/-
  The walk of IcmpBack.
-/
import Derived.Test.YtgigdaemecokbaaRRRLaw7A
import Derived.Test.YtgigdaemecokbaaRRRP7B
namespace Go.Proofs.YtgigdaemecokbaaRRR
open Go.RowKit Go.Shelf

theorem arr16_info (a : List Int) (ha : a.length = 16) : (Try.prog.info? 35).map (·.size) = some (u8s a).toArray.size := by
  rw [show (u8s a).toArray.size = 16 from by simp [u8s_length, ha]]
  kernel_rfl
theorem ByC.cut70 {B : Nat} {w : World} {A : Option Addr} {c : Nat} {l : List Int} (h : By B w A l.length c l) : By B w A (cut7 l).length c (cut7 l) := by
  unfold cut7
  by_cases hk : 70000 ≤ l.length
  · have := h.take hk
    rwa [show (l.take 70000).length = 70000 from by rw [List.length_take]; omega]
  · rw [List.take_of_length_le (by omega)]; exact h
theorem own_byC {w : World} {base : Nat} {A : Option Addr} {c : Nat} {l : List Int} (h : OwnB w base (.slice A l.length c) l) : By w.heap.size w A l.length c l := by
  obtain ⟨A', c', e, y⟩ := h.by_
  injection e with e1 e2 e3
  subst e1 e3
  exact y
def cutM (d : D7) : D7 := { d with bl := cut7 d.bl }

set_option maxRecDepth 100000 in
set_option maxHeartbeats 1000000 in
theorem back_walk (a b : List Int) (ha : a.length = 16) (ra : InB a) (hb : b.length = 16) (rb : InB b) (d : D7) (A : Option Addr) (c : Nat) (w : World) (hR : Rd7 w.heap.size w d A c) :
    Calls Try.prog 4 #[.agg (u8s a).toArray, .agg (u8s b).toArray, .agg (d.cells A c)] w fun e w' => e = .returned (.bool true) ∧ Below w.heap.size w w' := by
  have hB : Below w.heap.size w (((w.alloc (.cells (u8s a).toArray 35)).alloc (.cells (u8s b).toArray 35)).alloc (.cells (d.cells A c) 25)) := (((Below.refl _ _).alloc (Nat.le_refl _) _).alloc (by simp) _).alloc (by simp; omega) _
  have hHa : Has (((w.alloc (.cells (u8s a).toArray 35)).alloc (.cells (u8s b).toArray 35)).alloc (.cells (d.cells A c) 25)) w.heap.size (.cells (u8s a).toArray 35 (0, 0)) := ((Has.newAt rfl).alloc).alloc
  have hHb : Has (((w.alloc (.cells (u8s a).toArray 35)).alloc (.cells (u8s b).toArray 35)).alloc (.cells (d.cells A c) 25)) (w.heap.size + 1) (.cells (u8s b).toArray 35 (0, 0)) := (Has.newAt (by simp)).alloc
  have hHd : Has (((w.alloc (.cells (u8s a).toArray 35)).alloc (.cells (u8s b).toArray 35)).alloc (.cells (d.cells A c) 25)) (w.heap.size + 1 + 1) (.cells (d.cells A c) 25 (0, 0)) := Has.newAt (by simp)
  have hia := arr16_info a ha
  have hib := arr16_info b hb
  generalize hW : (((w.alloc (.cells (u8s a).toArray 35)).alloc (.cells (u8s b).toArray 35)).alloc (.cells (d.cells A c) 25)) = W at hB hHa hHb hHd
  have y1 := hR.body.below hB (Nat.le_refl _)
  have c3 := hHd.cell 3 (v := .slice A d.bl.length c) rfl
  have f3 := hHd.free 3
  go_enter Try.func4, Try.ntmps4
  go_wp2_with fail
  clear hW
  refine (cut7_any _ A c d.bl _ y1).mono ?_
  rintro e W1 ⟨rfl, y1, rfl⟩
  have hB2 := below_setCell hB (show w.heap.size ≤ w.heap.size + 1 + 1 by omega) 3 (.slice A (cut7 d.bl).length c)
  have hG1 : Has (W.setCell ⟨w.heap.size + 1 + 1, 3, none⟩ (.slice A (cut7 d.bl).length c)) (w.heap.size + 1 + 1) (.cells ((cutM d).cells A c) 25 (0, 0)) := hHd.setCell 3 (.slice A (cut7 d.bl).length c)
  have hHa := hHa.setCell_other (show w.heap.size ≠ w.heap.size + 1 + 1 by omega) 3 (.slice A (cut7 d.bl).length c)
  have hHb := hHb.setCell_other (show w.heap.size + 1 ≠ w.heap.size + 1 + 1 by omega) 3 (.slice A (cut7 d.bl).length c)
  have z1 : By w.heap.size (W.setCell ⟨w.heap.size + 1 + 1, 3, none⟩ (.slice A (cut7 d.bl).length c)) A (cutM d).bl.length c (cutM d).bl := (ByC.cut70 hR.body).below hB2 (Nat.le_refl _)
  have hok : (cutM d).ok := ⟨hR.ok.ty, hR.ok.code, hR.ok.rest⟩
  clear hB hHd
  generalize cutM d = d1 at hG1 z1 hok
  go_wp2_with (refine wpList_load_row rfl 25 (.tmp 5) rfl (w.heap.size + 1 + 1) rfl 25 (d1.cells A c) (0, 0) _ hG1 Try.underlying25 rfl icmp_info ?_)
  refine (write4_any d1 A c _ ⟨hok, z1.more hB2.size⟩).mono ?_
  rintro e w1 ⟨v1, s1, rfl, hs1, ho1, hb1⟩
  obtain ⟨L1, hL1⟩ : ∃ L, d1.write [] = L := ⟨_, rfl⟩
  rw [hL1] at ho1
  obtain ⟨A1, k1, rfl, y1⟩ := ho1.by_
  have hG1 := hG1.below hb1 hG1.lt
  have hHa := hHa.below hb1 hHa.lt
  have hHb := hHb.below hb1 hHb.lt
  have hB3 := hB2.trans (hb1.mono hB2.size)
  have z1 := z1.below hb1 hB2.size
  have hL1H := Lib.hid hL1
  clear hb1 hB2 ho1 hL1 c3 f3
  go_wp2_with (first | (refine wpList_load_row rfl 35 (.tmp 3) rfl w.heap.size rfl 35 (u8s a).toArray (0, 0) _ hHa Try.underlying35 rfl hia ?_) | (refine wpList_load_row rfl 35 (.tmp 4) rfl (w.heap.size + 1) rfl 35 (u8s b).toArray (0, 0) _ hHb Try.underlying35 rfl hib ?_) | (refine wpList_load_row rfl 25 (.tmp 5) rfl (w.heap.size + 1 + 1) rfl 25 (d1.cells A c) (0, 0) _ hG1 Try.underlying25 rfl icmp_info ?_))
  refine (write6_any a b ha hb ra rb d1 A c w1 ⟨hok, z1.more hB3.size⟩).mono ?_
  rintro e w2 ⟨v2, s2, rfl, hs2, ho2, hb2⟩
  obtain rfl : s2 = s1 := hs2.out.trans hs1.out.symm
  obtain ⟨ps, hps⟩ : ∃ ps, pse6 a b (8 + d1.bl.length) 58 = ps := ⟨_, rfl⟩
  rw [hps] at ho2
  obtain ⟨L2, hL2⟩ : ∃ L, d1.write ps = L := ⟨_, rfl⟩
  rw [hL2] at ho2
  obtain ⟨A2, k2, rfl, y2⟩ := ho2.by_
  have hG1 := hG1.below hb2 hG1.lt
  have hHa := hHa.below hb2 hHa.lt
  have hHb := hHb.below hb2 hHb.lt
  have hB4 := hB3.trans (hb2.mono hB3.size)
  have z1 := z1.below hb2 hB3.size
  have y1 := (y1.below hb2 (Nat.le_refl _)).more (B' := w2.heap.size) hb2.size
  have hL1 := hL1H.out
  clear hb2 hB3 ho2 hL1H hs2
  by_cases h0 : 65527 < d1.bl.length
  · obtain rfl : s2 = 2 := hs1.out.trans (if_pos h0)
    obtain rfl : L1 = [] := hL1.symm.trans (if_pos h0)
    obtain rfl : L2 = [] := hL2.symm.trans (if_pos h0)
    clear hL1 hL2 hs1 h0 hps
    go_wp2_with fail
    refine (alive_any _).mono ?_
    rintro e w3 ⟨rfl, hb3⟩
    go_wp2
    go_ret
    exact ⟨rfl, hB4.trans (hb3.mono hB4.size)⟩
  · obtain rfl : s2 = 0 := hs1.out.trans (if_neg h0)
    have hl : d1.bl.length ≤ 65527 := by omega
    have e1 : L1 = d1.bytes [] := hL1.symm.trans (if_neg h0)
    have e2 : L2 = d1.bytes ps := hL2.symm.trans (if_neg h0)
    have hpr : InB ps := by rw [← hps]; exact pse6_rng ra rb (by omega) (by decide)
    have q1 := parse_write d1 hok [] InB.nil z1.rng rfl hl
    have q2 := parse_write d1 hok ps hpr z1.rng (by rw [← hps, pse6_len ha hb]) hl
    have n2 : L2.length = 8 + d1.bl.length := by rw [e2]; exact d1.bytes_len ps
    have hp4 := parse4_any A1 k1 L1 w2 y1
    rw [e1] at hp4
    rw [q1.1, q1.2, ← e1] at hp4
    have hpq : pse6 a b (L2.length : Int) 58 = ps := by rw [n2, ← hps]; congr 1
    have q3 : parse7 L2 (pse6 a b (L2.length : Int) 58) = d1 ∧ perr7 L2 (pse6 a b (L2.length : Int) 58) = 0 := by rw [hpq, e2]; exact q2
    have hp4 := Lib.hid hp4
    have q3 := Lib.hid q3
    clear hL1 hL2 hs1 h0 hps e1 e2 q1 q2 n2 hpq hl
    go_wp2_with fail
    refine hp4.out.mono ?_
    rintro e w3 ⟨⟨A3, c3, s3, rfl, hs3, _, ho3⟩, hb3⟩
    obtain rfl : s3 = 0 := hs3.out
    have hZ : Has (w3.alloc (.cells #[.int .u8 0, .int .u8 0, .int .u32 0, .slice none 0 0] 25)) w3.heap.size (.cells #[.int .u8 0, .int .u8 0, .int .u32 0, .slice none 0 0] 25 (0, 0)) := Has.newAt rfl
    have hX : Below w3.heap.size w3 ((w3.alloc (.cells #[.int .u8 0, .int .u8 0, .int .u32 0, .slice none 0 0] 25)).setRow w3.heap.size (d1.cells A3 c3)) := ((Below.refl _ _).alloc (Nat.le_refl _) (.cells #[.int .u8 0, .int .u8 0, .int .u32 0, .slice none 0 0] 25)).trans below_setRow'
    have hG3 : Has ((w3.alloc (.cells #[.int .u8 0, .int .u8 0, .int .u32 0, .slice none 0 0] 25)).setRow w3.heap.size (d1.cells A3 c3)) w3.heap.size (.cells (d1.cells A3 c3) 25 (0, 0)) := hZ.setRow_same
    have hB5 := (hB4.trans (hb3.mono hB4.size))
    have hB5 := hB5.trans (hX.mono hB5.size)
    have hG1 := (hG1.below hb3 hG1.lt).below hX (Nat.lt_of_lt_of_le hG1.lt hb3.size)
    have hHa := (hHa.below hb3 hHa.lt).below hX (Nat.lt_of_lt_of_le hHa.lt hb3.size)
    have hHb := (hHb.below hb3 hHb.lt).below hX (Nat.lt_of_lt_of_le hHb.lt hb3.size)
    have z1 := (z1.below hb3 hB4.size).below hX (Nat.le_trans hB4.size hb3.size)
    have y2 := (((y2.below hb3 (Nat.le_refl _)).more hb3.size).below hX (Nat.le_refl _)).more hX.size
    have z3 := ((own_byC ho3).below hX (Nat.le_refl _)).more hX.size
    clear hp4 hs3 ho3 hb3 hB4 y1 hX
    go_wp2_with (first | (refine wpList_store_row rfl 25 (.tmp 11) (.tmp 54) rfl w3.heap.size _ rfl rfl 25 _ hZ icmp_info rfl (by simp [D7.cells, Value.oneCell']) ?_) | (refine wpList_load_row rfl 35 (.tmp 3) rfl w.heap.size rfl 35 (u8s a).toArray (0, 0) _ hHa Try.underlying35 rfl hia ?_) | (refine wpList_load_row rfl 35 (.tmp 4) rfl (w.heap.size + 1) rfl 35 (u8s b).toArray (0, 0) _ hHb Try.underlying35 rfl hib ?_))
    clear hZ
    generalize hg3 : w3.heap.size = g3 at hG1 hHa hHb z1 y2 z3 hB5 hG3 ⊢
    clear hg3
    generalize (w3.alloc (.cells #[.int .u8 0, .int .u8 0, .int .u32 0, .slice none 0 0] 25)).setRow g3 (d1.cells A3 c3) = W4 at hG1 hHa hHb z1 y2 z3 hB5 hG3 ⊢
    have hp6 := parse6_any a b ha hb ra rb A2 k2 L2 W4 y2
    rw [q3.out.1, q3.out.2] at hp6
    refine hp6.mono ?_
    rintro e w5 ⟨⟨A5, c5, s5, rfl, hs5, _, ho5⟩, hb5⟩
    obtain rfl : s5 = 0 := hs5.out
    have hZ : Has (w5.alloc (.cells #[.int .u8 0, .int .u8 0, .int .u32 0, .slice none 0 0] 25)) w5.heap.size (.cells #[.int .u8 0, .int .u8 0, .int .u32 0, .slice none 0 0] 25 (0, 0)) := Has.newAt rfl
    have hX : Below w5.heap.size w5 ((w5.alloc (.cells #[.int .u8 0, .int .u8 0, .int .u32 0, .slice none 0 0] 25)).setRow w5.heap.size (d1.cells A5 c5)) := ((Below.refl _ _).alloc (Nat.le_refl _) (.cells #[.int .u8 0, .int .u8 0, .int .u32 0, .slice none 0 0] 25)).trans below_setRow'
    have hG5 : Has ((w5.alloc (.cells #[.int .u8 0, .int .u8 0, .int .u32 0, .slice none 0 0] 25)).setRow w5.heap.size (d1.cells A5 c5)) w5.heap.size (.cells (d1.cells A5 c5) 25 (0, 0)) := hZ.setRow_same
    have hB6 := (hB5.trans (hb5.mono hB5.size))
    have hB6 := hB6.trans (hX.mono hB6.size)
    have hG1 := (hG1.below hb5 hG1.lt).below hX (Nat.lt_of_lt_of_le hG1.lt hb5.size)
    have hG3 := (hG3.below hb5 hG3.lt).below hX (Nat.lt_of_lt_of_le hG3.lt hb5.size)
    have z1 := ((z1.below hb5 hB5.size).below hX (Nat.le_trans hB5.size hb5.size)).more hB6.size
    have z3 := ((z3.below hb5 (Nat.le_refl _)).below hX hb5.size).more (B' := ((w5.alloc (.cells #[.int .u8 0, .int .u8 0, .int .u32 0, .slice none 0 0] 25)).setRow w5.heap.size (d1.cells A5 c5)).heap.size) (Nat.le_trans hb5.size hX.size)
    have z5 := ((own_byC ho5).below hX (Nat.le_refl _)).more hX.size
    clear hp6 hs5 ho5 hb5 hB5 y2 hX q3 hHa hHb
    go_wp2_with (first | (refine wpList_store_row rfl 25 (.tmp 13) (.tmp 61) rfl w5.heap.size _ rfl rfl 25 _ hZ icmp_info rfl (by simp [D7.cells, Value.oneCell']) ?_) | (refine wpList_load_rowG (by kernel_rfl) 25 (.tmp 11) rfl g3 rfl 25 (d1.cells A3 c3) (0, 0) _ hG3 Try.underlying25 rfl icmp_info ?_) | (refine wpList_load_rowG (by kernel_rfl) 25 (.tmp 5) rfl (w.heap.size + 1 + 1) rfl 25 (d1.cells A c) (0, 0) _ hG1 Try.underlying25 rfl icmp_info ?_))
    clear hZ
    generalize hg5 : w5.heap.size = g5 at hG1 hG3 z1 z3 z5 hB6 hG5 ⊢
    clear hg5
    generalize (w5.alloc (.cells #[.int .u8 0, .int .u8 0, .int .u32 0, .slice none 0 0] 25)).setRow g5 (d1.cells A5 c5) = W6 at hG1 hG3 z1 z3 z5 hB6 hG5 ⊢
    refine (rsame_any _ _ d1 d1 A3 A c3 c W6 z3 z1 (Nat.le_refl _) (Nat.le_refl _)).mono ?_
    rintro e w7 ⟨q, rfl, hq, hb7⟩
    obtain rfl : q = true := hq.out.trans (by simp [same7])
    have hG1 := hG1.below hb7 hG1.lt
    have hG5 := hG5.below hb7 hG5.lt
    have hB7 := hB6.trans (hb7.mono hB6.size)
    have z1 := (z1.below hb7 (Nat.le_refl _)).more (B' := w7.heap.size) hb7.size
    have z5 := (z5.below hb7 (Nat.le_refl _)).more (B' := w7.heap.size) hb7.size
    clear hq hb7 hB6 z3 hG3
    go_wp2_with (first | (refine wpList_load_rowG (by kernel_rfl) 25 (.tmp 13) rfl g5 rfl 25 (d1.cells A5 c5) (0, 0) _ hG5 Try.underlying25 rfl icmp_info ?_) | (refine wpList_load_rowG (by kernel_rfl) 25 (.tmp 5) rfl (w.heap.size + 1 + 1) rfl 25 (d1.cells A c) (0, 0) _ hG1 Try.underlying25 rfl icmp_info ?_))
    refine (rsame_any _ _ d1 d1 A5 A c5 c w7 z5 z1 (Nat.le_refl _) (Nat.le_refl _)).mono ?_
    rintro e w8 ⟨q, rfl, hq, hb8⟩
    obtain rfl : q = true := hq.out.trans (by simp [same7])
    have hB8 := hB7.trans (hb8.mono hB7.size)
    clear hq hb8 hB7 z1 z5 hG1 hG5
    go_wp2_with fail
    refine (alive_any _).mono ?_
    rintro e w9 ⟨rfl, hb9⟩
    go_wp2
    go_ret
    exact ⟨rfl, hB8.trans (hb9.mono hB8.size)⟩
end Go.Proofs.YtgigdaemecokbaaRRR
