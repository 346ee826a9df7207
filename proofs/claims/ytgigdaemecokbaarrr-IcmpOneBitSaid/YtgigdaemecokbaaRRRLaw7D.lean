/-
  The walk of IcmpOneBit.
-/
import Derived.Test.YtgigdaemecokbaaRRRLaw7C
import Derived.Test.YtgigdaemecokbaaRRRP7C
import Derived.Test.YtgigdaemecokbaaRRRMem3
import Derived.Test.YtgigdaemecokbaaRRRReg2
namespace Go.Proofs.YtgigdaemecokbaaRRR
open Go.RowKit Go.Shelf

theorem own_byN {w : World} {base n : Nat} {A : Option Addr} {c : Nat} {l : List Int} (h : OwnB w base (.slice A n c) l) : By w.heap.size w A n c l := by
  obtain ⟨A', c', e, y⟩ := h.by_
  injection e with e1 e2 e3
  subst e1 e2 e3
  exact y
theorem parse4_n (A : Option Addr) (n c : Nat) (l : List Int) (w : World) (hl : By w.heap.size w A n c l) :
    Calls Try.prog 20 #[.slice A n c] w fun e w' => Told7 w.heap.size w' (parse7 l []) (perr7 l []) e ∧ Below w.heap.size w w' := by
  have := hl.len
  subst this
  exact parse4_any A c l w hl
theorem parse6_n (a b : List Int) (ha : a.length = 16) (hb : b.length = 16) (ra : InB a) (rb : InB b) (A : Option Addr) (n c : Nat) (l : List Int) (w : World) (hl : By w.heap.size w A n c l) :
    Calls Try.prog 21 #[.agg (u8s a).toArray, .agg (u8s b).toArray, .slice A n c] w fun e w' => Told7 w.heap.size w' (parse7 l (pse6 a b n 58)) (perr7 l (pse6 a b n 58)) e ∧ Below w.heap.size w w' := by
  have := hl.len
  subst this
  exact parse6_any a b ha hb ra rb A c l w hl
theorem q_flip (t : TypeId) (x J : Int) (hx : 0 ≤ x ∧ x ≤ 255) (hj : 0 ≤ J ∧ J < 8) (w : World) : (binOp .xor t (.int .u8 x) (.int .u8 (2 ^ J.toNat))).run Try.prog w = .ok (.int .u8 (flip x J)) w := by
  have hp : 1 ≤ 2 ^ J.toNat ∧ 2 ^ J.toNat ≤ 128 := ⟨Nat.one_le_two_pow, Nat.le_trans (Nat.pow_le_pow_right (by decide) (show J.toNat ≤ 7 by omega)) (by decide)⟩
  have hc : ((2 ^ J.toNat : Int)) = ((2 ^ J.toNat : Nat) : Int) := by simp
  have := q_xor (P := Try.prog) t x ((2 ^ J.toNat : Nat) : Int) hx (by omega) w
  rw [hc, this]
  rfl

set_option maxRecDepth 100000 in
set_option maxHeartbeats 1000000 in
theorem bit_walk (a b : List Int) (ha : a.length = 16) (ra : InB a) (hb : b.length = 16) (rb : InB b) (d : D7) (A : Option Addr) (c : Nat) (bit : Int) (hbit : 0 ≤ bit ∧ bit < 4294967296) (w : World) (hR : Rd7 w.heap.size w d A c) :
    Calls Try.prog 5 #[.agg (u8s a).toArray, .agg (u8s b).toArray, .agg (d.cells A c), .int .u32 bit] w fun e w' => e = .returned (.bool true) ∧ Below w.heap.size w w' := by
  have hB : Below w.heap.size w (((w.alloc (.cells (u8s a).toArray 35)).alloc (.cells (u8s b).toArray 35)).alloc (.cells (d.cells A c) 25)) := (((Below.refl _ _).alloc (Nat.le_refl _) _).alloc (by simp) _).alloc (by simp; omega) _
  have hHa : Has (((w.alloc (.cells (u8s a).toArray 35)).alloc (.cells (u8s b).toArray 35)).alloc (.cells (d.cells A c) 25)) w.heap.size (.cells (u8s a).toArray 35 (0, 0)) := ((Has.newAt rfl).alloc).alloc
  have hHb : Has (((w.alloc (.cells (u8s a).toArray 35)).alloc (.cells (u8s b).toArray 35)).alloc (.cells (d.cells A c) 25)) (w.heap.size + 1) (.cells (u8s b).toArray 35 (0, 0)) := (Has.newAt (by simp)).alloc
  have hHd : Has (((w.alloc (.cells (u8s a).toArray 35)).alloc (.cells (u8s b).toArray 35)).alloc (.cells (d.cells A c) 25)) (w.heap.size + 1 + 1) (.cells (d.cells A c) 25 (0, 0)) := Has.newAt (by simp)
  have hia := arr16_info a ha
  have hib := arr16_info b hb
  generalize hW : (((w.alloc (.cells (u8s a).toArray 35)).alloc (.cells (u8s b).toArray 35)).alloc (.cells (d.cells A c) 25)) = W at hB hHa hHb hHd
  have y1 := hR.body.below hB (Nat.le_refl _)
  have c3 := hHd.cell 3 (v := .slice A d.bl.length c) rfl
  have f3 := hHd.free 3
  go_enter Try.func5, Try.ntmps5
  go_wp2_with fail
  clear hW
  refine (cut7_any _ A c d.bl _ y1).mono ?_
  rintro e W1 ⟨rfl, y1, rfl⟩
  have hB2 := below_setCell hB (show w.heap.size ≤ w.heap.size + 1 + 1 by omega) 3 (.slice A (cut7 d.bl).length c)
  have hG1 : Has (W.setCell ⟨w.heap.size + 1 + 1, 3, none⟩ (.slice A (cut7 d.bl).length c)) (w.heap.size + 1 + 1) (.cells ((cutM d).cells A c) 25 (0, 0)) := hHd.setCell 3 (.slice A (cut7 d.bl).length c)
  have hHa := hHa.setCell_other (show w.heap.size ≠ w.heap.size + 1 + 1 by omega) 3 (.slice A (cut7 d.bl).length c)
  have hHb := hHb.setCell_other (show w.heap.size + 1 ≠ w.heap.size + 1 + 1 by omega) 3 (.slice A (cut7 d.bl).length c)
  have z1 : By w.heap.size (W.setCell ⟨w.heap.size + 1 + 1, 3, none⟩ (.slice A (cut7 d.bl).length c)) A (cutM d).bl.length c (cutM d).bl := (ByC.cut70 hR.body).below hB2 (Nat.le_refl _)
  have hok : (cutM d).ok := ⟨hR.ok.ty, hR.ok.code, hR.ok.rest⟩
  clear hB hHd
  generalize cutM d = d1 at hG1 z1 hok
  have hWlt := hG1.lt
  have hW2 := hB2.size
  go_wp2_with (refine wpList_load_row rfl 25 (.tmp 6) rfl (w.heap.size + 1 + 1) rfl 25 (d1.cells A c) (0, 0) _ hG1 Try.underlying25 rfl icmp_info ?_)
  refine (write4_any d1 A c _ ⟨hok, z1.more hB2.size⟩).mono ?_
  rintro e w1 ⟨v1, s1, rfl, hs1, ho1, hb1⟩
  obtain ⟨L1, hL1⟩ : ∃ L, d1.write [] = L := ⟨_, rfl⟩
  rw [hL1] at ho1
  obtain ⟨A1, k1, rfl, y1⟩ := ho1.by_
  have hbase := hB2.size
  have hG1 := hG1.below hb1 hG1.lt
  have hHa := hHa.below hb1 hHa.lt
  have hHb := hHb.below hb1 hHb.lt
  have hB3 := hB2.trans (hb1.mono hB2.size)
  have z1 := z1.below hb1 hB2.size
  have hL1H := Lib.hid hL1
  clear hb1 hB2 hL1 c3 f3 y1
  go_wp2_with (first | (refine wpList_load_row rfl 35 (.tmp 4) rfl w.heap.size rfl 35 (u8s a).toArray (0, 0) _ hHa Try.underlying35 rfl hia ?_) | (refine wpList_load_row rfl 35 (.tmp 5) rfl (w.heap.size + 1) rfl 35 (u8s b).toArray (0, 0) _ hHb Try.underlying35 rfl hib ?_) | (refine wpList_load_row rfl 25 (.tmp 6) rfl (w.heap.size + 1 + 1) rfl 25 (d1.cells A c) (0, 0) _ hG1 Try.underlying25 rfl icmp_info ?_))
  refine (write6_any a b ha hb ra rb d1 A c w1 ⟨hok, z1.more hB3.size⟩).mono ?_
  rintro e w2 ⟨v2, s2, rfl, hs2, ho2, hb2⟩
  obtain rfl : s2 = s1 := hs2.out.trans hs1.out.symm
  obtain ⟨ps, hps⟩ : ∃ ps, pse6 a b (8 + d1.bl.length) 58 = ps := ⟨_, rfl⟩
  rw [hps] at ho2
  obtain ⟨L2, hL2⟩ : ∃ L, d1.write ps = L := ⟨_, rfl⟩
  rw [hL2] at ho2
  obtain ⟨A2, k2, rfl, y2⟩ := ho2.by_
  have hG1 := hG1.below hb2 hG1.lt
  have hHa := hHa.below hb2 hHa.lt
  have hHb := hHb.below hb2 hHb.lt
  have hB4 := hB3.trans (hb2.mono hB3.size)
  have z1 := z1.below hb2 hB3.size
  have o1 := ho1.below hb2
  have hL1 := hL1H.out
  clear hb2 hB3 hL1H hs2
  by_cases h0 : 65527 < d1.bl.length
  · obtain rfl : s2 = 2 := hs1.out.trans (if_pos h0)
    obtain rfl : L1 = [] := hL1.symm.trans (if_pos h0)
    obtain rfl : L2 = [] := hL2.symm.trans (if_pos h0)
    clear hL1 hL2 hs1 h0 hps
    go_wp2_with fail
    refine (alive_any _).mono ?_
    rintro e w3 ⟨rfl, hb3⟩
    go_wp2
    go_ret
    exact ⟨rfl, hB4.trans (hb3.mono hB4.size)⟩
  · obtain rfl : s2 = 0 := hs1.out.trans (if_neg h0)
    have hl : d1.bl.length ≤ 65527 := by omega
    have e1 : L1 = d1.bytes [] := hL1.symm.trans (if_neg h0)
    have e2 : L2 = d1.bytes ps := hL2.symm.trans (if_neg h0)
    have hpr : InB ps := by rw [← hps]; exact pse6_rng ra rb (by omega) (by decide)
    have q1 := parse_write d1 hok [] InB.nil z1.rng rfl hl
    have q2 := parse_write d1 hok ps hpr z1.rng (by rw [← hps, pse6_len ha hb]) hl
    have n2 : L2.length = 8 + d1.bl.length := by rw [e2]; exact d1.bytes_len ps
    have n1 : L1.length = 8 + d1.bl.length := by rw [e1]; exact d1.bytes_len []
    have s1 : sumw ([] ++ L1) = 65535 := by rw [e1]; exact sum_right d1 hok [] InB.nil z1.rng rfl
    have s2 : sumw (ps ++ L2) = 65535 := by rw [e2]; exact sum_right d1 hok ps hpr z1.rng (by rw [← hps, pse6_len ha hb])
    have hpe : ps.length % 2 = 0 := by rw [← hps, pse6_len ha hb]
    have r1 := o1.rng
    have r2 := ho2.rng
    obtain ⟨N, hN⟩ : ∃ N, N = 8 + d1.bl.length := ⟨_, rfl⟩
    rw [← hN] at n1 n2
    have hN1 : 8 ≤ N ∧ N ≤ 65535 := by omega
    have hpq : pse6 a b (N : Int) 58 = ps := by rw [hN, ← hps]; congr 1
    rw [n1] at o1 ⊢
    rw [n2] at ho2 y2 ⊢
    obtain ⟨K, hK⟩ : ∃ K, bit % (8 * (N : Int)) = K := ⟨_, rfl⟩
    have hK2 : 0 ≤ K ∧ K < 8 * (N : Int) := by rw [← hK]; exact ⟨Int.emod_nonneg _ (by omega), Int.emod_lt_of_pos _ (by omega)⟩
    have n1H := Lib.hid n1
    have n2H := Lib.hid n2
    have hpqH := Lib.hid hpq
    have s1H := Lib.hid s1
    have s2H := Lib.hid s2
    have hpeH := Lib.hid hpe
    clear hL1 hL2 hs1 h0 hps e1 e2 q1 q2 n1 n2 hpq hl s1 s2 hpe hN
    -- the bit's place
    obtain ⟨i, hi⟩ : ∃ i : Nat, K / 8 = (i : Int) := ⟨(K / 8).toNat, by omega⟩
    obtain ⟨J, hJ⟩ : ∃ J, K % 8 = J := ⟨_, rfl⟩
    have hJ8 := Lib.hid (show 0 ≤ J ∧ J < 8 by omega)
    have hiN := Lib.hid (show i < N by omega)
    have qi := Lib.hid (fun (t : TypeId) (w : World) => (show (binOp .quo t (.int .i64 K) (.int .i64 8)).run Try.prog w = .ok (.int .i64 (i : Int)) w by rw [← hi]; exact q_quo8 t K (by omega) w))
    have qj := Lib.hid (fun (t : TypeId) (w : World) => (show (binOp .rem t (.int .i64 K) (.int .i64 8)).run Try.prog w = .ok (.int .i64 J) w by rw [← hJ]; exact q_rem8 t K (by omega) w))
    obtain ⟨g1, rfl, hg1, hl1, c1, f1, u1⟩ := o1.drew.byte n1H.out.symm hiN.out
    have hg1w := (ho1.base g1 rfl).2
    obtain ⟨x1, hx1⟩ : ∃ x, L1.getD i 0 = x := ⟨_, rfl⟩
    have r1x := Lib.hid (getD_rng r1 i)
    rw [hx1] at c1 r1x
    have hf1 := flip_law r1x.out hJ8.out
    have u1 := Lib.hid (u1 (flip x1 J) hf1.1)
    have p71 := bit_perr L1 [] r1 InB.nil rfl s1H.out (by rw [n1H.out]; exact hN1.1) (by rw [n1H.out]; exact hN1.2) i (by rw [n1H.out]; exact hiN.out) J hJ8.out
    rw [hx1] at p71
    have p71 := Lib.hid p71
    have hx1 := Lib.hid hx1
    have hf1 := Lib.hid hf1
    have hc1 := Lib.hid c1
    have ff1 := Lib.hid f1
    clear c1 f1
    go_wp2
    clear hK
    refine wp_region_still_tail 13 (by kernel_rfl) (by kernel_rfl) ?_
    simp only [List.take_succ_cons, List.take_zero, List.drop_succ_cons, List.drop_zero]
    show wpStill _ _ w2.drew _ _ _
    -- REGION 7
    refine st (.slice (some ⟨g1, 0, none⟩) N k1) (by kernel_rfl) (by exact rfl) ?_
    simp only [Act.put, List.setIfInBounds_toArray, List.set_cons_zero, List.set_cons_succ]
    refine st (.int .i64 K) (by kernel_rfl) (by exact rfl) ?_
    simp only [Act.put, List.setIfInBounds_toArray, List.set_cons_zero, List.set_cons_succ]
    refine st (.int .i64 (i : Int)) (by kernel_rfl) (by exact ex_bin (by exact rfl) (by exact rfl) (by exact rfl) (by decide) (qi.out _ _)) ?_
    simp only [Act.put, List.setIfInBounds_toArray, List.set_cons_zero, List.set_cons_succ]
    refine st (.slice (some ⟨g1, 0, none⟩) N k1) (by kernel_rfl) (by exact rfl) ?_
    simp only [Act.put, List.setIfInBounds_toArray, List.set_cons_zero, List.set_cons_succ]
    refine st (.int .i64 K) (by kernel_rfl) (by exact rfl) ?_
    simp only [Act.put, List.setIfInBounds_toArray, List.set_cons_zero, List.set_cons_succ]
    refine st (.int .i64 (i : Int)) (by kernel_rfl) (by exact ex_bin (by exact rfl) (by exact rfl) (by exact rfl) (by decide) (qi.out _ _)) ?_
    simp only [Act.put, List.setIfInBounds_toArray, List.set_cons_zero, List.set_cons_succ]
    refine st (.pointer (some ⟨g1, i, none⟩)) (by kernel_rfl) (by exact ex_index0 (by exact rfl) Try.underlying23 (by kernel_rfl) (by exact rfl) (by exact rfl) hiN.out) ?_
    simp only [Act.put, List.setIfInBounds_toArray, List.set_cons_zero, List.set_cons_succ]
    refine st (.int .u8 x1) (by kernel_rfl) (by exact ex_cell (by exact rfl) Try.underlying5 rfl (by exact rfl) hc1.out) ?_
    simp only [Act.put, List.setIfInBounds_toArray, List.set_cons_zero, List.set_cons_succ]
    refine st (.int .i64 K) (by kernel_rfl) (by exact rfl) ?_
    simp only [Act.put, List.setIfInBounds_toArray, List.set_cons_zero, List.set_cons_succ]
    refine st (.int .i64 J) (by kernel_rfl) (by exact ex_bin (by exact rfl) (by exact rfl) (by exact rfl) (by decide) (qj.out _ _)) ?_
    simp only [Act.put, List.setIfInBounds_toArray, List.set_cons_zero, List.set_cons_succ]
    refine st (.int .u8 (2 ^ J.toNat)) (by kernel_rfl) (by exact ex_bin (by exact rfl) (by exact rfl) (by exact rfl) (by decide) (q_shl1 _ J hJ8.out _)) ?_
    simp only [Act.put, List.setIfInBounds_toArray, List.set_cons_zero, List.set_cons_succ]
    refine st (.int .u8 (flip x1 J)) (by kernel_rfl) (by exact ex_bin (by exact rfl) (by exact rfl) (by exact rfl) (by decide) (q_flip _ x1 J r1x.out hJ8.out _)) ?_
    simp only [Act.put, List.setIfInBounds_toArray, List.set_cons_zero, List.set_cons_succ]
    refine st (.pointer (some ⟨g1, i, none⟩)) (by kernel_rfl) (by exact ex_index0 (by exact rfl) Try.underlying23 (by kernel_rfl) (by exact rfl) (by exact rfl) hiN.out) ?_
    simp only [Act.put, List.setIfInBounds_toArray, List.set_cons_zero, List.set_cons_succ]
    refine wpStill_nil ?_
    -- END 7
    have c1 := hc1.out
    have f1 := ff1.out
    have u2 := (ho2.drew.setCell hg1w i (.int .u8 (flip x1 J)))
    have hHa := (hHa.drew).setCell_other (show w.heap.size ≠ g1 by omega) i (.int .u8 (flip x1 J))
    have hHb := (hHb.drew).setCell_other (show w.heap.size + 1 ≠ g1 by omega) i (.int .u8 (flip x1 J))
    have hB5 := below_setCell (hB4.trans (below_drew _ _)) (show w.heap.size ≤ g1 by omega) i (.int .u8 (flip x1 J))
    change wpList _ _ _ _ _ w2.drew
    clear o1 ho2 hB4 y2 hG1 z1 hok hc1 ff1
    have u1 := u1.out
    generalize w2.drew = w3 at c1 f1 u1 u2 hHa hHb hB5 ⊢
    go_wp2
    clear c1 f1
    generalize w3.setCell ⟨g1, i, none⟩ (.int .u8 (flip x1 J)) = w4 at u1 u2 hHa hHb hB5 ⊢
    obtain ⟨g2, rfl, hg2, hl2, c2, f2, v2⟩ := u2.drew.byte n2H.out.symm hiN.out
    obtain ⟨x2, hx2⟩ : ∃ x, L2.getD i 0 = x := ⟨_, rfl⟩
    have r2x := Lib.hid (getD_rng r2 i)
    rw [hx2] at c2 r2x
    have hf2 := flip_law r2x.out hJ8.out
    have v2 := v2 (flip x2 J) hf2.1
    have p72 := bit_perr L2 ps r2 hpr hpeH.out s2H.out (by rw [n2H.out]; exact hN1.1) (by rw [n2H.out]; exact hN1.2) i (by rw [n2H.out]; exact hiN.out) J hJ8.out
    rw [hx2] at p72
    have p72 := Lib.hid p72
    have hc2 := Lib.hid c2
    have ff2 := Lib.hid f2
    clear c2 f2 hf2 hx2
    refine wp_region_still_tail 13 (by kernel_rfl) (by kernel_rfl) ?_
    simp only [List.take_succ_cons, List.take_zero, List.drop_succ_cons, List.drop_zero]
    show wpStill _ _ w4.drew _ _ _
    -- REGION 8
    refine st (.slice (some ⟨g2, 0, none⟩) N k2) (by kernel_rfl) (by exact rfl) ?_
    simp only [Act.put, List.setIfInBounds_toArray, List.set_cons_zero, List.set_cons_succ]
    refine st (.int .i64 K) (by kernel_rfl) (by exact rfl) ?_
    simp only [Act.put, List.setIfInBounds_toArray, List.set_cons_zero, List.set_cons_succ]
    refine st (.int .i64 (i : Int)) (by kernel_rfl) (by exact ex_bin (by exact rfl) (by exact rfl) (by exact rfl) (by decide) (qi.out _ _)) ?_
    simp only [Act.put, List.setIfInBounds_toArray, List.set_cons_zero, List.set_cons_succ]
    refine st (.slice (some ⟨g2, 0, none⟩) N k2) (by kernel_rfl) (by exact rfl) ?_
    simp only [Act.put, List.setIfInBounds_toArray, List.set_cons_zero, List.set_cons_succ]
    refine st (.int .i64 K) (by kernel_rfl) (by exact rfl) ?_
    simp only [Act.put, List.setIfInBounds_toArray, List.set_cons_zero, List.set_cons_succ]
    refine st (.int .i64 (i : Int)) (by kernel_rfl) (by exact ex_bin (by exact rfl) (by exact rfl) (by exact rfl) (by decide) (qi.out _ _)) ?_
    simp only [Act.put, List.setIfInBounds_toArray, List.set_cons_zero, List.set_cons_succ]
    refine st (.pointer (some ⟨g2, i, none⟩)) (by kernel_rfl) (by exact ex_index0 (by exact rfl) Try.underlying23 (by kernel_rfl) (by exact rfl) (by exact rfl) hiN.out) ?_
    simp only [Act.put, List.setIfInBounds_toArray, List.set_cons_zero, List.set_cons_succ]
    refine st (.int .u8 x2) (by kernel_rfl) (by exact ex_cell (by exact rfl) Try.underlying5 rfl (by exact rfl) hc2.out) ?_
    simp only [Act.put, List.setIfInBounds_toArray, List.set_cons_zero, List.set_cons_succ]
    refine st (.int .i64 K) (by kernel_rfl) (by exact rfl) ?_
    simp only [Act.put, List.setIfInBounds_toArray, List.set_cons_zero, List.set_cons_succ]
    refine st (.int .i64 J) (by kernel_rfl) (by exact ex_bin (by exact rfl) (by exact rfl) (by exact rfl) (by decide) (qj.out _ _)) ?_
    simp only [Act.put, List.setIfInBounds_toArray, List.set_cons_zero, List.set_cons_succ]
    refine st (.int .u8 (2 ^ J.toNat)) (by kernel_rfl) (by exact ex_bin (by exact rfl) (by exact rfl) (by exact rfl) (by decide) (q_shl1 _ J hJ8.out _)) ?_
    simp only [Act.put, List.setIfInBounds_toArray, List.set_cons_zero, List.set_cons_succ]
    refine st (.int .u8 (flip x2 J)) (by kernel_rfl) (by exact ex_bin (by exact rfl) (by exact rfl) (by exact rfl) (by decide) (q_flip _ x2 J r2x.out hJ8.out _)) ?_
    simp only [Act.put, List.setIfInBounds_toArray, List.set_cons_zero, List.set_cons_succ]
    refine st (.pointer (some ⟨g2, i, none⟩)) (by kernel_rfl) (by exact ex_index0 (by exact rfl) Try.underlying23 (by kernel_rfl) (by exact rfl) (by exact rfl) hiN.out) ?_
    simp only [Act.put, List.setIfInBounds_toArray, List.set_cons_zero, List.set_cons_succ]
    refine wpStill_nil ?_
    -- END 8
    have c2 := hc2.out
    have f2 := ff2.out
    have u1 := u1.drew.setCell' (show some g1 ≠ some g2 by intro e; injection e with e; omega) i (.int .u8 (flip x2 J))
    have hHa := (hHa.drew).setCell_other (show w.heap.size ≠ g2 by omega) i (.int .u8 (flip x2 J))
    have hHb := (hHb.drew).setCell_other (show w.heap.size + 1 ≠ g2 by omega) i (.int .u8 (flip x2 J))
    have hB6 := below_setCell (hB5.trans (below_drew _ _)) (show w.heap.size ≤ g2 by omega) i (.int .u8 (flip x2 J))
    change wpList _ _ _ _ _ w4.drew
    clear u2 hB5 hc2 ff2 r2x
    generalize w4.drew = w5 at c2 f2 u1 v2 hHa hHb hB6 ⊢
    obtain ⟨M1, hM1⟩ : ∃ M, L1.set i (flip x1 J) = M := ⟨_, rfl⟩
    obtain ⟨M2, hM2⟩ : ∃ M, L2.set i (flip x2 J) = M := ⟨_, rfl⟩
    have p71 := p71.out
    have p72 := p72.out
    rw [hM1] at p71
    rw [hM2] at p72
    rw [hM1] at u1
    rw [hM2] at v2
    have p71 := Lib.hid p71
    have p72 := Lib.hid p72
    clear hM1 hM2 hx1
    go_wp2_with fail
    clear c2 f2
    generalize w5.setCell ⟨g2, i, none⟩ (.int .u8 (flip x2 J)) = w6 at u1 v2 hHa hHb hB6 ⊢
    have hp4 := parse4_n (some ⟨g1, 0, none⟩) N k1 M1 w6 (own_byN u1)
    rw [p71.out] at hp4
    refine hp4.mono ?_
    rintro e w7 ⟨⟨A3, c3, s3, rfl, hs3, _, _⟩, hb7⟩
    obtain rfl : s3 = 71 := hs3.out
    generalize parse7 M1 [] = D3
    have hZ : Has (w7.alloc (.cells #[.int .u8 0, .int .u8 0, .int .u32 0, .slice none 0 0] 25)) w7.heap.size (.cells #[.int .u8 0, .int .u8 0, .int .u32 0, .slice none 0 0] 25 (0, 0)) := Has.newAt rfl
    have hX : Below w7.heap.size w7 ((w7.alloc (.cells #[.int .u8 0, .int .u8 0, .int .u32 0, .slice none 0 0] 25)).setRow w7.heap.size (D3.cells A3 c3)) := ((Below.refl _ _).alloc (Nat.le_refl _) (.cells #[.int .u8 0, .int .u8 0, .int .u32 0, .slice none 0 0] 25)).trans below_setRow'
    have hB7 := hB6.trans (hb7.mono hB6.size)
    have hB7 := hB7.trans (hX.mono hB7.size)
    have hHa := (hHa.below hb7 hHa.lt).below hX (Nat.lt_of_lt_of_le hHa.lt hb7.size)
    have hHb := (hHb.below hb7 hHb.lt).below hX (Nat.lt_of_lt_of_le hHb.lt hb7.size)
    have v2 := (own_byN (v2.below hb7)).below hX (Nat.le_refl _) |>.more hX.size
    clear hp4 hs3 hb7 hB6 u1 hX
    go_wp2_with (first | (refine wpList_store_row rfl 25 (.tmp 14) (.tmp 102) rfl w7.heap.size _ rfl rfl 25 _ hZ icmp_info rfl (by simp [D7.cells, Value.oneCell']) ?_) | (refine wpList_load_row rfl 35 (.tmp 4) rfl w.heap.size rfl 35 (u8s a).toArray (0, 0) _ hHa Try.underlying35 rfl hia ?_) | (refine wpList_load_row rfl 35 (.tmp 5) rfl (w.heap.size + 1) rfl 35 (u8s b).toArray (0, 0) _ hHb Try.underlying35 rfl hib ?_))
    clear hZ
    generalize hg3 : w7.heap.size = g3 at hHa hHb v2 hB7 ⊢
    clear hg3
    generalize (w7.alloc (.cells #[.int .u8 0, .int .u8 0, .int .u32 0, .slice none 0 0] 25)).setRow g3 (D3.cells A3 c3) = W4 at hHa hHb v2 hB7 ⊢
    have hp6 := parse6_n a b ha hb ra rb (some ⟨g2, 0, none⟩) N k2 M2 W4 v2
    rw [hpqH.out, p72.out] at hp6
    refine hp6.mono ?_
    rintro e w8 ⟨⟨A5, c5, s5, rfl, hs5, _, _⟩, hb8⟩
    obtain rfl : s5 = 71 := hs5.out
    generalize parse7 M2 ps = D5
    have hZ : Has (w8.alloc (.cells #[.int .u8 0, .int .u8 0, .int .u32 0, .slice none 0 0] 25)) w8.heap.size (.cells #[.int .u8 0, .int .u8 0, .int .u32 0, .slice none 0 0] 25 (0, 0)) := Has.newAt rfl
    have hX : Below w8.heap.size w8 ((w8.alloc (.cells #[.int .u8 0, .int .u8 0, .int .u32 0, .slice none 0 0] 25)).setRow w8.heap.size (D5.cells A5 c5)) := ((Below.refl _ _).alloc (Nat.le_refl _) (.cells #[.int .u8 0, .int .u8 0, .int .u32 0, .slice none 0 0] 25)).trans below_setRow'
    have hB8 := hB7.trans (hb8.mono hB7.size)
    have hB8 := hB8.trans (hX.mono hB8.size)
    clear hp6 hs5 hb8 hB7 v2 hX hHa hHb
    go_wp2_with (first | (refine wpList_store_row rfl 25 (.tmp 16) (.tmp 109) rfl w8.heap.size _ rfl rfl 25 _ hZ icmp_info rfl (by simp [D7.cells, Value.oneCell']) ?_) | fail)
    refine (alive_any _).mono ?_
    rintro e w9 ⟨rfl, hb9⟩
    go_wp2
    go_ret
    exact ⟨rfl, hB8.trans (hb9.mono hB8.size)⟩
end Go.Proofs.YtgigdaemecokbaaRRR
