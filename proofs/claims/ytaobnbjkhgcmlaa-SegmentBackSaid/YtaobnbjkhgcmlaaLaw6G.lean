/-
  The walk of SegmentBack.
-/
import Derived.Test.YtaobnbjkhgcmlaaReg7
import Derived.Test.YtaobnbjkhgcmlaaP6B
import Derived.Test.YtaobnbjkhgcmlaaPuA
import Derived.Test.YtaobnbjkhgcmlaaPt7
import Derived.Test.YtaobnbjkhgcmlaaSg1
namespace Go.Proofs.Ytaobnbjkhgcmlaa
open Go.RowKit Go.Shelf

set_option maxRecDepth 100000 in
set_option maxHeartbeats 8000000 in
theorem back_walk (x : DE) (u : DU) (A : Option Addr) (c : Nat) (t : DT) (p : WT) (w : World) (hx : x.ok) (ru : RdU w.heap.size w u A c) (rt : RdT w.heap.size w t p) :
    Calls Try.prog 11 #[.agg x.cells, .agg (u.cells A c), .agg (t.cells p)] w fun e w' => e = .returned (.bool true) ∧ Below w.heap.size w w' := by
  have hZ : S6M x u A c t p none 0 [] w (((w.alloc (.cells x.cells 38)).alloc (.cells (u.cells A c) 28)).alloc (.cells (t.cells p) 26)) := ⟨((Has.newAt rfl).alloc).alloc, (Has.newAt (by simp)).alloc, Has.newAt (by simp), By.nil _ _ _ (by decide), ((((Below.refl _ _).alloc (Nat.le_refl _) _).alloc (by simp) _).alloc (by simp; omega) _)⟩
  obtain ⟨P4, hP4⟩ : ∃ PS, pse4 x.a x.b (8 + (u.bl.length : Int)) 17 = PS := ⟨_, rfl⟩
  obtain ⟨P6, hP6⟩ : ∃ PS, pse6 x.c x.d (8 + (u.bl.length : Int)) 17 = PS := ⟨_, rfl⟩
  obtain ⟨Q4, hQ4⟩ : ∃ PS, pse4 x.a x.b (20 + (t.ol.length : Int) + (t.bl.length : Int)) 6 = PS := ⟨_, rfl⟩
  obtain ⟨Q6, hQ6⟩ : ∃ PS, pse6 x.c x.d (20 + (t.ol.length : Int) + (t.bl.length : Int)) 6 = PS := ⟨_, rfl⟩
  have hP4H := Lib.hid hP4
  have hP6H := Lib.hid hP6
  have hQ4H := Lib.hid hQ4
  have hQ6H := Lib.hid hQ6
  clear hP4 hP6 hQ4 hQ6
  go_enter Try.func11, Try.ntmps11
  go_wp2_with fail
  refine (awake_any _).mono ?_
  rintro e w1 ⟨rfl, hb⟩
  have hZ := hZ.keep hb
  clear hb
  go_wp2_with (first | (refine wl (.agg (u8s x.a).toArray) (by kernel_rfl) (by exact ex_loadAt (by exact rfl) (by exact rfl) (hZ.hE.loadAt (P := Try.prog) 0 (u8s x.a) (DE.at_a hx) 34 Try.underlying34 rfl (by rw [u8s_length, hx.la]; kernel_rfl))) ?_) | (refine wl (.agg (u8s x.b).toArray) (by kernel_rfl) (by exact ex_loadAt (by exact rfl) (by exact rfl) (hZ.hE.loadAt (P := Try.prog) 4 (u8s x.b) (DE.at_b hx) 34 Try.underlying34 rfl (by rw [u8s_length, hx.lb]; kernel_rfl))) ?_) | (refine wl (.agg (u.cells A c)) (by kernel_rfl) (by exact ex_load (by exact rfl) (by exact rfl) (hZ.hU.load (P := Try.prog) 28 Try.underlying28 rfl udp_info)) ?_))
  refine (writeUDP4_any x.a x.b hx.la hx.lb hx.ra hx.rb u A c _ ((ru.below hZ.bel (Nat.le_refl _)).more hZ.bel.size)).mono ?_
  rintro e w2 ⟨v, s, rfl, hs, ho, hb⟩
  rw [hP4H.out] at ho
  obtain ⟨L4, hL4⟩ : ∃ L, u.write P4 = L := ⟨_, rfl⟩
  rw [hL4] at ho
  obtain ⟨A7, c7, rfl, y7⟩ := ho.by_
  have hZ := hZ.keep hb
  clear hb ho
  by_cases hlen : u.bl.length ≤ 65527
  case' pos =>
    obtain rfl : s = 0 := hs.out.trans (by rw [DU.err, if_neg (by omega)])
    have hL4b : L4 = u.bytes P4 := by rw [← hL4, DU.write, if_neg (by omega)]
    have hn4 : (L4.length : Int) = 8 + u.bl.length := by rw [hL4b, u.bytes_len]; omega
    have hq4 := u.back ru.ok hlen P4 (by rw [← hP4H.out]; exact pse4_rng hx.ra hx.rb (by omega) (by decide)) ru.body.rng (by rw [← hP4H.out, pse4_len hx.la hx.lb]) false
    rw [← hL4b] at hq4
    have hq := parseUDP4_any x.a x.b hx.la hx.lb hx.ra hx.rb A7 c7 L4 w2 y7
    rw [hn4, hP4H.out, hq4.1, hq4.2.1, hq4.2.2] at hq
    have hqH := Lib.hid hq
    clear hq hq4 hn4 hL4b hL4 hs
    go_wp2_with (first | (refine wl (.agg (u8s x.a).toArray) (by kernel_rfl) (by exact ex_loadAt (by exact rfl) (by exact rfl) (hZ.hE.loadAt (P := Try.prog) 0 (u8s x.a) (DE.at_a hx) 34 Try.underlying34 rfl (by rw [u8s_length, hx.la]; kernel_rfl))) ?_) | (refine wl (.agg (u8s x.b).toArray) (by kernel_rfl) (by exact ex_loadAt (by exact rfl) (by exact rfl) (hZ.hE.loadAt (P := Try.prog) 4 (u8s x.b) (DE.at_b hx) 34 Try.underlying34 rfl (by rw [u8s_length, hx.lb]; kernel_rfl))) ?_))
    refine hqH.out.mono ?_
    rintro e w3 ⟨A9, c9, rfl, _, ho, hb⟩
    have hN : Has (w3.alloc (.cells #[.int .u16 0, .int .u16 0, .slice none 0 0] 28)) w3.heap.size (.cells #[.int .u16 0, .int .u16 0, .slice none 0 0] 28 (0, 0)) := Has.newAt rfl
    have hnew := KD.new (cs := #[.int .u16 0, .int .u16 0, .slice none 0 0]) ho.row
    have hZ := (hZ.keep hb).keep hnew.2
    have k9 := hnew.1
    clear hb hnew ho y7 hqH
    go_wp2_with (first | (refine wpList_store_row rfl 28 (.tmp 9) (.tmp 43) rfl w3.heap.size _ rfl rfl 28 _ hN udp_info rfl (by simp [DU.cells, Value.oneCell']) ?_) | (refine wl (.agg (u8s x.c).toArray) (by kernel_rfl) (by exact ex_loadAt (by exact rfl) (by exact rfl) (hZ.hE.loadAt (P := Try.prog) 8 (u8s x.c) (DE.at_c hx) 36 Try.underlying36 rfl (by rw [u8s_length, hx.lc]; kernel_rfl))) ?_) | (refine wl (.agg (u8s x.d).toArray) (by kernel_rfl) (by exact ex_loadAt (by exact rfl) (by exact rfl) (hZ.hE.loadAt (P := Try.prog) 24 (u8s x.d) (DE.at_d hx) 36 Try.underlying36 rfl (by rw [u8s_length, hx.ld]; kernel_rfl))) ?_) | (refine wl (.agg (u.cells A c)) (by kernel_rfl) (by exact ex_load (by exact rfl) (by exact rfl) (hZ.hU.load (P := Try.prog) 28 Try.underlying28 rfl udp_info)) ?_))
    clear hN
    generalize (w3.alloc (.cells #[.int .u16 0, .int .u16 0, .slice none 0 0] 28)).setRow w3.heap.size (u.cells A9 c9) = W3 at hZ k9 ⊢
    generalize w3.heap.size = g9 at k9 ⊢
    refine (writeUDP6_any x.c x.d hx.lc hx.ld hx.rc hx.rd u A c _ ((ru.below hZ.bel (Nat.le_refl _)).more hZ.bel.size)).mono ?_
    rintro e w4 ⟨v, s, rfl, hs, ho, hb⟩
    rw [hP6H.out] at ho
    obtain rfl : s = 0 := hs.out.trans (by rw [DU.err, if_neg (by omega)])
    obtain ⟨L6, hL6⟩ : ∃ L, u.write P6 = L := ⟨_, rfl⟩
    rw [hL6] at ho
    obtain ⟨A12, c12, rfl, y12⟩ := ho.by_
    have hZ := hZ.keep hb
    have k9 := k9.below hb
    have hL6b : L6 = u.bytes P6 := by rw [← hL6, DU.write, if_neg (by omega)]
    have hn6 : (L6.length : Int) = 8 + u.bl.length := by rw [hL6b, u.bytes_len]; omega
    have hq6 := u.back ru.ok hlen P6 (by rw [← hP6H.out]; exact pse6_rng hx.rc hx.rd (by omega) (by decide)) ru.body.rng (by rw [← hP6H.out, pse6_len hx.lc hx.ld]) true
    rw [← hL6b] at hq6
    have hq := parseUDP6_any x.c x.d hx.lc hx.ld hx.rc hx.rd A12 c12 L6 w4 y12
    rw [hn6, hP6H.out, hq6.1, hq6.2.1] at hq
    have hqH := Lib.hid hq
    clear hq hq6 hn6 hL6b hL6 hs hb ho
    go_wp2_with (first | (refine wl (.agg (u8s x.c).toArray) (by kernel_rfl) (by exact ex_loadAt (by exact rfl) (by exact rfl) (hZ.hE.loadAt (P := Try.prog) 8 (u8s x.c) (DE.at_c hx) 36 Try.underlying36 rfl (by rw [u8s_length, hx.lc]; kernel_rfl))) ?_) | (refine wl (.agg (u8s x.d).toArray) (by kernel_rfl) (by exact ex_loadAt (by exact rfl) (by exact rfl) (hZ.hE.loadAt (P := Try.prog) 24 (u8s x.d) (DE.at_d hx) 36 Try.underlying36 rfl (by rw [u8s_length, hx.ld]; kernel_rfl))) ?_))
    refine hqH.out.mono ?_
    rintro e w5 ⟨A14, c14, rfl, _, ho, hb⟩
    have hN : Has (w5.alloc (.cells #[.int .u16 0, .int .u16 0, .slice none 0 0] 28)) w5.heap.size (.cells #[.int .u16 0, .int .u16 0, .slice none 0 0] 28 (0, 0)) := Has.newAt rfl
    have hnew := KD.new (cs := #[.int .u16 0, .int .u16 0, .slice none 0 0]) ho.row
    have hZ := (hZ.keep hb).keep hnew.2
    have k9 := (k9.below hb).below hnew.2
    have k14 := hnew.1
    clear hb hnew ho y12 hqH
    go_wp2_with (first | (refine wpList_store_row rfl 28 (.tmp 14) (.tmp 62) rfl w5.heap.size _ rfl rfl 28 _ hN udp_info rfl (by simp [DU.cells, Value.oneCell']) ?_) | (refine wpList_load_rowG (by kernel_rfl) 28 (.tmp 4) rfl (w.heap.size + 1) rfl 28 (u.cells A c) (0, 0) _ hZ.hU Try.underlying28 rfl udp_info ?_) | (refine wpList_load_rowG (by kernel_rfl) 28 (.tmp 9) rfl (_) rfl 28 (u.cells A9 c9) (0, 0) _ k9.has Try.underlying28 rfl udp_info ?_))
    clear hN
    generalize (w5.alloc (.cells #[.int .u16 0, .int .u16 0, .slice none 0 0] 28)).setRow w5.heap.size (u.cells A14 c14) = W5 at hZ k9 k14 ⊢
    generalize w5.heap.size = g14 at k14 ⊢
    refine (rsameU_any _ _ u u A A9 c c9 _ (((ru.below hZ.bel (Nat.le_refl _)).more hZ.bel.size)).body k9.row (Nat.le_refl _) (Nat.le_refl _)).mono ?_
    rintro e w6 ⟨b, rfl, hb, hbb⟩
    obtain rfl : b = true := by rw [hb.out, sameU_self]
    have hZ := hZ.keep hbb
    have k14 := k14.below hbb
    clear hb hbb k9
    go_wp2_with (first | (refine wpList_load_rowG (by kernel_rfl) 28 (.tmp 4) rfl (w.heap.size + 1) rfl 28 (u.cells A c) (0, 0) _ hZ.hU Try.underlying28 rfl udp_info ?_) | (refine wpList_load_rowG (by kernel_rfl) 28 (.tmp 14) rfl (_) rfl 28 (u.cells A14 c14) (0, 0) _ k14.has Try.underlying28 rfl udp_info ?_))
    refine (rsameU_any _ _ u u A A14 c c14 _ (((ru.below hZ.bel (Nat.le_refl _)).more hZ.bel.size)).body k14.row (Nat.le_refl _) (Nat.le_refl _)).mono ?_
    rintro e w7 ⟨b, rfl, hb, hbb⟩
    obtain rfl : b = true := by rw [hb.out, sameU_self]
    have hZ := hZ.keep hbb
    clear hb hbb k14
  case' neg =>
    obtain rfl : s = 2 := hs.out.trans (by rw [DU.err, if_pos (by omega)])
    clear hs y7 hL4
  all_goals
    go_wp2_with (first | (refine wl (.agg (u8s x.a).toArray) (by kernel_rfl) (by exact ex_loadAt (by exact rfl) (by exact rfl) (hZ.hE.loadAt (P := Try.prog) 0 (u8s x.a) (DE.at_a hx) 34 Try.underlying34 rfl (by rw [u8s_length, hx.la]; kernel_rfl))) ?_) | (refine wl (.agg (u8s x.b).toArray) (by kernel_rfl) (by exact ex_loadAt (by exact rfl) (by exact rfl) (hZ.hE.loadAt (P := Try.prog) 4 (u8s x.b) (DE.at_b hx) 34 Try.underlying34 rfl (by rw [u8s_length, hx.lb]; kernel_rfl))) ?_) | (refine wl (.agg (t.cells p)) (by kernel_rfl) (by exact ex_load (by exact rfl) (by exact rfl) (hZ.hT.load (P := Try.prog) 26 Try.underlying26 rfl tcp_info)) ?_))
    refine (writeTCP4_any x.a x.b hx.la hx.lb hx.ra hx.rb t p _ ((rt.below hZ.bel (Nat.le_refl _)).more hZ.bel.size)).mono ?_
    rintro e w8 ⟨v, s, rfl, hs, ho, hb⟩
    rw [hQ4H.out] at ho
    obtain ⟨M4, hM4⟩ : ∃ L, t.write Q4 = L := ⟨_, rfl⟩
    rw [hM4] at ho
    obtain ⟨B7, d7, rfl, z7⟩ := ho.by_
    have hZ := hZ.keep hb
    clear hb ho
    have hc : s = t.check := hs.out
    by_cases hs0 : s = 0
    case neg =>
      obtain rfl : M4 = [] := by rw [← hM4, DT.write, if_neg (by rw [← hc]; exact hs0)]
      clear hc hs z7 hM4
      go_wp2
      go_ret
      exact ⟨rfl, hZ.bel⟩
    case pos =>
    subst hs0
    replace hc := hc.symm
    have hsm := DT.small hc
    have hol := hsm.1
    have hM4b : M4 = t.bytes Q4 := by rw [← hM4, DT.write, if_pos hc]
    have hn4 : (M4.length : Int) = 20 + t.ol.length + t.bl.length := by rw [hM4b, t.bytes_len]; omega
    have hq4 := t.back rt.ok hc Q4 (by rw [← hQ4H.out]; exact pse4_rng hx.ra hx.rb (by omega) (by decide)) rt.opt.rng rt.body.rng (by rw [← hQ4H.out, pse4_len hx.la hx.lb])
    rw [← hM4b] at hq4
    have hq := parseTCP4_any x.a x.b hx.la hx.lb hx.ra hx.rb B7 d7 M4 w8 z7
    rw [hn4, hQ4H.out, hq4.1, hq4.2] at hq
    have hqH := Lib.hid hq
    have hcH := Lib.hid hc
    have hsmH := Lib.hid hsm
    clear hq hq4 hn4 hM4b hM4 hs hc hsm hol
    go_wp2_with (first | (refine wl (.agg (u8s x.a).toArray) (by kernel_rfl) (by exact ex_loadAt (by exact rfl) (by exact rfl) (hZ.hE.loadAt (P := Try.prog) 0 (u8s x.a) (DE.at_a hx) 34 Try.underlying34 rfl (by rw [u8s_length, hx.la]; kernel_rfl))) ?_) | (refine wl (.agg (u8s x.b).toArray) (by kernel_rfl) (by exact ex_loadAt (by exact rfl) (by exact rfl) (hZ.hE.loadAt (P := Try.prog) 4 (u8s x.b) (DE.at_b hx) 34 Try.underlying34 rfl (by rw [u8s_length, hx.lb]; kernel_rfl))) ?_))
    refine hqH.out.mono ?_
    rintro e w9 ⟨p9, rfl, _, ho, ho2, hb⟩
    have hN : Has (w9.alloc (.cells #[.int .u16 0, .int .u16 0, .int .u32 0, .int .u32 0, .int .u8 0, .int .u16 0, .int .u16 0, .slice none 0 0, .slice none 0 0] 26)) w9.heap.size (.cells #[.int .u16 0, .int .u16 0, .int .u32 0, .int .u32 0, .int .u8 0, .int .u16 0, .int .u16 0, .slice none 0 0, .slice none 0 0] 26 (0, 0)) := Has.newAt rfl
    have hnew := KT.new (cs := #[.int .u16 0, .int .u16 0, .int .u32 0, .int .u32 0, .int .u8 0, .int .u16 0, .int .u16 0, .slice none 0 0, .slice none 0 0]) ho.row ho2.row
    have hZ := (hZ.keep hb).keep hnew.2
    have k9 := hnew.1
    clear hb hnew ho ho2 z7 hqH
    go_wp2_with (first | (refine wpList_store_row rfl 26 (.tmp 17) (.tmp 110) rfl w9.heap.size _ rfl rfl 26 _ hN tcp_info rfl (by simp [DT.cells, Value.oneCell']) ?_) | (refine wl (.agg (u8s x.c).toArray) (by kernel_rfl) (by exact ex_loadAt (by exact rfl) (by exact rfl) (hZ.hE.loadAt (P := Try.prog) 8 (u8s x.c) (DE.at_c hx) 36 Try.underlying36 rfl (by rw [u8s_length, hx.lc]; kernel_rfl))) ?_) | (refine wl (.agg (u8s x.d).toArray) (by kernel_rfl) (by exact ex_loadAt (by exact rfl) (by exact rfl) (hZ.hE.loadAt (P := Try.prog) 24 (u8s x.d) (DE.at_d hx) 36 Try.underlying36 rfl (by rw [u8s_length, hx.ld]; kernel_rfl))) ?_) | (refine wl (.agg (t.cells p)) (by kernel_rfl) (by exact ex_load (by exact rfl) (by exact rfl) (hZ.hT.load (P := Try.prog) 26 Try.underlying26 rfl tcp_info)) ?_))
    clear hN
    generalize (w9.alloc (.cells #[.int .u16 0, .int .u16 0, .int .u32 0, .int .u32 0, .int .u8 0, .int .u16 0, .int .u16 0, .slice none 0 0, .slice none 0 0] 26)).setRow w9.heap.size (t.cells p9) = W9 at hZ k9 ⊢
    generalize w9.heap.size = g17 at k9 ⊢
    refine (writeTCP6_any x.c x.d hx.lc hx.ld hx.rc hx.rd t p _ ((rt.below hZ.bel (Nat.le_refl _)).more hZ.bel.size)).mono ?_
    rintro e w10 ⟨v, s, rfl, hs, ho, hb⟩
    rw [hQ6H.out] at ho
    obtain rfl : s = 0 := hs.out.trans hcH.out
    obtain ⟨M6, hM6⟩ : ∃ L, t.write Q6 = L := ⟨_, rfl⟩
    rw [hM6] at ho
    obtain ⟨B12, d12, rfl, z12⟩ := ho.by_
    have hZ := hZ.keep hb
    have k9 := k9.below hb
    have hsm := hsmH.out
    have hol := hsm.1
    have hM6b : M6 = t.bytes Q6 := by rw [← hM6, DT.write, if_pos hcH.out]
    have hn6 : (M6.length : Int) = 20 + t.ol.length + t.bl.length := by rw [hM6b, t.bytes_len]; omega
    have hq6 := t.back rt.ok hcH.out Q6 (by rw [← hQ6H.out]; exact pse6_rng hx.rc hx.rd (by omega) (by decide)) rt.opt.rng rt.body.rng (by rw [← hQ6H.out, pse6_len hx.lc hx.ld])
    rw [← hM6b] at hq6
    have hq := parseTCP6_any x.c x.d hx.lc hx.ld hx.rc hx.rd B12 d12 M6 w10 z12
    rw [hn6, hQ6H.out, hq6.1, hq6.2] at hq
    have hqH := Lib.hid hq
    clear hq hq6 hn6 hM6b hM6 hs hb ho hsm hol
    go_wp2_with (first | (refine wl (.agg (u8s x.c).toArray) (by kernel_rfl) (by exact ex_loadAt (by exact rfl) (by exact rfl) (hZ.hE.loadAt (P := Try.prog) 8 (u8s x.c) (DE.at_c hx) 36 Try.underlying36 rfl (by rw [u8s_length, hx.lc]; kernel_rfl))) ?_) | (refine wl (.agg (u8s x.d).toArray) (by kernel_rfl) (by exact ex_loadAt (by exact rfl) (by exact rfl) (hZ.hE.loadAt (P := Try.prog) 24 (u8s x.d) (DE.at_d hx) 36 Try.underlying36 rfl (by rw [u8s_length, hx.ld]; kernel_rfl))) ?_))
    refine hqH.out.mono ?_
    rintro e w11 ⟨p14, rfl, _, ho, ho2, hb⟩
    have hN : Has (w11.alloc (.cells #[.int .u16 0, .int .u16 0, .int .u32 0, .int .u32 0, .int .u8 0, .int .u16 0, .int .u16 0, .slice none 0 0, .slice none 0 0] 26)) w11.heap.size (.cells #[.int .u16 0, .int .u16 0, .int .u32 0, .int .u32 0, .int .u8 0, .int .u16 0, .int .u16 0, .slice none 0 0, .slice none 0 0] 26 (0, 0)) := Has.newAt rfl
    have hnew := KT.new (cs := #[.int .u16 0, .int .u16 0, .int .u32 0, .int .u32 0, .int .u8 0, .int .u16 0, .int .u16 0, .slice none 0 0, .slice none 0 0]) ho.row ho2.row
    have hZ := (hZ.keep hb).keep hnew.2
    have k9 := (k9.below hb).below hnew.2
    have k14 := hnew.1
    clear hb hnew ho ho2 z12 hqH
    go_wp2_with (first | (refine wpList_store_row rfl 26 (.tmp 21) (.tmp 128) rfl w11.heap.size _ rfl rfl 26 _ hN tcp_info rfl (by simp [DT.cells, Value.oneCell']) ?_) | (refine wpList_load_rowG (by kernel_rfl) 26 (.tmp 5) rfl (w.heap.size + 1 + 1) rfl 26 (t.cells p) (0, 0) _ hZ.hT Try.underlying26 rfl tcp_info ?_) | (refine wpList_load_rowG (by kernel_rfl) 26 (.tmp 17) rfl (_) rfl 26 (t.cells p9) (0, 0) _ k9.has Try.underlying26 rfl tcp_info ?_))
    clear hN
    generalize (w11.alloc (.cells #[.int .u16 0, .int .u16 0, .int .u32 0, .int .u32 0, .int .u8 0, .int .u16 0, .int .u16 0, .slice none 0 0, .slice none 0 0] 26)).setRow w11.heap.size (t.cells p14) = W11 at hZ k9 k14 ⊢
    generalize w11.heap.size = g21 at k14 ⊢
    refine (rsameT_any _ _ t t p p9 _ (((rt.below hZ.bel (Nat.le_refl _)).more hZ.bel.size)).opt k9.opt (((rt.below hZ.bel (Nat.le_refl _)).more hZ.bel.size)).body k9.row (Nat.le_refl _) (Nat.le_refl _)).mono ?_
    rintro e w12 ⟨b, rfl, hb, hbb⟩
    obtain rfl : b = true := by rw [hb.out, sameT_self]
    have hZ := hZ.keep hbb
    have k14 := k14.below hbb
    clear hb hbb k9
    go_wp2_with (first | (refine wpList_load_rowG (by kernel_rfl) 26 (.tmp 5) rfl (w.heap.size + 1 + 1) rfl 26 (t.cells p) (0, 0) _ hZ.hT Try.underlying26 rfl tcp_info ?_) | (refine wpList_load_rowG (by kernel_rfl) 26 (.tmp 21) rfl (_) rfl 26 (t.cells p14) (0, 0) _ k14.has Try.underlying26 rfl tcp_info ?_))
    refine (rsameT_any _ _ t t p p14 _ (((rt.below hZ.bel (Nat.le_refl _)).more hZ.bel.size)).opt k14.opt (((rt.below hZ.bel (Nat.le_refl _)).more hZ.bel.size)).body k14.row (Nat.le_refl _) (Nat.le_refl _)).mono ?_
    rintro e w13 ⟨b, rfl, hb, hbb⟩
    obtain rfl : b = true := by rw [hb.out, sameT_self]
    have hZ := hZ.keep hbb
    go_wp2
    go_ret
    exact ⟨rfl, hZ.bel⟩
end Go.Proofs.Ytaobnbjkhgcmlaa
