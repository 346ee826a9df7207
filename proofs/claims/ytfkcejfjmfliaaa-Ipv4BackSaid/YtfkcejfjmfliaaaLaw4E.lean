/-
  The walk of Ipv4Cut.
-/
import Derived.Test.YtfkcejfjmfliaaaK4
namespace Go.Proofs.Ytfkcejfjmfliaaa
open Go.RowKit Go.Shelf

theorem pparse_n (A : Option Addr) (n c : Nat) (l : List Int) (w : World) (hy : By w.heap.size w A n c l) :
    Calls Try.prog 23 #[.slice A n c] w fun e w' => Told4p w.heap.size w' (got4 false l) (pat4 (pe4 false l)) (pe4 false l) e ∧ Below w.heap.size w w' := by
  have := hy.len
  subst this
  exact pparse_any A c l w hy
theorem ppart_n (A : Option Addr) (n c : Nat) (l : List Int) (w : World) (hy : By w.heap.size w A n c l) :
    Calls Try.prog 22 #[.slice A n c] w fun e w' => Told4p w.heap.size w' (got4 true l) (pat4 (pe4 true l)) (pe4 true l) e ∧ Below w.heap.size w w' := by
  have := hy.len
  subst this
  exact ppart_any A c l w hy
theorem By.to_z {P : Program} {B : Nat} {w : World} {A : Option Addr} {n c : Nat} {l : List Int} (h : By B w A n c l) (t : TypeId) (ht : P.underlying t = some (.slice 5)) (hs : (P.info? 5).map (·.size) = some 1) {k : Nat} (hk : k ≤ n) {z : Int} (hz : z = (k : Int)) :
    (∀ w', (Instr.sliceAt t (.slice A n c) none (some (.int .i64 z)) none).run P w' = .ok (.slice A k c) w') ∧ By B w A k c (l.take k) := by
  subst hz
  exact h.to_ t ht hs hk

set_option maxRecDepth 100000 in
set_option maxHeartbeats 2000000 in
theorem cut_walk (d : D4) (p : W4) (n : Int) (w : World) (hR : Rd4 w.heap.size w d p) (hn : -9223372036854775808 ≤ n) (hn2 : n ≤ 9223372036854775807) :
    Calls Try.prog 5 #[.agg (d.cells p), .int .i64 n] w fun e w' => e = .returned (.bool true) ∧ Below w.heap.size w w' := by
  obtain ⟨K0, hB⟩ := K4.arg hR
  have hcc := d.check_cases
  go_enter Try.func5, Try.ntmps5
  go_wp2_with fail
  refine (awake_any _).mono ?_
  rintro e w1 ⟨rfl, hb⟩
  have K0 := K0.below hb
  have hB := hB.trans (hb.mono hB.size)
  clear hb
  go_wp2_with (refine wpList_load_rowG (by kernel_rfl) 27 (.tmp 2) rfl w.heap.size rfl 27 (d.cells p) (0, 0) _ K0.has Try.underlying27 rfl v4_info ?_)
  refine (write_any d p w1 K0.rd).mono ?_
  rintro e w2 ⟨v, s, rfl, hs, ho, hb⟩
  have K0 := K0.below hb
  have hB1 := hB
  have hB := hB.trans (hb.mono hB.size)
  have ho := ho.more hB1.size
  clear hb hB1
  by_cases h0 : d.check = 0
  case neg =>
    have hw : d.write = [] := by unfold D4.write; rw [if_neg h0]
    rw [hw] at ho
    obtain ⟨A1, c1, rfl, y1⟩ := ho.by_
    have hs2 : s = 45 ∨ s = 2 := by
      rcases hcc with h | h | h
      · exact absurd h h0
      · exact .inl (hs.out.trans h)
      · exact .inr (hs.out.trans h)
    clear hcc h0 hw hs
    rcases hs2 with rfl | rfl
    · go_wp2
      go_ret
      exact ⟨rfl, hB⟩
    · go_wp2
      go_ret
      exact ⟨rfl, hB⟩
  obtain rfl : s = 0 := hs.out.trans h0
  have hw : d.write = d.bytes := by unfold D4.write; rw [if_pos h0]
  rw [hw] at ho
  have hbl := d.bytes_len
  have hok := D4.ok_of_check h0
  have hcut := fun k hk => d.cut hR.ok h0 k hk
  have c16 := K0.has.cell 16 (v := .slice p.bA d.bl.length p.bc) rfl
  obtain ⟨A1, c1, rfl, y1⟩ := ho.by_
  obtain ⟨L, hL⟩ : ∃ L, d.bytes = L := ⟨_, rfl⟩
  rw [hL] at y1 hcut hbl ⊢
  clear hw hs hcc h0 hL ho
  by_cases hneg : n < 0
  · go_wp2
    go_ret
    exact ⟨rfl, hB⟩
  obtain ⟨k, rfl⟩ : ∃ k : Nat, n = (k : Int) := ⟨n.toNat, by omega⟩
  by_cases hbig : (d.bl.length : Int) < (k : Int)
  · go_wp2
    go_ret
    exact ⟨rfl, hB⟩
  obtain ⟨z1, z2⟩ := hcut k (by omega)
  have h8 : k ≤ L.length := by omega
  obtain ⟨hsl, yk⟩ := y1.to_z (P := Try.prog) 25 Try.underlying25 (by kernel_rfl) (k := L.length - k) (by omega) (z := (L.length : Int) - (k : Int)) (by omega)
  obtain ⟨hsb, yb⟩ := hR.body.to_z (P := Try.prog) 25 Try.underlying25 (by kernel_rfl) (k := d.bl.length - k) (by omega) (z := (d.bl.length : Int) - (k : Int)) (by omega)
  obtain ⟨BL, hBL⟩ : ∃ B, d.bl.take (d.bl.length - k) = B := ⟨_, rfl⟩
  rw [hBL] at yb z2
  have hp := ppart_n A1 (L.length - k) c1 (L.take (L.length - k)) w2 yk
  rw [z1, z2] at hp
  obtain ⟨D', hD'⟩ : ∃ D, ({ d with bl := BL } : D4) = D := ⟨_, rfl⟩
  rw [hD'] at hp
  have hp := Lib.hid hp
  have hLs : L.length ≤ 100000 := by omega
  have hbs : d.bl.length ≤ 70000 := by omega
  have hnn : (0 : Int) ≤ (k : Int) := by omega
  have hblH := Lib.hid hbl
  have hD'H := Lib.hid hD'
  clear hcut z1 z2 hBL hbl hok hneg hD'
  go_wp2_with fail
  refine hp.out.mono ?_
  rintro e w4 ⟨⟨p4, a, s, rfl, -, hs, ho4⟩, hb⟩
  obtain rfl : s = 0 := hs.out
  have K0 := K0.below hb
  have hB := hB.trans (hb.mono hB.size)
  have hB4 := hB
  obtain ⟨K7, hb⟩ := K4.new ho4.rd
  have hZ : Has (w4.alloc (.cells #[.int .u8 0, .int .u16 0, .bool false, .bool false, .int .i64 0, .int .u8 0, .int .u8 0, .int .u8 0, .int .u8 0, .int .u8 0, .int .u8 0, .int .u8 0, .int .u8 0, .int .u8 0, .int .u8 0, .slice none 0 0, .slice none 0 0] 27)) w4.heap.size (.cells #[.int .u8 0, .int .u16 0, .bool false, .bool false, .int .i64 0, .int .u8 0, .int .u8 0, .int .u8 0, .int .u8 0, .int .u8 0, .int .u8 0, .int .u8 0, .int .u8 0, .int .u8 0, .int .u8 0, .slice none 0 0, .slice none 0 0] 27 (0, 0)) := Has.newAt rfl
  have K0 := K0.below hb
  have hB := hB.trans (hb.mono hB.size)
  have hW := hb
  have r4 := Lib.hid ho4.rd
  clear hb hs hp c16
  go_wp2_with (first
    | (refine wpList_store_row rfl 27 (.tmp 7) (.tmp 40) rfl w4.heap.size _ rfl rfl 27 _ hZ v4_info rfl (by simp [D4.cells, Value.oneCell']) ?_; clear hZ; generalize (w4.alloc (.cells #[.int .u8 0, .int .u16 0, .bool false, .bool false, .int .i64 0, .int .u8 0, .int .u8 0, .int .u8 0, .int .u8 0, .int .u8 0, .int .u8 0, .int .u8 0, .int .u8 0, .int .u8 0, .int .u8 0, .slice none 0 0, .slice none 0 0] 27)).setRow w4.heap.size (D'.cells p4) = w5 at K7 K0 hB hW ⊢; generalize hg7 : w4.heap.size = g7 at K7 ⊢; clear hg7)
    | (refine wpList_load_rowG (by kernel_rfl) 27 (.tmp 2) rfl w.heap.size rfl 27 (d.cells p) (0, 0) _ K0.has Try.underlying27 rfl v4_info ?_)
    | go_loud (obtain ⟨K10, hb⟩ := K4.new K0.rd; have hZ : Has (w5.alloc (.cells #[.int .u8 0, .int .u16 0, .bool false, .bool false, .int .i64 0, .int .u8 0, .int .u8 0, .int .u8 0, .int .u8 0, .int .u8 0, .int .u8 0, .int .u8 0, .int .u8 0, .int .u8 0, .int .u8 0, .slice none 0 0, .slice none 0 0] 27)) w5.heap.size (.cells #[.int .u8 0, .int .u16 0, .bool false, .bool false, .int .i64 0, .int .u8 0, .int .u8 0, .int .u8 0, .int .u8 0, .int .u8 0, .int .u8 0, .int .u8 0, .int .u8 0, .int .u8 0, .int .u8 0, .slice none 0 0, .slice none 0 0] 27 (0, 0)) := Has.newAt rfl; refine wpList_store_row rfl 27 (.tmp 10) (.tmp 43) rfl w5.heap.size _ rfl rfl 27 _ hZ v4_info rfl (by simp [D4.cells, Value.oneCell']) ?_; have hg10 : g7 ≠ w5.heap.size := Nat.ne_of_lt K7.has.lt; have K7 := K7.below hb; have K0 := K0.below hb; have hB := hB.trans (hb.mono hB.size); have hg10b := hW.size; have hW := hW.trans (hb.mono hW.size); clear hb hZ; generalize (w5.alloc (.cells #[.int .u8 0, .int .u16 0, .bool false, .bool false, .int .i64 0, .int .u8 0, .int .u8 0, .int .u8 0, .int .u8 0, .int .u8 0, .int .u8 0, .int .u8 0, .int .u8 0, .int .u8 0, .int .u8 0, .slice none 0 0, .slice none 0 0] 27)).setRow w5.heap.size (d.cells p) = w6 at K7 K0 K10 hB hW ⊢; generalize w5.heap.size = g10 at K10 hg10 hg10b ⊢; have c16 := (K0.has.alloc (o' := .cells #[] 5)).cell 16 (v := .slice p.bA d.bl.length p.bc) rfl; have yb := (((yb.below hB (Nat.le_refl _)).more hB.size).alloc (Nat.le_refl _) (.cells #[] 5)))
    | (at_builtin; refine wpList_appB _ rfl _ _ _ rfl Try.underlying25 info8 w6.heap.size _ _ rfl (OwnB.made w6 w6.heap.size (Nat.le_refl _)) _ p.bA (d.bl.length - k) p.bc BL rfl yb (by show 0 + (d.bl.length - k) ≤ _; omega) (by simp) ?_; intro v' w7 own hg hat; have hbel := below_app (OwnB.made w6 w6.heap.size (Nat.le_refl _)) hg (by simp); rw [List.nil_append] at own; obtain ⟨A9, c9, rfl, _⟩ := own_shape own.own; clear hat hg; have hb := (((Below.refl _ _).alloc (Nat.le_refl _) _).trans hbel : Below w6.heap.size w6 w7); clear hbel; have hgl := K10.has.lt; have K7 := K7.below hb; have K10 := K10.below hb; have hB := hB.trans (hb.mono hB.size); have hW := hW.trans (hb.mono hW.size); have c10 := K10.has.cell 16 (v := .slice p.bA d.bl.length p.bc) rfl; have f10 := K10.has.free 16; have K7c := K7.has.setCell_other hg10 16 (.slice A9 BL.length c9); have K10c : Has (w7.setCell ⟨g10, 16, none⟩ (.slice A9 BL.length c9)) g10 (.cells (D'.cells ⟨p.oA, p.oc, A9, c9⟩) 27 (0, 0)) := (by rw [← hD'H.out]; exact K10.has.setCell 16 (.slice A9 BL.length c9)))
    | (refine wpList_load_rowG (by kernel_rfl) 27 (.tmp 7) rfl g7 rfl 27 (D'.cells p4) (0, 0) _ K7c Try.underlying27 rfl v4_info ?_)
    | (refine wpList_load_rowG (by kernel_rfl) 27 (.tmp 10) rfl g10 rfl 27 (D'.cells ⟨p.oA, p.oc, A9, c9⟩) (0, 0) _ K10c Try.underlying27 rfl v4_info ?_))
  have hW := below_setCell hW hg10b 16 (.slice A9 BL.length c9)
  have hwb : w.heap.size ≤ g10 := Nat.le_trans hB4.size hg10b
  have hB := below_setCell hB hwb 16 (.slice A9 BL.length c9)
  have o9 := own_by4 (own.setCell hgl 16 (.slice A9 BL.length c9))
  clear K7 K10 K7c K10c own c10 f10 c16
  generalize w7.setCell ⟨g10, 16, none⟩ (.slice A9 BL.length c9) = w8 at hW hB o9 ⊢
  have r4 := r4.out.below hW (Nat.le_refl _)
  have zo : By w8.heap.size w8 p.oA D'.ol.length p.oc D'.ol := by rw [← hD'H.out]; exact (hR.opt.below hB (Nat.le_refl _)).more hB.size
  have zb : By w8.heap.size w8 A9 D'.bl.length c9 D'.bl := by rw [← hD'H.out]; exact o9
  refine (rsame4_any _ _ D' D' p4 ⟨p.oA, p.oc, A9, c9⟩ w8 r4.opt zo r4.body zb hW.size (Nat.le_refl _)).mono ?_
  rintro e w9 ⟨q, rfl, hq, hb⟩
  obtain rfl : q = true := hq.out.trans (same4_self _)
  have hB := hB.trans (hb.mono hB.size)
  clear hq
  go_wp2
  go_ret
  exact ⟨rfl, hB⟩
end Go.Proofs.Ytfkcejfjmfliaaa
