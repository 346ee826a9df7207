/-
  The walk of Ipv6Cut.
-/
import Derived.Test.YtndmmkadceobjaaV6AL
namespace Go.Proofs.Ytndmmkadceobjaa
open Go.RowKit Go.Shelf

set_option maxRecDepth 100000 in
set_option maxHeartbeats 4000000 in
theorem cut6_walk (d : D6) (p : W6) (x : Int) (w : World) (hR : Rd6 w.heap.size w d p) (hx : 0 ≤ x ∧ x ≤ 65535) :
    Calls Try.prog 6 #[.agg (d.cells p), .int .u16 x] w fun e w' => e = .returned (.bool true) ∧ Below w.heap.size w w' := by
  obtain ⟨hA, hc, ps, bA, bc⟩ := p
  obtain ⟨W1, hW1⟩ : ∃ W, w.alloc (.cells (d.cells ⟨hA, hc, ps, bA, bc⟩) 28) = W := ⟨_, rfl⟩
  obtain ⟨K0, hB⟩ := K6.arg hR
  rw [hW1] at K0 hB
  have k1 := Lib.hid (write6_any d ⟨hA, hc, ps, bA, bc⟩ W1 K0.rd)
  have x0 := K0.has
  by_cases hck : d.check = 0
  case neg =>
    have hcs := Lib.hid (d.check_cases.resolve_left hck)
    have hwr : d.write = [] := by unfold D6.write; rw [if_neg hck]
    rw [hwr] at k1
    clear hck hwr
    go_enter Try.func6, Try.ntmps6
    go_wp2_with (refine wpList_load_rowG (by kernel_rfl) 28 (.tmp 2) rfl w.heap.size rfl 28 (d.cells ⟨hA, hc, ps, bA, bc⟩) (0, 0) _ x0 Try.underlying28 rfl v6_info ?_)
    refine k1.out.mono ?_
    rintro e w2 ⟨v1, s1, rfl, hs1, o1, hb⟩
    have hB := hB.trans (hb.mono hB.size)
    obtain ⟨A1, c1, rfl, y1⟩ := o1.by_
    have hs0 : (s1 != 0) = true := by
      rw [hs1.out]
      rcases hcs.out with h | h <;> rw [h] <;> rfl
    clear k1 hs1 o1 y1 hb hcs K0 x0 hR
    go_wp2_with fail
    refine (alive6_any _).mono ?_
    rintro e w9 ⟨rfl, hb⟩
    go_wp2
    go_ret
    exact ⟨rfl, hB.trans (hb.mono hB.size)⟩
  case pos =>
  have hwr : d.write = d.bytes := by unfold D6.write; rw [if_pos hck]
  have hln := d.bytes_len hR.ok
  obtain ⟨hrt, hle⟩ := D6.ok_of_check hck
  have ha2 := (D6.ahead_le hrt).2.1
  have hcut := fun n hn => D6.cut d hR.ok hck n hn
  obtain ⟨L, hL⟩ : ∃ L, d.bytes = L := ⟨_, rfl⟩
  obtain ⟨BL, hBL⟩ : ∃ BL, d.bl.length = BL := ⟨_, rfl⟩
  rw [hwr, hL, hck] at k1
  rw [hL, hBL] at hln
  rw [hBL] at hle
  simp only [hL, hBL] at hcut
  obtain ⟨n, hn⟩ : ∃ n : Nat, (if (BL : Int) < x then BL else x.toNat) = n := ⟨_, rfl⟩
  have hnB : n ≤ BL := by rw [← hn]; split <;> omega
  have hcutH := Lib.hid (hcut n hnB)
  obtain ⟨LL, hLL⟩ : ∃ LL, L.length = LL := ⟨_, rfl⟩
  rw [hLL] at hcutH hln
  have hLLH := Lib.hid hLL
  have hnL : n ≤ LL := by omega
  have hLLb : LL ≤ 100000 := by omega
  have hBLb : BL ≤ 65535 := by omega
  have hxn : (BL : Int) < x ∧ n = BL ∨ ¬ ((BL : Int) < x) ∧ x = (n : Int) := by
    rw [← hn]
    by_cases h : (BL : Int) < x
    · rw [if_pos h]; exact .inl ⟨h, rfl⟩
    · rw [if_neg h]; exact .inr ⟨h, by omega⟩
  have hBLH := Lib.hid hBL
  have hlenT : Hid ((L.take (LL - n)).length = LL - n) := Lib.hid (by rw [List.length_take]; omega)
  have c41 := K0.has.cell 41 (v := .slice bA d.bl.length bc) rfl
  rw [hBL] at c41
  clear hwr hL hBL hck hcut hn hLL hln hle hrt ha2
  go_enter Try.func6, Try.ntmps6
  go_wp2_with (refine wpList_load_rowG (by kernel_rfl) 28 (.tmp 2) rfl w.heap.size rfl 28 (d.cells ⟨hA, hc, ps, bA, bc⟩) (0, 0) _ x0 Try.underlying28 rfl v6_info ?_)
  refine k1.out.mono ?_
  rintro e w2 ⟨v1, s1, rfl, hs1, o1, hb⟩
  obtain rfl : s1 = 0 := hs1.out
  have hB := hB.trans (hb.mono hB.size)
  have K0 := K0.below hb
  obtain ⟨A1, c1, rfl, y1⟩ := o1.by_
  rw [hLLH.out] at y1 ⊢
  obtain ⟨rt, yt⟩ := y1.to_ (P := Try.prog) 26 Try.underlying26 (by kernel_rfl) (k := LL - n) (by omega)
  have k2 := Lib.hid (ppart6_any A1 c1 (L.take (LL - n)) w2 (by rw [hlenT.out]; exact yt))
  rw [hlenT.out, hcutH.out.1, hcutH.out.2] at k2
  have c41 := K0.has.cell 41 (v := .slice bA d.bl.length bc) rfl
  rw [hBLH.out] at c41
  have hsub : ((LL : Int) - (n : Int)) = ((LL - n : Nat) : Int) := by omega
  have hsb2 : ((BL : Int) - (n : Int)) = ((BL - n : Nat) : Int) := by omega
  obtain ⟨r3, yb3⟩ := K0.rd.body.to_ (P := Try.prog) 26 Try.underlying26 (by kernel_rfl) (k := BL - n) (by rw [hBLH.out]; omega)
  dsimp only at r3 yb3
  rw [hBLH.out] at r3
  have hnLz : ¬ ((LL : Int) < (n : Int)) := by omega
  clear hb hs1 k1 o1 y1 yt hW1 x0
  rcases hxn with ⟨hbx, hnb⟩ | ⟨hbx, hnb⟩
  case inl =>
    obtain rfl : n = BL := hnb
    rw [Nat.sub_self] at hcutH k2 yb3 r3
    obtain ⟨D8, hD8⟩ : ∃ D, ({ d with bl := d.bl.take 0 } : D6) = D := ⟨_, rfl⟩
    rw [hD8] at k2
    go_wp2_with (refine wl_slice 26 _ _ _ _ rfl (by kernel_rfl) (.slice A1 LL c1) rfl none (some (.int .i64 ((LL - n : Nat) : Int))) none rfl rfl rfl (rt _) ?_)
    refine k2.out.mono ?_
    have hgne2 := Nat.succ_le_of_lt K0.has.lt
    rintro e w5 ⟨⟨p8, a, s, rfl, ha, hs, ho⟩, hb⟩
    obtain rfl : s = 0 := hs.out
    have hB := hB.trans (hb.mono hB.size)
    have K0 := K0.below hb
    have yb3 := (yb3.below hb (Nat.le_refl _)).more hb.size
    clear hb ha hs k2 c41
    have hgne := K0.has.lt
    have ho8b := ho
    obtain ⟨K8, hb⟩ := K6.new #[.int .u8 0, .int .u32 0, .int .u8 0, .int .u8 0, .int .u8 0, .int .u8 0, .int .u8 0, .int .u8 0, .int .u8 0, .int .u8 0, .int .u8 0, .int .u8 0, .int .u8 0, .int .u8 0, .int .u8 0, .int .u8 0, .int .u8 0, .int .u8 0, .int .u8 0, .int .u8 0, .int .u8 0, .int .u8 0, .int .u8 0, .int .u8 0, .int .u8 0, .int .u8 0, .int .u8 0, .int .u8 0, .int .u8 0, .int .u8 0, .int .u8 0, .int .u8 0, .int .u8 0, .int .u8 0, .int .u8 0, .slice none 0 0, .bool false, .int .u32 0, .int .i64 0, .bool false, .int .u8 0, .slice none 0 0] ho.rd
    have hZ : Has (w5.alloc (.cells #[.int .u8 0, .int .u32 0, .int .u8 0, .int .u8 0, .int .u8 0, .int .u8 0, .int .u8 0, .int .u8 0, .int .u8 0, .int .u8 0, .int .u8 0, .int .u8 0, .int .u8 0, .int .u8 0, .int .u8 0, .int .u8 0, .int .u8 0, .int .u8 0, .int .u8 0, .int .u8 0, .int .u8 0, .int .u8 0, .int .u8 0, .int .u8 0, .int .u8 0, .int .u8 0, .int .u8 0, .int .u8 0, .int .u8 0, .int .u8 0, .int .u8 0, .int .u8 0, .int .u8 0, .int .u8 0, .int .u8 0, .slice none 0 0, .bool false, .int .u32 0, .int .i64 0, .bool false, .int .u8 0, .slice none 0 0] 28)) w5.heap.size (.cells #[.int .u8 0, .int .u32 0, .int .u8 0, .int .u8 0, .int .u8 0, .int .u8 0, .int .u8 0, .int .u8 0, .int .u8 0, .int .u8 0, .int .u8 0, .int .u8 0, .int .u8 0, .int .u8 0, .int .u8 0, .int .u8 0, .int .u8 0, .int .u8 0, .int .u8 0, .int .u8 0, .int .u8 0, .int .u8 0, .int .u8 0, .int .u8 0, .int .u8 0, .int .u8 0, .int .u8 0, .int .u8 0, .int .u8 0, .int .u8 0, .int .u8 0, .int .u8 0, .int .u8 0, .int .u8 0, .int .u8 0, .slice none 0 0, .bool false, .int .u32 0, .int .i64 0, .bool false, .int .u8 0, .slice none 0 0] 28 (0, 0)) := Has.newAt rfl
    have hB := hB.trans (hb.mono hB.size)
    have K0 := K0.below hb
    obtain ⟨w8, hw8⟩ : ∃ W, (w5.alloc (.cells #[.int .u8 0, .int .u32 0, .int .u8 0, .int .u8 0, .int .u8 0, .int .u8 0, .int .u8 0, .int .u8 0, .int .u8 0, .int .u8 0, .int .u8 0, .int .u8 0, .int .u8 0, .int .u8 0, .int .u8 0, .int .u8 0, .int .u8 0, .int .u8 0, .int .u8 0, .int .u8 0, .int .u8 0, .int .u8 0, .int .u8 0, .int .u8 0, .int .u8 0, .int .u8 0, .int .u8 0, .int .u8 0, .int .u8 0, .int .u8 0, .int .u8 0, .int .u8 0, .int .u8 0, .int .u8 0, .int .u8 0, .slice none 0 0, .bool false, .int .u32 0, .int .i64 0, .bool false, .int .u8 0, .slice none 0 0] 28)).setRow w5.heap.size (D6.cells D8 p8) = W := ⟨_, rfl⟩
    rw [hw8] at K8 hB hb K0
    
    have ho8 : Own6 w8 (w.heap.size + 1) D8 p8 := (ho8b.below hb).more (by have := hgne2; omega)
    have yb3 := (yb3.below hb (Nat.le_refl _)).more hb.size
    have c41 := K0.has.cell 41 (v := .slice bA d.bl.length bc) rfl
    rw [hBLH.out] at c41
    have f41 := K0.has.free 41
    have hlb : (d.bl.take (0)).length = 0 := by rw [List.length_take, hBLH.out]; omega
    have x9 : Has (w8.setCell ⟨w.heap.size, 41, none⟩ (.slice bA (0) bc)) w.heap.size (.cells (D6.cells D8 ⟨hA, hc, ps, bA, bc⟩) 28 (0, 0)) := by
      have e : (d.cells ⟨hA, hc, ps, bA, bc⟩).setIfInBounds 41 (.slice bA (0) bc) = D6.cells D8 ⟨hA, hc, ps, bA, bc⟩ := by
        rw [← hD8]
        simp only [D6.cells, hlb]
        rfl
      rw [← e]
      exact K0.has.setCell 41 _
    have hB9 := below_setCell hB (Nat.le_refl w.heap.size) 41 (.slice bA (0) bc)
    have hne8 : w5.heap.size ≠ w.heap.size := by have := K0.has.lt; have := K8.has.lt; have := hgne; omega
    have x8 := K8.has.setCell_other hne8 41 (.slice bA (0) bc)
    obtain ⟨W9, hW9⟩ : ∃ W, w8.setCell ⟨w.heap.size, 41, none⟩ (.slice bA (0) bc) = W := ⟨_, rfl⟩
    have hR9 : Rd6 W9.heap.size W9 D8 ⟨hA, hc, ps, bA, bc⟩ := by
      rw [← hD8]
      have h1 := hR.below (B' := w.heap.size) (hB9) (Nat.le_refl _)
      rw [hW9] at h1
      have h2 := h1.more (B' := W9.heap.size) (by rw [← hW9]; exact hB9.size)
      exact ⟨⟨h2.ok.cls, h2.ok.lab, h2.ok.hop, h2.ok.srcL, h2.ok.src, h2.ok.dstL, h2.ok.dst, h2.ok.id, h2.ok.off, h2.ok.pro⟩, h2.hl, h2.hd, by
        have h3 := h2.body.take (k := 0) (by rw [hBLH.out]; omega)
        dsimp only at h3 ⊢
        rw [hlb]
        exact h3⟩
    have ho9 : Own6 W9 (w.heap.size + 1) D8 p8 := by
      rw [← hW9]
      have h1 := ho8
      exact ⟨h1.ok, h1.own.but6 (But6.setCell w.heap.size 41 _ _) (by omega), h1.hl, h1.body.but6 (But6.setCell w.heap.size 41 _ _) (by omega)⟩
    rw [hW9] at x9 x8 hB9
    have K9 : K6 W9 w.heap.size D8 ⟨hA, hc, ps, bA, bc⟩ := ⟨x9, hR9⟩
    have K8' : K6 W9 w5.heap.size D8 p8 := ⟨x8, ho9.rd⟩
    clear K0 K8 hR9 ho9 ho8 hR yb3 ho hb hB
    go_wp2_with (first | (refine wpList_store_row rfl 28 (.tmp 8) (.tmp 46) rfl w5.heap.size _ rfl rfl 28 _ hZ v6_info rfl (D6.cells_one _ _) ?_) | (refine wl_slice 26 _ _ _ _ rfl (by kernel_rfl) (.slice bA n bc) rfl none (some (.int .i64 ((0 : Nat) : Int))) none rfl rfl rfl (r3 _) ?_) | (refine wpList_load_rowG (by kernel_rfl) 28 (.tmp 2) rfl w.heap.size rfl 28 (D6.cells D8 ⟨hA, hc, ps, bA, bc⟩) (0, 0) _ x9 Try.underlying28 rfl v6_info ?_) | (refine wpList_load_rowG (by kernel_rfl) 28 (.tmp 8) rfl w5.heap.size rfl 28 (D6.cells D8 p8) (0, 0) _ x8 Try.underlying28 rfl v6_info ?_))
    refine (K9.same K8').mono ?_
    rintro e w10 ⟨⟨q, rfl, hq⟩, hb⟩
    obtain rfl : q = true := hq.out.trans (same6_self _)
    have hB := hB9.trans (hb.mono hB9.size)
    clear hq hb K9 K8' x8 x9
    go_wp2_with fail
    refine (alive6_any _).mono ?_
    rintro e w11 ⟨rfl, hb⟩
    go_wp2
    go_ret
    exact ⟨rfl, hB.trans (hb.mono hB.size)⟩
  case inr =>
    subst hnb
    obtain ⟨D8, hD8⟩ : ∃ D, ({ d with bl := d.bl.take (BL - n) } : D6) = D := ⟨_, rfl⟩
    rw [hD8] at k2
    go_wp2_with (refine wl_slice 26 _ _ _ _ rfl (by kernel_rfl) (.slice A1 LL c1) rfl none (some (.int .i64 ((LL - n : Nat) : Int))) none rfl rfl rfl (rt _) ?_)
    refine k2.out.mono ?_
    have hgne2 := Nat.succ_le_of_lt K0.has.lt
    rintro e w5 ⟨⟨p8, a, s, rfl, ha, hs, ho⟩, hb⟩
    obtain rfl : s = 0 := hs.out
    have hB := hB.trans (hb.mono hB.size)
    have K0 := K0.below hb
    have yb3 := (yb3.below hb (Nat.le_refl _)).more hb.size
    clear hb ha hs k2 c41
    have hgne := K0.has.lt
    have ho8b := ho
    obtain ⟨K8, hb⟩ := K6.new #[.int .u8 0, .int .u32 0, .int .u8 0, .int .u8 0, .int .u8 0, .int .u8 0, .int .u8 0, .int .u8 0, .int .u8 0, .int .u8 0, .int .u8 0, .int .u8 0, .int .u8 0, .int .u8 0, .int .u8 0, .int .u8 0, .int .u8 0, .int .u8 0, .int .u8 0, .int .u8 0, .int .u8 0, .int .u8 0, .int .u8 0, .int .u8 0, .int .u8 0, .int .u8 0, .int .u8 0, .int .u8 0, .int .u8 0, .int .u8 0, .int .u8 0, .int .u8 0, .int .u8 0, .int .u8 0, .int .u8 0, .slice none 0 0, .bool false, .int .u32 0, .int .i64 0, .bool false, .int .u8 0, .slice none 0 0] ho.rd
    have hZ : Has (w5.alloc (.cells #[.int .u8 0, .int .u32 0, .int .u8 0, .int .u8 0, .int .u8 0, .int .u8 0, .int .u8 0, .int .u8 0, .int .u8 0, .int .u8 0, .int .u8 0, .int .u8 0, .int .u8 0, .int .u8 0, .int .u8 0, .int .u8 0, .int .u8 0, .int .u8 0, .int .u8 0, .int .u8 0, .int .u8 0, .int .u8 0, .int .u8 0, .int .u8 0, .int .u8 0, .int .u8 0, .int .u8 0, .int .u8 0, .int .u8 0, .int .u8 0, .int .u8 0, .int .u8 0, .int .u8 0, .int .u8 0, .int .u8 0, .slice none 0 0, .bool false, .int .u32 0, .int .i64 0, .bool false, .int .u8 0, .slice none 0 0] 28)) w5.heap.size (.cells #[.int .u8 0, .int .u32 0, .int .u8 0, .int .u8 0, .int .u8 0, .int .u8 0, .int .u8 0, .int .u8 0, .int .u8 0, .int .u8 0, .int .u8 0, .int .u8 0, .int .u8 0, .int .u8 0, .int .u8 0, .int .u8 0, .int .u8 0, .int .u8 0, .int .u8 0, .int .u8 0, .int .u8 0, .int .u8 0, .int .u8 0, .int .u8 0, .int .u8 0, .int .u8 0, .int .u8 0, .int .u8 0, .int .u8 0, .int .u8 0, .int .u8 0, .int .u8 0, .int .u8 0, .int .u8 0, .int .u8 0, .slice none 0 0, .bool false, .int .u32 0, .int .i64 0, .bool false, .int .u8 0, .slice none 0 0] 28 (0, 0)) := Has.newAt rfl
    have hB := hB.trans (hb.mono hB.size)
    have K0 := K0.below hb
    obtain ⟨w8, hw8⟩ : ∃ W, (w5.alloc (.cells #[.int .u8 0, .int .u32 0, .int .u8 0, .int .u8 0, .int .u8 0, .int .u8 0, .int .u8 0, .int .u8 0, .int .u8 0, .int .u8 0, .int .u8 0, .int .u8 0, .int .u8 0, .int .u8 0, .int .u8 0, .int .u8 0, .int .u8 0, .int .u8 0, .int .u8 0, .int .u8 0, .int .u8 0, .int .u8 0, .int .u8 0, .int .u8 0, .int .u8 0, .int .u8 0, .int .u8 0, .int .u8 0, .int .u8 0, .int .u8 0, .int .u8 0, .int .u8 0, .int .u8 0, .int .u8 0, .int .u8 0, .slice none 0 0, .bool false, .int .u32 0, .int .i64 0, .bool false, .int .u8 0, .slice none 0 0] 28)).setRow w5.heap.size (D6.cells D8 p8) = W := ⟨_, rfl⟩
    rw [hw8] at K8 hB hb K0
    
    have ho8 : Own6 w8 (w.heap.size + 1) D8 p8 := (ho8b.below hb).more (by have := hgne2; omega)
    have yb3 := (yb3.below hb (Nat.le_refl _)).more hb.size
    have c41 := K0.has.cell 41 (v := .slice bA d.bl.length bc) rfl
    rw [hBLH.out] at c41
    have f41 := K0.has.free 41
    have hlb : (d.bl.take (BL - n)).length = BL - n := by rw [List.length_take, hBLH.out]; omega
    have x9 : Has (w8.setCell ⟨w.heap.size, 41, none⟩ (.slice bA (BL - n) bc)) w.heap.size (.cells (D6.cells D8 ⟨hA, hc, ps, bA, bc⟩) 28 (0, 0)) := by
      have e : (d.cells ⟨hA, hc, ps, bA, bc⟩).setIfInBounds 41 (.slice bA (BL - n) bc) = D6.cells D8 ⟨hA, hc, ps, bA, bc⟩ := by
        rw [← hD8]
        simp only [D6.cells, hlb]
        rfl
      rw [← e]
      exact K0.has.setCell 41 _
    have hB9 := below_setCell hB (Nat.le_refl w.heap.size) 41 (.slice bA (BL - n) bc)
    have hne8 : w5.heap.size ≠ w.heap.size := by have := K0.has.lt; have := K8.has.lt; have := hgne; omega
    have x8 := K8.has.setCell_other hne8 41 (.slice bA (BL - n) bc)
    obtain ⟨W9, hW9⟩ : ∃ W, w8.setCell ⟨w.heap.size, 41, none⟩ (.slice bA (BL - n) bc) = W := ⟨_, rfl⟩
    have hR9 : Rd6 W9.heap.size W9 D8 ⟨hA, hc, ps, bA, bc⟩ := by
      rw [← hD8]
      have h1 := hR.below (B' := w.heap.size) (hB9) (Nat.le_refl _)
      rw [hW9] at h1
      have h2 := h1.more (B' := W9.heap.size) (by rw [← hW9]; exact hB9.size)
      exact ⟨⟨h2.ok.cls, h2.ok.lab, h2.ok.hop, h2.ok.srcL, h2.ok.src, h2.ok.dstL, h2.ok.dst, h2.ok.id, h2.ok.off, h2.ok.pro⟩, h2.hl, h2.hd, by
        have h3 := h2.body.take (k := BL - n) (by rw [hBLH.out]; omega)
        dsimp only at h3 ⊢
        rw [hlb]
        exact h3⟩
    have ho9 : Own6 W9 (w.heap.size + 1) D8 p8 := by
      rw [← hW9]
      have h1 := ho8
      exact ⟨h1.ok, h1.own.but6 (But6.setCell w.heap.size 41 _ _) (by omega), h1.hl, h1.body.but6 (But6.setCell w.heap.size 41 _ _) (by omega)⟩
    rw [hW9] at x9 x8 hB9
    have K9 : K6 W9 w.heap.size D8 ⟨hA, hc, ps, bA, bc⟩ := ⟨x9, hR9⟩
    have K8' : K6 W9 w5.heap.size D8 p8 := ⟨x8, ho9.rd⟩
    clear K0 K8 hR9 ho9 ho8 hR yb3 ho hb hB
    go_wp2_with (first | (refine wpList_store_row rfl 28 (.tmp 8) (.tmp 46) rfl w5.heap.size _ rfl rfl 28 _ hZ v6_info rfl (D6.cells_one _ _) ?_) | (refine wl_slice 26 _ _ _ _ rfl (by kernel_rfl) (.slice bA BL bc) rfl none (some (.int .i64 ((BL - n : Nat) : Int))) none rfl rfl rfl (r3 _) ?_) | (refine wpList_load_rowG (by kernel_rfl) 28 (.tmp 2) rfl w.heap.size rfl 28 (D6.cells D8 ⟨hA, hc, ps, bA, bc⟩) (0, 0) _ x9 Try.underlying28 rfl v6_info ?_) | (refine wpList_load_rowG (by kernel_rfl) 28 (.tmp 8) rfl w5.heap.size rfl 28 (D6.cells D8 p8) (0, 0) _ x8 Try.underlying28 rfl v6_info ?_))
    refine (K9.same K8').mono ?_
    rintro e w10 ⟨⟨q, rfl, hq⟩, hb⟩
    obtain rfl : q = true := hq.out.trans (same6_self _)
    have hB := hB9.trans (hb.mono hB9.size)
    clear hq hb K9 K8' x8 x9
    go_wp2_with fail
    refine (alive6_any _).mono ?_
    rintro e w11 ⟨rfl, hb⟩
    go_wp2
    go_ret
    exact ⟨rfl, hB.trans (hb.mono hB.size)⟩
theorem cut6_row (d : D6) (p : W6) (x : Int) (w : World) (hR : Rd6 w.heap.size w d p) (h0 : 0 ≤ x) (h1 : x < 65536) :
    Calls Try.prog 6 #[.agg (d.cells p), .int .u16 x] w fun e w' => e = .returned (.bool true) ∧ Below w.heap.size w w' := cut6_walk d p x w hR ⟨h0, by omega⟩
end Go.Proofs.Ytndmmkadceobjaa
