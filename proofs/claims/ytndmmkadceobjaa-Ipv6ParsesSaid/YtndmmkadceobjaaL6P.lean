/-
  The walk of Ipv6Parses.
-/
import Derived.Test.YtndmmkadceobjaaV6Yr
import Derived.Test.YtndmmkadceobjaaV6AL
namespace Go.Proofs.Ytndmmkadceobjaa
open Go.RowKit Go.Shelf

set_option maxRecDepth 100000 in
set_option maxHeartbeats 4000000 in
theorem parses6_walk (A : Option Addr) (c : Nat) (l : List Int) (w : World) (hy : By w.heap.size w A l.length c l) :
    Calls Try.prog 5 #[.slice A l.length c] w fun e w' => e = .returned (.bool true) ∧ Below w.heap.size w w' := by
  obtain ⟨DF, hDF⟩ : ∃ D, got6 true l = D := ⟨_, rfl⟩
  obtain ⟨aF, haF⟩ : ∃ a : Int, ((g6 true l).pat : Int) = a := ⟨_, rfl⟩
  obtain ⟨sF, hsF⟩ : ∃ a, (g6 true l).err = a := ⟨_, rfl⟩
  obtain ⟨DP, hDP⟩ : ∃ D, got6 false l = D := ⟨_, rfl⟩
  obtain ⟨aP, haP⟩ : ∃ a : Int, ((g6 false l).pat : Int) = a := ⟨_, rfl⟩
  obtain ⟨sP, hsP⟩ : ∃ a, (g6 false l).err = a := ⟨_, rfl⟩
  have k1 := fun W (h : Below w.heap.size w W) => pparse6_any A c l W ((hy.below h (Nat.le_refl _)).more h.size)
  have k2 := fun W (h : Below w.heap.size w W) => rparse6_any A c l W ((hy.below h (Nat.le_refl _)).more h.size)
  have k3 := fun W (h : Below w.heap.size w W) => ppart6_any A c l W ((hy.below h (Nat.le_refl _)).more h.size)
  have k4 := fun W (h : Below w.heap.size w W) => rpart6_any A c l W ((hy.below h (Nat.le_refl _)).more h.size)
  simp only [hDF, haF, hDP, haP] at k1 k2 k3 k4
  simp only [hsF, hsP] at k1 k2 k3 k4
  have k1 := Lib.hid k1
  have k2 := Lib.hid k2
  have k3 := Lib.hid k3
  have k4 := Lib.hid k4
  clear hDF haF hsF hDP haP hsP
  go_enter Try.func5, Try.ntmps5
  go_wp2_with fail
  refine (k1.out _ (Below.refl w.heap.size w)).mono ?_
  rintro e v1 ⟨⟨p1, a, s, rfl, ha, hs, ho⟩, hb⟩
  obtain rfl : aF = a := ha.out.symm
  obtain rfl : sF = s := hs.out.symm
  have hB := Below.trans (Below.refl w.heap.size w) (hb.mono (Below.size (Below.refl w.heap.size w)))
  obtain ⟨K1, hb⟩ := K6.new #[.int .u8 0, .int .u32 0, .int .u8 0, .int .u8 0, .int .u8 0, .int .u8 0, .int .u8 0, .int .u8 0, .int .u8 0, .int .u8 0, .int .u8 0, .int .u8 0, .int .u8 0, .int .u8 0, .int .u8 0, .int .u8 0, .int .u8 0, .int .u8 0, .int .u8 0, .int .u8 0, .int .u8 0, .int .u8 0, .int .u8 0, .int .u8 0, .int .u8 0, .int .u8 0, .int .u8 0, .int .u8 0, .int .u8 0, .int .u8 0, .int .u8 0, .int .u8 0, .int .u8 0, .int .u8 0, .int .u8 0, .slice none 0 0, .bool false, .int .u32 0, .int .i64 0, .bool false, .int .u8 0, .slice none 0 0] ho.rd
  have hZ : Has (v1.alloc (.cells #[.int .u8 0, .int .u32 0, .int .u8 0, .int .u8 0, .int .u8 0, .int .u8 0, .int .u8 0, .int .u8 0, .int .u8 0, .int .u8 0, .int .u8 0, .int .u8 0, .int .u8 0, .int .u8 0, .int .u8 0, .int .u8 0, .int .u8 0, .int .u8 0, .int .u8 0, .int .u8 0, .int .u8 0, .int .u8 0, .int .u8 0, .int .u8 0, .int .u8 0, .int .u8 0, .int .u8 0, .int .u8 0, .int .u8 0, .int .u8 0, .int .u8 0, .int .u8 0, .int .u8 0, .int .u8 0, .int .u8 0, .slice none 0 0, .bool false, .int .u32 0, .int .i64 0, .bool false, .int .u8 0, .slice none 0 0] 28)) v1.heap.size (.cells #[.int .u8 0, .int .u32 0, .int .u8 0, .int .u8 0, .int .u8 0, .int .u8 0, .int .u8 0, .int .u8 0, .int .u8 0, .int .u8 0, .int .u8 0, .int .u8 0, .int .u8 0, .int .u8 0, .int .u8 0, .int .u8 0, .int .u8 0, .int .u8 0, .int .u8 0, .int .u8 0, .int .u8 0, .int .u8 0, .int .u8 0, .int .u8 0, .int .u8 0, .int .u8 0, .int .u8 0, .int .u8 0, .int .u8 0, .int .u8 0, .int .u8 0, .int .u8 0, .int .u8 0, .int .u8 0, .int .u8 0, .slice none 0 0, .bool false, .int .u32 0, .int .i64 0, .bool false, .int .u8 0, .slice none 0 0] 28 (0, 0)) := Has.newAt rfl
  have hB := hB.trans (hb.mono hB.size)
  clear ho ha hs
  go_wp2_with (refine wpList_store_row rfl 28 (.tmp 3) (.tmp 18) rfl v1.heap.size _ rfl rfl 28 _ hZ v6_info rfl (D6.cells_one _ _) ?_)
  clear hZ hb
  generalize (v1.alloc (.cells #[.int .u8 0, .int .u32 0, .int .u8 0, .int .u8 0, .int .u8 0, .int .u8 0, .int .u8 0, .int .u8 0, .int .u8 0, .int .u8 0, .int .u8 0, .int .u8 0, .int .u8 0, .int .u8 0, .int .u8 0, .int .u8 0, .int .u8 0, .int .u8 0, .int .u8 0, .int .u8 0, .int .u8 0, .int .u8 0, .int .u8 0, .int .u8 0, .int .u8 0, .int .u8 0, .int .u8 0, .int .u8 0, .int .u8 0, .int .u8 0, .int .u8 0, .int .u8 0, .int .u8 0, .int .u8 0, .int .u8 0, .slice none 0 0, .bool false, .int .u32 0, .int .i64 0, .bool false, .int .u8 0, .slice none 0 0] 28)).setRow v1.heap.size (D6.cells DF p1) = w1 at K1 hB ⊢
  generalize v1.heap.size = g1 at K1 ⊢
  refine (k2.out _ hB).mono ?_
  rintro e v2 ⟨⟨p2, a, s, rfl, ha, hs, ho⟩, hb⟩
  obtain rfl : aF = a := ha.out.symm
  obtain rfl : sF = s := hs.out.symm
  have hB := Below.trans hB (hb.mono (Below.size hB))
  have K1 := K1.below hb
  obtain ⟨K2, hb⟩ := K6.new #[.int .u8 0, .int .u32 0, .int .u8 0, .int .u8 0, .int .u8 0, .int .u8 0, .int .u8 0, .int .u8 0, .int .u8 0, .int .u8 0, .int .u8 0, .int .u8 0, .int .u8 0, .int .u8 0, .int .u8 0, .int .u8 0, .int .u8 0, .int .u8 0, .int .u8 0, .int .u8 0, .int .u8 0, .int .u8 0, .int .u8 0, .int .u8 0, .int .u8 0, .int .u8 0, .int .u8 0, .int .u8 0, .int .u8 0, .int .u8 0, .int .u8 0, .int .u8 0, .int .u8 0, .int .u8 0, .int .u8 0, .slice none 0 0, .bool false, .int .u32 0, .int .i64 0, .bool false, .int .u8 0, .slice none 0 0] ho.rd
  have hZ : Has (v2.alloc (.cells #[.int .u8 0, .int .u32 0, .int .u8 0, .int .u8 0, .int .u8 0, .int .u8 0, .int .u8 0, .int .u8 0, .int .u8 0, .int .u8 0, .int .u8 0, .int .u8 0, .int .u8 0, .int .u8 0, .int .u8 0, .int .u8 0, .int .u8 0, .int .u8 0, .int .u8 0, .int .u8 0, .int .u8 0, .int .u8 0, .int .u8 0, .int .u8 0, .int .u8 0, .int .u8 0, .int .u8 0, .int .u8 0, .int .u8 0, .int .u8 0, .int .u8 0, .int .u8 0, .int .u8 0, .int .u8 0, .int .u8 0, .slice none 0 0, .bool false, .int .u32 0, .int .i64 0, .bool false, .int .u8 0, .slice none 0 0] 28)) v2.heap.size (.cells #[.int .u8 0, .int .u32 0, .int .u8 0, .int .u8 0, .int .u8 0, .int .u8 0, .int .u8 0, .int .u8 0, .int .u8 0, .int .u8 0, .int .u8 0, .int .u8 0, .int .u8 0, .int .u8 0, .int .u8 0, .int .u8 0, .int .u8 0, .int .u8 0, .int .u8 0, .int .u8 0, .int .u8 0, .int .u8 0, .int .u8 0, .int .u8 0, .int .u8 0, .int .u8 0, .int .u8 0, .int .u8 0, .int .u8 0, .int .u8 0, .int .u8 0, .int .u8 0, .int .u8 0, .int .u8 0, .int .u8 0, .slice none 0 0, .bool false, .int .u32 0, .int .i64 0, .bool false, .int .u8 0, .slice none 0 0] 28 (0, 0)) := Has.newAt rfl
  have hB := hB.trans (hb.mono hB.size)
  have K1 := K1.below hb
  clear ho ha hs
  go_wp2_with (refine wpList_store_row rfl 28 (.tmp 6) (.tmp 24) rfl v2.heap.size _ rfl rfl 28 _ hZ v6_info rfl (D6.cells_one _ _) ?_)
  clear hZ hb
  generalize (v2.alloc (.cells #[.int .u8 0, .int .u32 0, .int .u8 0, .int .u8 0, .int .u8 0, .int .u8 0, .int .u8 0, .int .u8 0, .int .u8 0, .int .u8 0, .int .u8 0, .int .u8 0, .int .u8 0, .int .u8 0, .int .u8 0, .int .u8 0, .int .u8 0, .int .u8 0, .int .u8 0, .int .u8 0, .int .u8 0, .int .u8 0, .int .u8 0, .int .u8 0, .int .u8 0, .int .u8 0, .int .u8 0, .int .u8 0, .int .u8 0, .int .u8 0, .int .u8 0, .int .u8 0, .int .u8 0, .int .u8 0, .int .u8 0, .slice none 0 0, .bool false, .int .u32 0, .int .i64 0, .bool false, .int .u8 0, .slice none 0 0] 28)).setRow v2.heap.size (D6.cells DF p2) = w2 at K1 K2 hB ⊢
  generalize v2.heap.size = g2 at K1 K2 ⊢
  refine (k3.out _ hB).mono ?_
  rintro e v3 ⟨⟨p3, a, s, rfl, ha, hs, ho⟩, hb⟩
  obtain rfl : aP = a := ha.out.symm
  obtain rfl : sP = s := hs.out.symm
  have hB := Below.trans hB (hb.mono (Below.size hB))
  have K1 := K1.below hb
  have K2 := K2.below hb
  obtain ⟨K3, hb⟩ := K6.new #[.int .u8 0, .int .u32 0, .int .u8 0, .int .u8 0, .int .u8 0, .int .u8 0, .int .u8 0, .int .u8 0, .int .u8 0, .int .u8 0, .int .u8 0, .int .u8 0, .int .u8 0, .int .u8 0, .int .u8 0, .int .u8 0, .int .u8 0, .int .u8 0, .int .u8 0, .int .u8 0, .int .u8 0, .int .u8 0, .int .u8 0, .int .u8 0, .int .u8 0, .int .u8 0, .int .u8 0, .int .u8 0, .int .u8 0, .int .u8 0, .int .u8 0, .int .u8 0, .int .u8 0, .int .u8 0, .int .u8 0, .slice none 0 0, .bool false, .int .u32 0, .int .i64 0, .bool false, .int .u8 0, .slice none 0 0] ho.rd
  have hZ : Has (v3.alloc (.cells #[.int .u8 0, .int .u32 0, .int .u8 0, .int .u8 0, .int .u8 0, .int .u8 0, .int .u8 0, .int .u8 0, .int .u8 0, .int .u8 0, .int .u8 0, .int .u8 0, .int .u8 0, .int .u8 0, .int .u8 0, .int .u8 0, .int .u8 0, .int .u8 0, .int .u8 0, .int .u8 0, .int .u8 0, .int .u8 0, .int .u8 0, .int .u8 0, .int .u8 0, .int .u8 0, .int .u8 0, .int .u8 0, .int .u8 0, .int .u8 0, .int .u8 0, .int .u8 0, .int .u8 0, .int .u8 0, .int .u8 0, .slice none 0 0, .bool false, .int .u32 0, .int .i64 0, .bool false, .int .u8 0, .slice none 0 0] 28)) v3.heap.size (.cells #[.int .u8 0, .int .u32 0, .int .u8 0, .int .u8 0, .int .u8 0, .int .u8 0, .int .u8 0, .int .u8 0, .int .u8 0, .int .u8 0, .int .u8 0, .int .u8 0, .int .u8 0, .int .u8 0, .int .u8 0, .int .u8 0, .int .u8 0, .int .u8 0, .int .u8 0, .int .u8 0, .int .u8 0, .int .u8 0, .int .u8 0, .int .u8 0, .int .u8 0, .int .u8 0, .int .u8 0, .int .u8 0, .int .u8 0, .int .u8 0, .int .u8 0, .int .u8 0, .int .u8 0, .int .u8 0, .int .u8 0, .slice none 0 0, .bool false, .int .u32 0, .int .i64 0, .bool false, .int .u8 0, .slice none 0 0] 28 (0, 0)) := Has.newAt rfl
  have hB := hB.trans (hb.mono hB.size)
  have K1 := K1.below hb
  have K2 := K2.below hb
  clear ho ha hs
  go_wp2_with (refine wpList_store_row rfl 28 (.tmp 9) (.tmp 30) rfl v3.heap.size _ rfl rfl 28 _ hZ v6_info rfl (D6.cells_one _ _) ?_)
  clear hZ hb
  generalize (v3.alloc (.cells #[.int .u8 0, .int .u32 0, .int .u8 0, .int .u8 0, .int .u8 0, .int .u8 0, .int .u8 0, .int .u8 0, .int .u8 0, .int .u8 0, .int .u8 0, .int .u8 0, .int .u8 0, .int .u8 0, .int .u8 0, .int .u8 0, .int .u8 0, .int .u8 0, .int .u8 0, .int .u8 0, .int .u8 0, .int .u8 0, .int .u8 0, .int .u8 0, .int .u8 0, .int .u8 0, .int .u8 0, .int .u8 0, .int .u8 0, .int .u8 0, .int .u8 0, .int .u8 0, .int .u8 0, .int .u8 0, .int .u8 0, .slice none 0 0, .bool false, .int .u32 0, .int .i64 0, .bool false, .int .u8 0, .slice none 0 0] 28)).setRow v3.heap.size (D6.cells DP p3) = w3 at K1 K2 K3 hB ⊢
  generalize v3.heap.size = g3 at K1 K2 K3 ⊢
  refine (k4.out _ hB).mono ?_
  rintro e v4 ⟨⟨p4, a, s, rfl, ha, hs, ho⟩, hb⟩
  obtain rfl : aP = a := ha.out.symm
  obtain rfl : sP = s := hs.out.symm
  have hB := Below.trans hB (hb.mono (Below.size hB))
  have K1 := K1.below hb
  have K2 := K2.below hb
  have K3 := K3.below hb
  obtain ⟨K4, hb⟩ := K6.new #[.int .u8 0, .int .u32 0, .int .u8 0, .int .u8 0, .int .u8 0, .int .u8 0, .int .u8 0, .int .u8 0, .int .u8 0, .int .u8 0, .int .u8 0, .int .u8 0, .int .u8 0, .int .u8 0, .int .u8 0, .int .u8 0, .int .u8 0, .int .u8 0, .int .u8 0, .int .u8 0, .int .u8 0, .int .u8 0, .int .u8 0, .int .u8 0, .int .u8 0, .int .u8 0, .int .u8 0, .int .u8 0, .int .u8 0, .int .u8 0, .int .u8 0, .int .u8 0, .int .u8 0, .int .u8 0, .int .u8 0, .slice none 0 0, .bool false, .int .u32 0, .int .i64 0, .bool false, .int .u8 0, .slice none 0 0] ho.rd
  have hZ : Has (v4.alloc (.cells #[.int .u8 0, .int .u32 0, .int .u8 0, .int .u8 0, .int .u8 0, .int .u8 0, .int .u8 0, .int .u8 0, .int .u8 0, .int .u8 0, .int .u8 0, .int .u8 0, .int .u8 0, .int .u8 0, .int .u8 0, .int .u8 0, .int .u8 0, .int .u8 0, .int .u8 0, .int .u8 0, .int .u8 0, .int .u8 0, .int .u8 0, .int .u8 0, .int .u8 0, .int .u8 0, .int .u8 0, .int .u8 0, .int .u8 0, .int .u8 0, .int .u8 0, .int .u8 0, .int .u8 0, .int .u8 0, .int .u8 0, .slice none 0 0, .bool false, .int .u32 0, .int .i64 0, .bool false, .int .u8 0, .slice none 0 0] 28)) v4.heap.size (.cells #[.int .u8 0, .int .u32 0, .int .u8 0, .int .u8 0, .int .u8 0, .int .u8 0, .int .u8 0, .int .u8 0, .int .u8 0, .int .u8 0, .int .u8 0, .int .u8 0, .int .u8 0, .int .u8 0, .int .u8 0, .int .u8 0, .int .u8 0, .int .u8 0, .int .u8 0, .int .u8 0, .int .u8 0, .int .u8 0, .int .u8 0, .int .u8 0, .int .u8 0, .int .u8 0, .int .u8 0, .int .u8 0, .int .u8 0, .int .u8 0, .int .u8 0, .int .u8 0, .int .u8 0, .int .u8 0, .int .u8 0, .slice none 0 0, .bool false, .int .u32 0, .int .i64 0, .bool false, .int .u8 0, .slice none 0 0] 28 (0, 0)) := Has.newAt rfl
  have hB := hB.trans (hb.mono hB.size)
  have K1 := K1.below hb
  have K2 := K2.below hb
  have K3 := K3.below hb
  clear ho ha hs
  go_wp2_with (first | (refine wpList_store_row rfl 28 (.tmp 12) (.tmp 36) rfl v4.heap.size _ rfl rfl 28 _ hZ v6_info rfl (D6.cells_one _ _) ?_) | (refine wpList_load_rowG (by kernel_rfl) 28 (.tmp 3) rfl g1 rfl 28 (D6.cells DF p1) (0, 0) _ K1.has Try.underlying28 rfl v6_info ?_) | (refine wpList_load_rowG (by kernel_rfl) 28 (.tmp 6) rfl g2 rfl 28 (D6.cells DF p2) (0, 0) _ K2.has Try.underlying28 rfl v6_info ?_))
  clear hZ hb
  refine (K1.same K2).mono ?_
  rintro e w5 ⟨⟨q, rfl, hq⟩, hb⟩
  obtain rfl : q = true := hq.out.trans (same6_self _)
  have hB := hB.trans (hb.mono hB.size)
  have K3 := K3.below hb
  have K4 := K4.below hb
  clear hb hq K1 K2
  go_wp2_with (first | (refine wpList_load_rowG (by kernel_rfl) 28 (.tmp 9) rfl g3 rfl 28 (D6.cells DP p3) (0, 0) _ K3.has Try.underlying28 rfl v6_info ?_) | (refine wpList_load_rowG (by kernel_rfl) 28 (.tmp 12) rfl _ rfl 28 (D6.cells DP p4) (0, 0) _ K4.has Try.underlying28 rfl v6_info ?_))
  refine (K3.same K4).mono ?_
  rintro e w6 ⟨⟨q, rfl, hq⟩, hb⟩
  obtain rfl : q = true := hq.out.trans (same6_self _)
  have hB := hB.trans (hb.mono hB.size)
  clear hb hq K3 K4
  go_wp2_with fail
  refine (alive6_any _).mono ?_
  rintro e w7 ⟨rfl, hb⟩
  have hB := hB.trans (hb.mono hB.size)
  go_wp2
  go_ret
  exact ⟨rfl, hB⟩
end Go.Proofs.Ytndmmkadceobjaa
