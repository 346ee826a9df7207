/-
  The walk of Ipv6Bytes.
-/
import Derived.Test.YtndmmkadceobjaaV6AL
namespace Go.Proofs.Ytndmmkadceobjaa
open Go.RowKit Go.Shelf

set_option maxRecDepth 100000 in
set_option maxHeartbeats 4000000 in
theorem bytes6_walk (A : Option Addr) (c : Nat) (l : List Int) (w : World) (hy : By w.heap.size w A l.length c l) :
    Calls Try.prog 4 #[.slice A l.length c] w fun e w' => e = .returned (.bool true) ∧ Below w.heap.size w w' := by
  obtain ⟨D, hD⟩ : ∃ D, got6 true l = D := ⟨_, rfl⟩
  obtain ⟨E, hE⟩ : ∃ E, (g6 true l).err = E := ⟨_, rfl⟩
  have k1 := Lib.hid (pparse6_any A c l w hy)
  rw [hD, hE] at k1
  have hDH := Lib.hid hD
  have hEH := Lib.hid hE
  have hrH := Lib.hid hy.rng
  obtain ⟨N, hN⟩ : ∃ N, l.length = N := ⟨_, rfl⟩
  have hNH := Lib.hid hN
  rw [hN] at k1 hy ⊢
  have hNb := Nat.le_trans hy.cap hy.big
  clear hD hE hy hN
  go_enter Try.func4, Try.ntmps4
  go_wp2_with fail
  refine k1.out.mono ?_
  rintro e w2 ⟨⟨p3, a, s, rfl, ha, hs, ho⟩, hB⟩
  clear k1 ha
  obtain ⟨K3, hb⟩ := K6.new #[.int .u8 0, .int .u32 0, .int .u8 0, .int .u8 0, .int .u8 0, .int .u8 0, .int .u8 0, .int .u8 0, .int .u8 0, .int .u8 0, .int .u8 0, .int .u8 0, .int .u8 0, .int .u8 0, .int .u8 0, .int .u8 0, .int .u8 0, .int .u8 0, .int .u8 0, .int .u8 0, .int .u8 0, .int .u8 0, .int .u8 0, .int .u8 0, .int .u8 0, .int .u8 0, .int .u8 0, .int .u8 0, .int .u8 0, .int .u8 0, .int .u8 0, .int .u8 0, .int .u8 0, .int .u8 0, .int .u8 0, .slice none 0 0, .bool false, .int .u32 0, .int .i64 0, .bool false, .int .u8 0, .slice none 0 0] ho.rd
  have hZ : Has (w2.alloc (.cells #[.int .u8 0, .int .u32 0, .int .u8 0, .int .u8 0, .int .u8 0, .int .u8 0, .int .u8 0, .int .u8 0, .int .u8 0, .int .u8 0, .int .u8 0, .int .u8 0, .int .u8 0, .int .u8 0, .int .u8 0, .int .u8 0, .int .u8 0, .int .u8 0, .int .u8 0, .int .u8 0, .int .u8 0, .int .u8 0, .int .u8 0, .int .u8 0, .int .u8 0, .int .u8 0, .int .u8 0, .int .u8 0, .int .u8 0, .int .u8 0, .int .u8 0, .int .u8 0, .int .u8 0, .int .u8 0, .int .u8 0, .slice none 0 0, .bool false, .int .u32 0, .int .i64 0, .bool false, .int .u8 0, .slice none 0 0] 28)) w2.heap.size (.cells #[.int .u8 0, .int .u32 0, .int .u8 0, .int .u8 0, .int .u8 0, .int .u8 0, .int .u8 0, .int .u8 0, .int .u8 0, .int .u8 0, .int .u8 0, .int .u8 0, .int .u8 0, .int .u8 0, .int .u8 0, .int .u8 0, .int .u8 0, .int .u8 0, .int .u8 0, .int .u8 0, .int .u8 0, .int .u8 0, .int .u8 0, .int .u8 0, .int .u8 0, .int .u8 0, .int .u8 0, .int .u8 0, .int .u8 0, .int .u8 0, .int .u8 0, .int .u8 0, .int .u8 0, .int .u8 0, .int .u8 0, .slice none 0 0, .bool false, .int .u32 0, .int .i64 0, .bool false, .int .u8 0, .slice none 0 0] 28 (0, 0)) := Has.newAt rfl
  have hB := hB.trans (hb.mono hB.size)
  obtain ⟨w3, hw3⟩ : ∃ W, (w2.alloc (.cells #[.int .u8 0, .int .u32 0, .int .u8 0, .int .u8 0, .int .u8 0, .int .u8 0, .int .u8 0, .int .u8 0, .int .u8 0, .int .u8 0, .int .u8 0, .int .u8 0, .int .u8 0, .int .u8 0, .int .u8 0, .int .u8 0, .int .u8 0, .int .u8 0, .int .u8 0, .int .u8 0, .int .u8 0, .int .u8 0, .int .u8 0, .int .u8 0, .int .u8 0, .int .u8 0, .int .u8 0, .int .u8 0, .int .u8 0, .int .u8 0, .int .u8 0, .int .u8 0, .int .u8 0, .int .u8 0, .int .u8 0, .slice none 0 0, .bool false, .int .u32 0, .int .i64 0, .bool false, .int .u8 0, .slice none 0 0] 28)).setRow w2.heap.size (D6.cells D p3) = W := ⟨_, rfl⟩
  rw [hw3] at K3 hB hb 

  by_cases h0 : E = 0
  case neg =>
    have hs0 : (s != 0) = true := by rw [hs.out]; simpa using h0
    clear hs ho
    go_wp2_with (refine wpList_store_row rfl 28 (.tmp 3) (.tmp 14) rfl w2.heap.size _ rfl rfl 28 _ hZ v6_info rfl (D6.cells_one _ _) ?_)
    refine (alive6_any _).mono ?_
    rintro e w9 ⟨rfl, hb⟩
    go_wp2
    go_ret
    exact ⟨rfl, hB.trans (hb.mono hB.size)⟩
  case pos =>
  obtain rfl : s = 0 := hs.out.trans h0
  have hag := got6_again hrH.out (hEH.out.trans h0)
  have hok := got6_ok (whole := true) hrH.out
  rw [hDH.out] at hag hok
  obtain ⟨hck, hln⟩ := hag
  have hwr : D.write = D.bytes := by unfold D6.write; rw [if_pos hck]
  have hbk := D6.back D hok hck
  obtain ⟨L, hL⟩ : ∃ L, D.bytes = L := ⟨_, rfl⟩
  rw [hL] at hwr hbk hln
  rw [hNH.out] at hln
  have k2 := Lib.hid (write6_any D p3 w3 K3.rd)
  rw [hwr, hck] at k2
  have x3 := K3.has
  have hlnH := Lib.hid hln
  have hbkH := Lib.hid hbk
  clear hs ho h0 hb hck hwr hL hbk hln hok
  go_wp2_with (first | (refine wpList_store_row rfl 28 (.tmp 3) (.tmp 14) rfl w2.heap.size _ rfl rfl 28 _ hZ v6_info rfl (D6.cells_one _ _) ?_) | (refine wpList_load_rowG (by kernel_rfl) 28 (.tmp 3) rfl w2.heap.size rfl 28 (D6.cells D p3) (0, 0) _ x3 Try.underlying28 rfl v6_info ?_))
  clear hZ hw3
  refine k2.out.mono ?_
  rintro e w4 ⟨v6, s7, rfl, hs7, o6, hb⟩
  obtain rfl : s7 = 0 := hs7.out
  have hB := hB.trans (hb.mono hB.size)
  have K3 := K3.below hb
  obtain ⟨A6, c6, rfl, y6⟩ := o6.by_
  have k3 := Lib.hid (pparse6_any A6 c6 L w4 y6)
  rw [hbkH.out.2, hbkH.out.1] at k3
  rw [hlnH.out] at k3 ⊢
  clear hb hs7 k2 o6 y6 x3
  go_wp2_with fail
  refine k3.out.mono ?_
  rintro e w5 ⟨⟨p8, a, s, rfl, ha, hs, ho⟩, hb⟩
  obtain rfl : s = 0 := hs.out
  have hB := hB.trans (hb.mono hB.size)
  have K3 := K3.below hb
  clear hb ha hs k3
  obtain ⟨K8, hb⟩ := K6.new #[.int .u8 0, .int .u32 0, .int .u8 0, .int .u8 0, .int .u8 0, .int .u8 0, .int .u8 0, .int .u8 0, .int .u8 0, .int .u8 0, .int .u8 0, .int .u8 0, .int .u8 0, .int .u8 0, .int .u8 0, .int .u8 0, .int .u8 0, .int .u8 0, .int .u8 0, .int .u8 0, .int .u8 0, .int .u8 0, .int .u8 0, .int .u8 0, .int .u8 0, .int .u8 0, .int .u8 0, .int .u8 0, .int .u8 0, .int .u8 0, .int .u8 0, .int .u8 0, .int .u8 0, .int .u8 0, .int .u8 0, .slice none 0 0, .bool false, .int .u32 0, .int .i64 0, .bool false, .int .u8 0, .slice none 0 0] ho.rd
  have hZ : Has (w5.alloc (.cells #[.int .u8 0, .int .u32 0, .int .u8 0, .int .u8 0, .int .u8 0, .int .u8 0, .int .u8 0, .int .u8 0, .int .u8 0, .int .u8 0, .int .u8 0, .int .u8 0, .int .u8 0, .int .u8 0, .int .u8 0, .int .u8 0, .int .u8 0, .int .u8 0, .int .u8 0, .int .u8 0, .int .u8 0, .int .u8 0, .int .u8 0, .int .u8 0, .int .u8 0, .int .u8 0, .int .u8 0, .int .u8 0, .int .u8 0, .int .u8 0, .int .u8 0, .int .u8 0, .int .u8 0, .int .u8 0, .int .u8 0, .slice none 0 0, .bool false, .int .u32 0, .int .i64 0, .bool false, .int .u8 0, .slice none 0 0] 28)) w5.heap.size (.cells #[.int .u8 0, .int .u32 0, .int .u8 0, .int .u8 0, .int .u8 0, .int .u8 0, .int .u8 0, .int .u8 0, .int .u8 0, .int .u8 0, .int .u8 0, .int .u8 0, .int .u8 0, .int .u8 0, .int .u8 0, .int .u8 0, .int .u8 0, .int .u8 0, .int .u8 0, .int .u8 0, .int .u8 0, .int .u8 0, .int .u8 0, .int .u8 0, .int .u8 0, .int .u8 0, .int .u8 0, .int .u8 0, .int .u8 0, .int .u8 0, .int .u8 0, .int .u8 0, .int .u8 0, .int .u8 0, .int .u8 0, .slice none 0 0, .bool false, .int .u32 0, .int .i64 0, .bool false, .int .u8 0, .slice none 0 0] 28 (0, 0)) := Has.newAt rfl
  have hB := hB.trans (hb.mono hB.size)
  have K3 := K3.below hb
  obtain ⟨w8, hw8⟩ : ∃ W, (w5.alloc (.cells #[.int .u8 0, .int .u32 0, .int .u8 0, .int .u8 0, .int .u8 0, .int .u8 0, .int .u8 0, .int .u8 0, .int .u8 0, .int .u8 0, .int .u8 0, .int .u8 0, .int .u8 0, .int .u8 0, .int .u8 0, .int .u8 0, .int .u8 0, .int .u8 0, .int .u8 0, .int .u8 0, .int .u8 0, .int .u8 0, .int .u8 0, .int .u8 0, .int .u8 0, .int .u8 0, .int .u8 0, .int .u8 0, .int .u8 0, .int .u8 0, .int .u8 0, .int .u8 0, .int .u8 0, .int .u8 0, .int .u8 0, .slice none 0 0, .bool false, .int .u32 0, .int .i64 0, .bool false, .int .u8 0, .slice none 0 0] 28)).setRow w5.heap.size (D6.cells D p8) = W := ⟨_, rfl⟩
  rw [hw8] at K8 hB hb K3

  have x3 := K3.has
  have x8 := K8.has
  clear ho hb
  go_wp2_with (first | (refine wpList_store_row rfl 28 (.tmp 8) (.tmp 28) rfl w5.heap.size _ rfl rfl 28 _ hZ v6_info rfl (D6.cells_one _ _) ?_) | (refine wpList_load_rowG (by kernel_rfl) 28 (.tmp 3) rfl w2.heap.size rfl 28 (D6.cells D p3) (0, 0) _ x3 Try.underlying28 rfl v6_info ?_) | (refine wpList_load_rowG (by kernel_rfl) 28 (.tmp 8) rfl w5.heap.size rfl 28 (D6.cells D p8) (0, 0) _ x8 Try.underlying28 rfl v6_info ?_))
  refine (K3.same K8).mono ?_
  rintro e w9 ⟨⟨q, rfl, hq⟩, hb⟩
  obtain rfl : q = true := hq.out.trans (same6_self _)
  have hB := hB.trans (hb.mono hB.size)
  clear hq hb K3 K8 x3 x8
  go_wp2_with fail
  refine (alive6_any _).mono ?_
  rintro e w10 ⟨rfl, hb⟩
  go_wp2
  go_ret
  exact ⟨rfl, hB.trans (hb.mono hB.size)⟩
end Go.Proofs.Ytndmmkadceobjaa
