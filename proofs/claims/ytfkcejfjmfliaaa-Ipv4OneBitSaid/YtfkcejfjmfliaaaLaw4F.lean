/-
  The walk of Ipv4OneBit.
-/
import Derived.Test.YtfkcejfjmfliaaaK4
import Derived.Test.YtfkcejfjmfliaaaP4Q
import Derived.Test.YtfkcejfjmfliaaaMem3
namespace Go.Proofs.Ytfkcejfjmfliaaa
open Go.RowKit Go.Shelf

theorem pparse_n (A : Option Addr) (n c : Nat) (l : List Int) (w : World) (hy : By w.heap.size w A n c l) :
    Calls Try.prog 23 #[.slice A n c] w fun e w' => Told4p w.heap.size w' (got4 false l) (pat4 (pe4 false l)) (pe4 false l) e ∧ Below w.heap.size w w' := by
  have := hy.len
  subst this
  exact pparse_any A c l w hy
theorem q_flip (t : TypeId) (x J : Int) (hx : 0 ≤ x ∧ x ≤ 255) (hj : 0 ≤ J ∧ J < 8) (w : World) : (binOp .xor t (.int .u8 x) (.int .u8 (2 ^ J.toNat))).run Try.prog w = .ok (.int .u8 (flip x J)) w := by
  have hp : 1 ≤ 2 ^ J.toNat ∧ 2 ^ J.toNat ≤ 128 := ⟨Nat.one_le_two_pow, Nat.le_trans (Nat.pow_le_pow_right (by decide) (show J.toNat ≤ 7 by omega)) (by decide)⟩
  have hc : ((2 ^ J.toNat : Int)) = ((2 ^ J.toNat : Nat) : Int) := by simp
  have := q_xor (P := Try.prog) t x ((2 ^ J.toNat : Nat) : Int) hx (by omega) w
  rw [hc, this]
  rfl
theorem q_shl1u (t : TypeId) (J : Int) (h : 0 ≤ J ∧ J < 8) (w : World) : (binOp .shl t (.int .u8 1) (.int .u64 J)).run Try.prog w = .ok (.int .u8 (2 ^ J.toNat)) w := by
  have h1 := h.1
  have h2 := h.2
  have hc : J = 0 ∨ J = 1 ∨ J = 2 ∨ J = 3 ∨ J = 4 ∨ J = 5 ∨ J = 6 ∨ J = 7 := by omega
  rcases hc with rfl | rfl | rfl | rfl | rfl | rfl | rfl | rfl <;> rfl

set_option maxRecDepth 100000 in
set_option maxHeartbeats 2000000 in
theorem bit_walk (d : D4) (p : W4) (bit : Int) (w : World) (hR : Rd4 w.heap.size w d p) (hn : -9223372036854775808 ≤ bit) (hn2 : bit ≤ 9223372036854775807) :
    Calls Try.prog 6 #[.agg (d.cells p), .int .i64 bit] w fun e w' => e = .returned (.bool true) ∧ Below w.heap.size w w' := by
  obtain ⟨K0, hB⟩ := K4.arg hR
  have hcc := d.check_cases
  go_enter Try.func6, Try.ntmps6
  go_wp2_with fail
  refine (awake_any _).mono ?_
  rintro e w1 ⟨rfl, hb⟩
  have K0 := K0.below hb
  have hB := hB.trans (hb.mono hB.size)
  clear hb
  go_wp2_with (refine wpList_load_rowG (by kernel_rfl) 27 (.tmp 2) rfl w.heap.size rfl 27 (d.cells p) (0, 0) _ K0.has Try.underlying27 rfl v4_info ?_)
  refine (write_any d p w1 K0.rd).mono ?_
  rintro e w2 ⟨v, s, rfl, hs, ho, hb⟩
  have K0 := K0.below hb
  have hB1 := hB
  have hB := hB.trans (hb.mono hB.size)
  have ho := ho.more hB1.size
  clear hb hB1
  by_cases h0 : d.check = 0
  case neg =>
    have hw : d.write = [] := by unfold D4.write; rw [if_neg h0]
    rw [hw] at ho
    obtain ⟨A1, c1, rfl, y1⟩ := ho.by_
    have hs2 : s = 45 ∨ s = 2 := by
      rcases hcc with h | h | h
      · exact absurd h h0
      · exact .inl (hs.out.trans h)
      · exact .inr (hs.out.trans h)
    clear hcc h0 hw hs
    rcases hs2 with rfl | rfl
    · go_wp2
      go_ret
      exact ⟨rfl, hB⟩
    · go_wp2
      go_ret
      exact ⟨rfl, hB⟩
  obtain rfl : s = 0 := hs.out.trans h0
  have hw : d.write = d.bytes := by unfold D4.write; rw [if_pos h0]
  rw [hw] at ho
  have hbl := d.bytes_len
  have hok := D4.ok_of_check h0
  have hflip := fun i hi j hj h => d.flip_bad hR.ok h0 hR.opt.rng hR.body.rng i hi j hj h
  have c15 := K0.has.cell 15 (v := .slice p.oA d.ol.length p.oc) rfl
  obtain ⟨A1, c1, rfl, y1⟩ := ho.by_
  obtain ⟨L, hL⟩ : ∃ L, d.bytes = L := ⟨_, rfl⟩
  rw [hL] at y1 hflip hbl ho ⊢
  obtain ⟨n, hn0⟩ : ∃ n, L.length = n := ⟨_, rfl⟩
  rw [hn0] at y1 hbl ho ⊢
  obtain ⟨m, hm⟩ : ∃ m, d.ol.length = m := ⟨_, rfl⟩
  rw [hm] at c15 hbl hok hflip
  have hm40 : (m : Int) ≤ 40 := by omega
  have hm0 : (0 : Int) ≤ (m : Int) := by omega
  have hw1 : wrap64 (20 + (m : Int)) = 20 + (m : Int) := by unfold wrap64; omega
  have hw2 : wrap64 (8 * (20 + (m : Int))) = 8 * (20 + (m : Int)) := by unfold wrap64; omega
  clear hw hs hcc h0 hL
  by_cases hlo : bit < 4
  · go_wp2
    go_ret
    exact ⟨rfl, hB⟩
  have hlo' : (4 : Int) ≤ bit := by omega
  by_cases hhi : 8 * (20 + (m : Int)) ≤ bit
  · go_wp2
    go_ret
    exact ⟨rfl, hB⟩
  obtain ⟨i, hi⟩ : ∃ i : Nat, bit / 8 = (i : Int) := ⟨(bit / 8).toNat, by omega⟩
  obtain ⟨J, hJ⟩ : ∃ J, bit % 8 = J := ⟨_, rfl⟩
  have hJ8 : 0 ≤ J ∧ J < 8 := by omega
  have hib : i < 20 + m := by omega
  have hin : i < n := by omega
  have hbad := hflip i hib J hJ8 (fun h => by omega)
  obtain ⟨g1, e1, hg1, hl1, cx, fx, u1⟩ := ho.byte hn0.symm hin
  subst e1
  obtain ⟨x, hx⟩ : ∃ x, L.getD i 0 = x := ⟨_, rfl⟩
  have rx : 0 ≤ x ∧ x ≤ 255 := by rw [← hx]; exact getD_rng4 ho.rng i
  rw [hx] at cx hbad
  have hf := flip_law rx hJ8
  have u1 := u1 (flip x J) hf.1
  have hgot : got4 false (L.set i (flip x J)) = zero4 := by unfold got4; rw [if_neg hbad]
  have qi := fun (t : TypeId) (w : World) => (show (binOp .quo t (.int .i64 bit) (.int .i64 8)).run Try.prog w = .ok (.int .i64 (i : Int)) w by rw [← hi]; exact q_quo8 t bit (by omega) w)
  have qj := fun (t : TypeId) (w : World) => (show (binOp .rem t (.int .i64 bit) (.int .i64 8)).run Try.prog w = .ok (.int .i64 J) w by rw [← hJ]; exact q_rem8 t bit (by omega) w)
  have qc := fun (w : World) => conv_u64 (P := Try.prog) 3 42 .i64 J (by kernel_rfl) Try.underlying42 hJ8.1 (by omega) w
  have qs := fun (t : TypeId) (w : World) => q_shl1u t J hJ8 w
  have qx := fun (t : TypeId) (w : World) => q_flip t x J rx hJ8 w
  have hxf : bits .xor .u8 x (2 ^ J.toNat % 256) = flip x J := by
    have hp : 1 ≤ 2 ^ J.toNat ∧ 2 ^ J.toNat ≤ 128 := ⟨Nat.one_le_two_pow, Nat.le_trans (Nat.pow_le_pow_right (by decide) (show J.toNat ≤ 7 by omega)) (by decide)⟩
    have hc : ((2 ^ J.toNat : Int)) = ((2 ^ J.toNat : Nat) : Int) := by simp
    rw [hc, show ((2 ^ J.toNat : Nat) : Int) % 256 = ((2 ^ J.toNat : Nat) : Int) from by omega, u8_xor x _ rx.1 (by omega) (by omega) (by omega)]
    rfl
  have zi : (i : Int) < (n : Int) := by omega
  have hsz : w2.heap.size = (w2.setCell ⟨g1, i, none⟩ (.int .u8 (flip x J))).heap.size := by simp [World.setCell]
  have hB3 := below_setCell hB hg1 i (.int .u8 (flip x J))
  have y2 : By (w2.setCell ⟨g1, i, none⟩ (.int .u8 (flip x J))).heap.size (w2.setCell ⟨g1, i, none⟩ (.int .u8 (flip x J))) (some ⟨g1, 0, none⟩) n c1 (L.set i (flip x J)) := ⟨own_row (by have := u1.own; rwa [show (L.set i (flip x J)).length = n by rw [List.length_set]; exact hn0] at this), u1.rng, y1.big⟩
  have hp := pparse_n _ n c1 _ _ y2
  rw [hgot] at hp
  obtain ⟨sx, hsx⟩ : ∃ s, pe4 false (L.set i (flip x J)) = s := ⟨_, rfl⟩
  rw [hsx] at hp hbad
  have hp := Lib.hid hp
  have hbad : (sx != 0) = true := by simpa using hbad
  clear hflip hx hbl hok hlo hn hn2 ho y1 u1 hsz y2 hgot hsx hf hib hin hn0 hm hJ8 rx K0
  go_wp2_with fail
  refine hp.out.mono ?_
  rintro e w4 ⟨⟨p4, a, s, rfl, -, hs, ho4⟩, hb⟩
  obtain rfl : sx = s := hs.out.symm
  have hB := hB3.trans (hb.mono hB3.size)
  obtain ⟨K7, hb⟩ := K4.new ho4.rd
  have hZ : Has (w4.alloc (.cells #[.int .u8 0, .int .u16 0, .bool false, .bool false, .int .i64 0, .int .u8 0, .int .u8 0, .int .u8 0, .int .u8 0, .int .u8 0, .int .u8 0, .int .u8 0, .int .u8 0, .int .u8 0, .int .u8 0, .slice none 0 0, .slice none 0 0] 27)) w4.heap.size (.cells #[.int .u8 0, .int .u16 0, .bool false, .bool false, .int .i64 0, .int .u8 0, .int .u8 0, .int .u8 0, .int .u8 0, .int .u8 0, .int .u8 0, .int .u8 0, .int .u8 0, .int .u8 0, .int .u8 0, .slice none 0 0, .slice none 0 0] 27 (0, 0)) := Has.newAt rfl
  have hB := hB.trans (hb.mono hB.size)
  clear hb hs hp hB3 cx fx
  go_wp2_with (first
    | (refine wpList_store_row rfl 27 (.tmp 7) (.tmp 50) rfl w4.heap.size _ rfl rfl 27 _ hZ v4_info rfl (by simp [D4.cells, Value.oneCell']) ?_; clear hZ; generalize (w4.alloc (.cells #[.int .u8 0, .int .u16 0, .bool false, .bool false, .int .i64 0, .int .u8 0, .int .u8 0, .int .u8 0, .int .u8 0, .int .u8 0, .int .u8 0, .int .u8 0, .int .u8 0, .int .u8 0, .int .u8 0, .slice none 0 0, .slice none 0 0] 27)).setRow w4.heap.size (zero4.cells p4) = w5 at K7 hB ⊢; generalize w4.heap.size = g7 at K7 ⊢)
    | (refine wpList_load_rowG (by kernel_rfl) 27 (.tmp 7) rfl _ rfl 27 (zero4.cells p4) (0, 0) _ K7.has Try.underlying27 rfl v4_info ?_))
  refine (rsame4_any _ _ zero4 zero4 p4 pZ w5 K7.rd.opt (zero4_rd w5).opt K7.rd.body (zero4_rd w5).body (Nat.le_refl _) (Nat.le_refl _)).mono ?_
  rintro e w6 ⟨q, rfl, hq, hb⟩
  obtain rfl : q = true := hq.out.trans (same4_self _)
  have hB := hB.trans (hb.mono hB.size)
  clear hq
  go_wp2
  go_ret
  exact ⟨rfl, hB⟩
end Go.Proofs.Ytfkcejfjmfliaaa
