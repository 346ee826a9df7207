/-
  Lemmas and walks for the row of TofourTells (part 35 of 37).
-/
import Derived.Test.YtjnphelfloiadaaFtAH
import Derived.Test.YtjnphelfloiadaaFtAI
import Derived.Test.YtjnphelfloiadaaFtBH
set_option linter.unusedVariables false
set_option linter.unusedSimpArgs false
namespace Go.Proofs.Ytjnphelfloiadaa
open Go.RowKit Go.Shelf

set_option maxRecDepth 100000 in
set_option maxHeartbeats 2000000 in
theorem rpudp4_any (a b : List Int) (ha : a.length = 4) (hb : b.length = 4) (A1 A2 : Option Addr) (c1 c2 : Nat) (A : Option Addr) (c : Nat) (l : List Int) (w : World) (y1 : By w.heap.size w A1 4 c1 a) (y2 : By w.heap.size w A2 4 c2 b) (y : By w.heap.size w A l.length c l) :
  Calls Try.prog 44 #[.slice A1 4 c1, .slice A2 4 c2, .slice A l.length c] w fun e w' => ToldU (uGot false (pse4 a b l.length 17) l) (uNone false (pse4 a b l.length 17) l) (uErr false (pse4 a b l.length 17) l) w e w' := by
 obtain ⟨PS, hPS⟩ : ∃ PS, pse4 a b (l.length : Int) 17 = PS := ⟨_, rfl⟩
 have hpl : PS.length ≤ 100 := by rw [← hPS, pse4_len ha hb]; decide
 rw [hPS]
 have hH1 : Has (w.alloc (.cells #[.int .u16 0, .int .u16 0, .slice none 0 0] 80)) w.heap.size (.cells #[.int .u16 0, .int .u16 0, .slice none 0 0] 80 (0, 0)) := Has.newAt rfl
 have hB1 : Below w.heap.size w (w.alloc (.cells #[.int .u16 0, .int .u16 0, .slice none 0 0] 80)) := (Below.refl _ _).alloc (Nat.le_refl _) _
 have hbig := Nat.le_trans y.cap y.big
 by_cases h8 : l.length < 8
 ·have he : uErr false PS l = 60 := by unfold uErr; rw [if_pos h8]
  have hd := uGot_err (show uErr false PS l ≠ 0 by rw [he]; decide)
  rw [hd.1, hd.2, he]
  clear hd he
  go_enter Try.func44, Try.ntmps44
  go_wp2_with (refine wpList_store_has rfl 80 (.tmp 6) (.tmp 13) rfl w.heap.size _ rfl rfl 80 _ hH1 udp_info rfl (by simp [Value.oneCell']) ?_; intro w9 hH9 hb9)
  exact bodyPost_ret (res_cell3 Try.results44 rfl (hH9.load (P := Try.prog) 80 Try.underlying80 rfl udp_info) rfl rfl) rfl ⟨none, 0, rfl, noU_ok, OwnB.nil _ _, hB1.trans (hb9.mono (Nat.le_refl _))⟩
 have r4 := be2_rng y.rng 4
 by_cases h4 : be2 l 4 = l.length
 case neg =>
  have he : uErr false PS l = 61 := by unfold uErr; rw [if_neg h8, if_pos h4]
  have hd := uGot_err (show uErr false PS l ≠ 0 by rw [he]; decide)
  rw [hd.1, hd.2, he]
  clear hd he
  go_enter Try.func44, Try.ntmps44
  go_wp2_with fail
  refine (get2_any A _ c l _ ((y.below hB1 (Nat.le_refl _)).more hB1.size) 4 (by omega)).mono ?_
  rintro e w2 ⟨rfl, hb⟩
  have hH2 := hH1.below hb hH1.lt
  have hB2 := hB1.trans (hb.mono hB1.size)
  clear hb
  go_wp2_with (refine wpList_store_has rfl 80 (.tmp 6) (.tmp 20) rfl w.heap.size _ rfl rfl 80 _ hH2 udp_info rfl (by simp [Value.oneCell']) ?_; intro w9 hH9 hb9)
  exact bodyPost_ret (res_cell3 Try.results44 rfl (hH9.load (P := Try.prog) 80 Try.underlying80 rfl udp_info) rfl rfl) rfl ⟨none, 0, rfl, noU_ok, OwnB.nil _ _, hB2.trans (hb9.mono (Nat.le_refl _))⟩
 have r6 := be2_rng y.rng 6
 by_cases h6 : be2 l 6 = 0
 ·have he : uErr false PS l = 0 := by unfold uErr; rw [if_neg h8, if_neg (by simp [h4]), if_neg (by simp [h6])]
  have hd := uGot_ok he
  rw [hd.1, hd.2, he, decide_eq_true h6]
  clear hd he
  go_enter Try.func44, Try.ntmps44
  go_wp2_with fail
  refine (get2_any A _ c l _ ((y.below hB1 (Nat.le_refl _)).more hB1.size) 4 (by omega)).mono ?_
  rintro e w2 ⟨rfl, hb⟩
  have hH2 := hH1.below hb hH1.lt
  have hB2 := hB1.trans (hb.mono hB1.size)
  clear hb
  go_wp2_with fail
  refine (get2_any A _ c l _ ((y.below hB2 (Nat.le_refl _)).more hB2.size) 6 (by omega)).mono ?_
  rintro e w3 ⟨rfl, hb⟩
  have hH3 := hH2.below hb hH2.lt
  have hB3 := hB2.trans (hb.mono hB2.size)
  clear hb
  go_wp2_with fail
  obtain ⟨A8, c8, hsl, y8⟩ := y.from_ (P := Try.prog) 26 Try.underlying26 (by kernel_rfl) (k := 8) (by omega)
  have hS0 : SPU w w3.drew := ⟨⟨_, hH3.drew, rfl⟩, hB3.trans (below_drew _ _), hH3.drew.lt⟩
  refine wp_region_held_drew (S := SPU w) (by kernel_rfl) hS0 (fun hS => ?_)
  generalize w3.drew = W0 at hS ⊢
  have r0 := be2_rng y.rng 0
  have r2 := be2_rng y.rng 2
  -- REGION 8true
  refine te 0 (.slice A l.length c) hS rfl (by intro _ _; exact rfl) ?_
  simp only [lay]
  refine te 3 (.slice A l.length c) hS rfl (by intro _ _; exact rfl) ?_
  simp only [lay]
  refine te 7 (.slice A l.length c) hS rfl (by intro _ _; exact rfl) ?_
  simp only [lay]
  refine te 8 (.slice A8 (l.length - 8) c8) hS rfl (by intro w' _; exact ex_slice (by exact rfl) (by exact rfl) (hsl w')) ?_
  simp only [lay]
  refine te 11 (.bool true) hS rfl (by intro _ _; exact rfl) ?_
  simp only [lay]
  refine tk_two (by kernel_rfl) (op_callx (i := 1) (fun v w' => v = .int .u64 (be2 l 0) ∧ Below W0.heap.size W0 w') rfl (by kernel_rfl) (by exact ex_call (by exact rfl) Try.func77 (by kernel_rfl) (by kernel_rfl) (by simp only [List.map_toArray, List.map_cons, List.map_nil] <;> rfl)) ((get2_any A _ c l _ ((y.below hS.bel (Nat.le_refl _)).more hS.bel.size) 0 (by omega)).mono fun e w' g => ⟨_, g.1, ⟨rfl, g.2⟩, hS.keep g.2⟩) ?_) (op_build0 (i := 6) rfl (by kernel_rfl) rfl Try.underlying26 (by kernel_rfl) (fun _ hb => hS.keep hb) ?_)
  ·rintro v1 W1 ⟨rfl, hb⟩ hS1
   try replace z0 := z0.below hb
   clear hb
   simp only [lay]
   refine te 2 (.int .u16 (be2 l 0)) hS1 rfl (by intro _ h; exact ex_conv (by exact rfl) (by exact rfl) (conv_u16 _ _ .u64 (be2 l 0) (by rw [Try.underlying118]; rfl) Try.underlying33 r0.1 r0.2 _)) ?_
   simp only [lay]
   refine tk_two (by kernel_rfl) (op_callx (i := 4) (fun v w' => v = .int .u64 (be2 l 2) ∧ Below W1.heap.size W1 w') rfl (by kernel_rfl) (by exact ex_call (by exact rfl) Try.func77 (by kernel_rfl) (by kernel_rfl) (by simp only [List.map_toArray, List.map_cons, List.map_nil] <;> rfl)) ((get2_any A _ c l _ ((y.below hS1.bel (Nat.le_refl _)).more hS1.bel.size) 2 (by omega)).mono fun e w' g => ⟨_, g.1, ⟨rfl, g.2⟩, hS1.keep g.2⟩) ?_) (op_build0 (i := 6) rfl (by kernel_rfl) rfl Try.underlying26 (by kernel_rfl) (fun _ hb => hS1.keep hb) ?_)
   ·rintro v2 W2 ⟨rfl, hb⟩ hS2
    try replace z0 := z0.below hb
    clear hb
    simp only [lay]
    refine te 5 (.int .u16 (be2 l 2)) hS2 rfl (by intro _ h; exact ex_conv (by exact rfl) (by exact rfl) (conv_u16 _ _ .u64 (be2 l 2) (by rw [Try.underlying118]; rfl) Try.underlying33 r2.1 r2.2 _)) ?_
    simp only [lay]
    refine tk_one (by kernel_rfl) (op_build0 (i := 6) rfl (by kernel_rfl) rfl Try.underlying26 (by kernel_rfl) (fun _ hb => hS2.keep hb) ?_)
    intro g5 W5 z0 hb5 hS5
    replace z0 := z0.more (base' := w.heap.size + 1) hS2.lt
    clear hb5
    simp only [lay]
    refine tk_one (by kernel_rfl) (op_app (i := 9) (.tmp 52) (.tmp 54) _ rfl (by kernel_rfl) rfl Try.underlying26 (by kernel_rfl) (w.heap.size + 1) _ _ rfl (z0) _ _ _ _ _ rfl (y8.below hS5.bel (Nat.le_refl _)) (by simp; omega) (hS5.lt) (fun _ hb => hS5.keep1 hb) ?_)
    intro v3 W3 ho3 hb3 hS3
    have ho3 : OwnB W3 (w.heap.size + 1) v3 (l.drop 8) := ho3
    obtain ⟨A3, k3, rfl, _⟩ := own_shape ho3.own
    simp only [lay]
    refine te 10 (.agg #[.int .u16 (be2 l 0), .int .u16 (be2 l 2), .slice A3 (l.drop 8).length k3]) hS3 rfl (by intro _ _; go_simp) ?_
    simp only [lay]
    obtain ⟨old, hold, hold2⟩ := hS3.has
    refine tk_store (i := 12) (by kernel_rfl) rfl (by kernel_rfl) rfl rfl rfl hold udp_info hold2 (by simp [Value.oneCell']) (hS3.store hold.setRow_same below_setRow' rfl) ?_
    have hS4 := hS3.store hold.setRow_same (cs := #[.int .u16 (be2 l 0), .int .u16 (be2 l 2), .slice A3 (l.drop 8).length k3]) below_setRow' rfl
    simp only [lay]
    refine te 13 (.bool true) hS4 rfl (by intro _ _; exact rfl) ?_
    simp only [lay]
    refine te 14 (.int .i64 0) hS4 rfl (by intro _ _; exact rfl) ?_
    simp only [lay]
    refine wpAnyH_done (by kernel_rfl) ?_ _
    have hH4 := hold.setRow_same (cs' := #[.int .u16 (be2 l 0), .int .u16 (be2 l 2), .slice A3 (l.drop 8).length k3])
    have ho4 := (ho3.setRow (g := w.heap.size) (cs := #[.int .u16 (be2 l 0), .int .u16 (be2 l 2), .slice A3 (l.drop 8).length k3]) (Nat.lt_succ_self _)).more (Nat.le_succ _)
    have hb4 := hS4.bel
    generalize W3.setRow w.heap.size #[.int .u16 (be2 l 0), .int .u16 (be2 l 2), .slice A3 (l.drop 8).length k3] = W4 at hH4 ho4 hb4 ⊢
    go_wp2
    exact bodyPost_ret (res_cell3 Try.results44 rfl (hH4.load (P := Try.prog) 80 Try.underlying80 rfl udp_info) rfl rfl) rfl ⟨A3, k3, rfl, uOf_ok y.rng, ho4, hb4⟩
   ·intro g5 W5 z0 hb5 hS5
    replace z0 := z0.more (base' := w.heap.size + 1) hS1.lt
    clear hb5
    simp only [lay]
    refine tk_one (by kernel_rfl) (op_callx (i := 4) (fun v w' => v = .int .u64 (be2 l 2) ∧ Below W5.heap.size W5 w') rfl (by kernel_rfl) (by exact ex_call (by exact rfl) Try.func77 (by kernel_rfl) (by kernel_rfl) (by simp only [List.map_toArray, List.map_cons, List.map_nil] <;> rfl)) ((get2_any A _ c l _ ((y.below hS5.bel (Nat.le_refl _)).more hS5.bel.size) 2 (by omega)).mono fun e w' g => ⟨_, g.1, ⟨rfl, g.2⟩, hS5.keep g.2⟩) ?_)
    rintro v2 W2 ⟨rfl, hb⟩ hS2
    try replace z0 := z0.below hb
    clear hb
    simp only [lay]
    refine te 5 (.int .u16 (be2 l 2)) hS2 rfl (by intro _ h; exact ex_conv (by exact rfl) (by exact rfl) (conv_u16 _ _ .u64 (be2 l 2) (by rw [Try.underlying118]; rfl) Try.underlying33 r2.1 r2.2 _)) ?_
    simp only [lay]
    refine tk_one (by kernel_rfl) (op_app (i := 9) (.tmp 52) (.tmp 54) _ rfl (by kernel_rfl) rfl Try.underlying26 (by kernel_rfl) (w.heap.size + 1) _ _ rfl (z0) _ _ _ _ _ rfl (y8.below hS2.bel (Nat.le_refl _)) (by simp; omega) (hS2.lt) (fun _ hb => hS2.keep1 hb) ?_)
    intro v3 W3 ho3 hb3 hS3
    have ho3 : OwnB W3 (w.heap.size + 1) v3 (l.drop 8) := ho3
    obtain ⟨A3, k3, rfl, _⟩ := own_shape ho3.own
    simp only [lay]
    refine te 10 (.agg #[.int .u16 (be2 l 0), .int .u16 (be2 l 2), .slice A3 (l.drop 8).length k3]) hS3 rfl (by intro _ _; go_simp) ?_
    simp only [lay]
    obtain ⟨old, hold, hold2⟩ := hS3.has
    refine tk_store (i := 12) (by kernel_rfl) rfl (by kernel_rfl) rfl rfl rfl hold udp_info hold2 (by simp [Value.oneCell']) (hS3.store hold.setRow_same below_setRow' rfl) ?_
    have hS4 := hS3.store hold.setRow_same (cs := #[.int .u16 (be2 l 0), .int .u16 (be2 l 2), .slice A3 (l.drop 8).length k3]) below_setRow' rfl
    simp only [lay]
    refine te 13 (.bool true) hS4 rfl (by intro _ _; exact rfl) ?_
    simp only [lay]
    refine te 14 (.int .i64 0) hS4 rfl (by intro _ _; exact rfl) ?_
    simp only [lay]
    refine wpAnyH_done (by kernel_rfl) ?_ _
    have hH4 := hold.setRow_same (cs' := #[.int .u16 (be2 l 0), .int .u16 (be2 l 2), .slice A3 (l.drop 8).length k3])
    have ho4 := (ho3.setRow (g := w.heap.size) (cs := #[.int .u16 (be2 l 0), .int .u16 (be2 l 2), .slice A3 (l.drop 8).length k3]) (Nat.lt_succ_self _)).more (Nat.le_succ _)
    have hb4 := hS4.bel
    generalize W3.setRow w.heap.size #[.int .u16 (be2 l 0), .int .u16 (be2 l 2), .slice A3 (l.drop 8).length k3] = W4 at hH4 ho4 hb4 ⊢
    go_wp2
    exact bodyPost_ret (res_cell3 Try.results44 rfl (hH4.load (P := Try.prog) 80 Try.underlying80 rfl udp_info) rfl rfl) rfl ⟨A3, k3, rfl, uOf_ok y.rng, ho4, hb4⟩
  ·intro g5 W5 z0 hb5 hS5
   replace z0 := z0.more (base' := w.heap.size + 1) hS.lt
   clear hb5
   simp only [lay]
   refine tk_one (by kernel_rfl) (op_callx (i := 1) (fun v w' => v = .int .u64 (be2 l 0) ∧ Below W5.heap.size W5 w') rfl (by kernel_rfl) (by exact ex_call (by exact rfl) Try.func77 (by kernel_rfl) (by kernel_rfl) (by simp only [List.map_toArray, List.map_cons, List.map_nil] <;> rfl)) ((get2_any A _ c l _ ((y.below hS5.bel (Nat.le_refl _)).more hS5.bel.size) 0 (by omega)).mono fun e w' g => ⟨_, g.1, ⟨rfl, g.2⟩, hS5.keep g.2⟩) ?_)
   rintro v1 W1 ⟨rfl, hb⟩ hS1
   try replace z0 := z0.below hb
   clear hb
   simp only [lay]
   refine te 2 (.int .u16 (be2 l 0)) hS1 rfl (by intro _ h; exact ex_conv (by exact rfl) (by exact rfl) (conv_u16 _ _ .u64 (be2 l 0) (by rw [Try.underlying118]; rfl) Try.underlying33 r0.1 r0.2 _)) ?_
   simp only [lay]
   refine tk_one (by kernel_rfl) (op_callx (i := 4) (fun v w' => v = .int .u64 (be2 l 2) ∧ Below W1.heap.size W1 w') rfl (by kernel_rfl) (by exact ex_call (by exact rfl) Try.func77 (by kernel_rfl) (by kernel_rfl) (by simp only [List.map_toArray, List.map_cons, List.map_nil] <;> rfl)) ((get2_any A _ c l _ ((y.below hS1.bel (Nat.le_refl _)).more hS1.bel.size) 2 (by omega)).mono fun e w' g => ⟨_, g.1, ⟨rfl, g.2⟩, hS1.keep g.2⟩) ?_)
   rintro v2 W2 ⟨rfl, hb⟩ hS2
   try replace z0 := z0.below hb
   clear hb
   simp only [lay]
   refine te 5 (.int .u16 (be2 l 2)) hS2 rfl (by intro _ h; exact ex_conv (by exact rfl) (by exact rfl) (conv_u16 _ _ .u64 (be2 l 2) (by rw [Try.underlying118]; rfl) Try.underlying33 r2.1 r2.2 _)) ?_
   simp only [lay]
   refine tk_one (by kernel_rfl) (op_app (i := 9) (.tmp 52) (.tmp 54) _ rfl (by kernel_rfl) rfl Try.underlying26 (by kernel_rfl) (w.heap.size + 1) _ _ rfl (z0) _ _ _ _ _ rfl (y8.below hS2.bel (Nat.le_refl _)) (by simp; omega) (hS2.lt) (fun _ hb => hS2.keep1 hb) ?_)
   intro v3 W3 ho3 hb3 hS3
   have ho3 : OwnB W3 (w.heap.size + 1) v3 (l.drop 8) := ho3
   obtain ⟨A3, k3, rfl, _⟩ := own_shape ho3.own
   simp only [lay]
   refine te 10 (.agg #[.int .u16 (be2 l 0), .int .u16 (be2 l 2), .slice A3 (l.drop 8).length k3]) hS3 rfl (by intro _ _; go_simp) ?_
   simp only [lay]
   obtain ⟨old, hold, hold2⟩ := hS3.has
   refine tk_store (i := 12) (by kernel_rfl) rfl (by kernel_rfl) rfl rfl rfl hold udp_info hold2 (by simp [Value.oneCell']) (hS3.store hold.setRow_same below_setRow' rfl) ?_
   have hS4 := hS3.store hold.setRow_same (cs := #[.int .u16 (be2 l 0), .int .u16 (be2 l 2), .slice A3 (l.drop 8).length k3]) below_setRow' rfl
   simp only [lay]
   refine te 13 (.bool true) hS4 rfl (by intro _ _; exact rfl) ?_
   simp only [lay]
   refine te 14 (.int .i64 0) hS4 rfl (by intro _ _; exact rfl) ?_
   simp only [lay]
   refine wpAnyH_done (by kernel_rfl) ?_ _
   have hH4 := hold.setRow_same (cs' := #[.int .u16 (be2 l 0), .int .u16 (be2 l 2), .slice A3 (l.drop 8).length k3])
   have ho4 := (ho3.setRow (g := w.heap.size) (cs := #[.int .u16 (be2 l 0), .int .u16 (be2 l 2), .slice A3 (l.drop 8).length k3]) (Nat.lt_succ_self _)).more (Nat.le_succ _)
   have hb4 := hS4.bel
   generalize W3.setRow w.heap.size #[.int .u16 (be2 l 0), .int .u16 (be2 l 2), .slice A3 (l.drop 8).length k3] = W4 at hH4 ho4 hb4 ⊢
   go_wp2
   exact bodyPost_ret (res_cell3 Try.results44 rfl (hH4.load (P := Try.prog) 80 Try.underlying80 rfl udp_info) rfl rfl) rfl ⟨A3, k3, rfl, uOf_ok y.rng, ho4, hb4⟩
  -- END 8true
 have hz : (be2 l 6 == 0) = false := by simp [h6]
 by_cases hg : sumw (PS ++ l) = 65535
 case neg =>
  have he : uErr false PS l = 62 := by unfold uErr; rw [if_neg h8, if_neg (by simp [h4]), if_pos (Or.inr ⟨h6, hg⟩)]
  have hd := uGot_err (show uErr false PS l ≠ 0 by rw [he]; decide)
  rw [hd.1, hd.2, he]
  have hg := Lib.hid hg
  clear hd he
  go_enter Try.func44, Try.ntmps44
  go_wp2_with fail
  refine (get2_any A _ c l _ ((y.below hB1 (Nat.le_refl _)).more hB1.size) 4 (by omega)).mono ?_
  rintro e w2 ⟨rfl, hb⟩
  have hH2 := hH1.below hb hH1.lt
  have hB2 := hB1.trans (hb.mono hB1.size)
  clear hb
  go_wp2_with fail
  refine (get2_any A _ c l _ ((y.below hB2 (Nat.le_refl _)).more hB2.size) 6 (by omega)).mono ?_
  rintro e w5 ⟨rfl, hb⟩
  have hH5 := hH2.below hb hH2.lt
  have hB5 := hB2.trans (hb.mono hB2.size)
  clear hb
  go_wp2_with fail
  refine (rpse4_any a b ha hb 17 (l.length : Int) (by decide) (by decide) (by omega) (by omega) A1 A2 c1 c2 _ ((y1.below hB5 (Nat.le_refl _)).more hB5.size) ((y2.below hB5 (Nat.le_refl _)).more hB5.size)).mono ?_
  rintro e w3 ⟨v3, rfl, o3, hb⟩
  rw [hPS] at o3
  obtain ⟨A5, k5, rfl, y5⟩ := o3.by_
  have hH3 := hH5.below hb hH5.lt
  have hB3 := hB5.trans (hb.mono hB5.size)
  have yl := (y.below hB3 (Nat.le_refl _)).more hB3.size
  clear hb o3
  have hpl := hpl
  go_wp2_with fail
  refine (rfold_any _ _ [(A5, k5, PS), (A, c, l)] _ (Parts.blk (t := 26) (fz := (0, 0)) (Has.newAt rfl) (Nat.le_refl _) rfl (all2 ((y5.alloc (Nat.le_refl _) _).more (by simp)) ((yl.alloc (Nat.le_refl _) _).more (by simp))) (by simp)) (by simp [flat]; omega)).mono ?_
  rintro e w4 ⟨rfl, hb⟩
  rw [show flat [(A5, k5, PS), (A, c, l)] = PS ++ l from by simp [flat]]
  have hz2 : (sumw (PS ++ l) != 65535) = true := by simp [hg.out]
  generalize sumw (PS ++ l) = qq at hz2 ⊢
  have hb : Below w3.heap.size w3 w4 := ((Below.refl _ _).alloc (Nat.le_refl _) _).trans (hb.mono (by simp))
  have hH4 := hH3.below hb hH3.lt
  have hB4 := hB3.trans (hb.mono hB3.size)
  clear hb
  go_wp2_with (refine wpList_store_has rfl 80 (.tmp 6) (.tmp 45) rfl w.heap.size _ rfl rfl 80 _ hH4 udp_info rfl (by simp [Value.oneCell']) ?_; intro w9 hH9 hb9)
  exact bodyPost_ret (res_cell3 Try.results44 rfl (hH9.load (P := Try.prog) 80 Try.underlying80 rfl udp_info) rfl rfl) rfl ⟨none, 0, rfl, noU_ok, OwnB.nil _ _, hB4.trans (hb9.mono (Nat.le_refl _))⟩
 case pos =>
  have he : uErr false PS l = 0 := by unfold uErr; rw [if_neg h8, if_neg (by simp [h4]), if_neg (by simp [h6, hg])]
  have hd := uGot_ok he
  rw [hd.1, hd.2, he, decide_eq_false h6]
  have hg := Lib.hid hg
  clear hd he
  go_enter Try.func44, Try.ntmps44
  go_wp2_with fail
  refine (get2_any A _ c l _ ((y.below hB1 (Nat.le_refl _)).more hB1.size) 4 (by omega)).mono ?_
  rintro e w2 ⟨rfl, hb⟩
  have hH2 := hH1.below hb hH1.lt
  have hB2 := hB1.trans (hb.mono hB1.size)
  clear hb
  go_wp2_with fail
  refine (get2_any A _ c l _ ((y.below hB2 (Nat.le_refl _)).more hB2.size) 6 (by omega)).mono ?_
  rintro e w5 ⟨rfl, hb⟩
  have hH5 := hH2.below hb hH2.lt
  have hB5 := hB2.trans (hb.mono hB2.size)
  clear hb
  go_wp2_with fail
  refine (rpse4_any a b ha hb 17 (l.length : Int) (by decide) (by decide) (by omega) (by omega) A1 A2 c1 c2 _ ((y1.below hB5 (Nat.le_refl _)).more hB5.size) ((y2.below hB5 (Nat.le_refl _)).more hB5.size)).mono ?_
  rintro e w3 ⟨v3, rfl, o3, hb⟩
  rw [hPS] at o3
  obtain ⟨A5, k5, rfl, y5⟩ := o3.by_
  have hH3 := hH5.below hb hH5.lt
  have hB3 := hB5.trans (hb.mono hB5.size)
  have yl := (y.below hB3 (Nat.le_refl _)).more hB3.size
  clear hb o3
  have hpl := hpl
  go_wp2_with fail
  refine (rfold_any _ _ [(A5, k5, PS), (A, c, l)] _ (Parts.blk (t := 26) (fz := (0, 0)) (Has.newAt rfl) (Nat.le_refl _) rfl (all2 ((y5.alloc (Nat.le_refl _) _).more (by simp)) ((yl.alloc (Nat.le_refl _) _).more (by simp))) (by simp)) (by simp [flat]; omega)).mono ?_
  rintro e w4 ⟨rfl, hb⟩
  rw [show flat [(A5, k5, PS), (A, c, l)] = PS ++ l from by simp [flat]]
  rw [hg.out]
  have hb : Below w3.heap.size w3 w4 := ((Below.refl _ _).alloc (Nat.le_refl _) _).trans (hb.mono (by simp))
  have hH4 := hH3.below hb hH3.lt
  have hB4 := hB3.trans (hb.mono hB3.size)
  clear hb
  go_wp2_with fail
  obtain ⟨A8, c8, hsl, y8⟩ := y.from_ (P := Try.prog) 26 Try.underlying26 (by kernel_rfl) (k := 8) (by omega)
  have hS0 : SPU w w4.drew := ⟨⟨_, hH4.drew, rfl⟩, hB4.trans (below_drew _ _), hH4.drew.lt⟩
  refine wp_region_held_drew (S := SPU w) (by kernel_rfl) hS0 (fun hS => ?_)
  generalize w4.drew = W0 at hS ⊢
  have r0 := be2_rng y.rng 0
  have r2 := be2_rng y.rng 2
  -- REGION 8false
  refine te 0 (.slice A l.length c) hS rfl (by intro _ _; exact rfl) ?_
  simp only [lay]
  refine te 3 (.slice A l.length c) hS rfl (by intro _ _; exact rfl) ?_
  simp only [lay]
  refine te 7 (.slice A l.length c) hS rfl (by intro _ _; exact rfl) ?_
  simp only [lay]
  refine te 8 (.slice A8 (l.length - 8) c8) hS rfl (by intro w' _; exact ex_slice (by exact rfl) (by exact rfl) (hsl w')) ?_
  simp only [lay]
  refine te 11 (.bool false) hS rfl (by intro _ _; exact rfl) ?_
  simp only [lay]
  refine tk_two (by kernel_rfl) (op_callx (i := 1) (fun v w' => v = .int .u64 (be2 l 0) ∧ Below W0.heap.size W0 w') rfl (by kernel_rfl) (by exact ex_call (by exact rfl) Try.func77 (by kernel_rfl) (by kernel_rfl) (by simp only [List.map_toArray, List.map_cons, List.map_nil] <;> rfl)) ((get2_any A _ c l _ ((y.below hS.bel (Nat.le_refl _)).more hS.bel.size) 0 (by omega)).mono fun e w' g => ⟨_, g.1, ⟨rfl, g.2⟩, hS.keep g.2⟩) ?_) (op_build0 (i := 6) rfl (by kernel_rfl) rfl Try.underlying26 (by kernel_rfl) (fun _ hb => hS.keep hb) ?_)
  ·rintro v1 W1 ⟨rfl, hb⟩ hS1
   try replace z0 := z0.below hb
   clear hb
   simp only [lay]
   refine te 2 (.int .u16 (be2 l 0)) hS1 rfl (by intro _ h; exact ex_conv (by exact rfl) (by exact rfl) (conv_u16 _ _ .u64 (be2 l 0) (by rw [Try.underlying118]; rfl) Try.underlying33 r0.1 r0.2 _)) ?_
   simp only [lay]
   refine tk_two (by kernel_rfl) (op_callx (i := 4) (fun v w' => v = .int .u64 (be2 l 2) ∧ Below W1.heap.size W1 w') rfl (by kernel_rfl) (by exact ex_call (by exact rfl) Try.func77 (by kernel_rfl) (by kernel_rfl) (by simp only [List.map_toArray, List.map_cons, List.map_nil] <;> rfl)) ((get2_any A _ c l _ ((y.below hS1.bel (Nat.le_refl _)).more hS1.bel.size) 2 (by omega)).mono fun e w' g => ⟨_, g.1, ⟨rfl, g.2⟩, hS1.keep g.2⟩) ?_) (op_build0 (i := 6) rfl (by kernel_rfl) rfl Try.underlying26 (by kernel_rfl) (fun _ hb => hS1.keep hb) ?_)
   ·rintro v2 W2 ⟨rfl, hb⟩ hS2
    try replace z0 := z0.below hb
    clear hb
    simp only [lay]
    refine te 5 (.int .u16 (be2 l 2)) hS2 rfl (by intro _ h; exact ex_conv (by exact rfl) (by exact rfl) (conv_u16 _ _ .u64 (be2 l 2) (by rw [Try.underlying118]; rfl) Try.underlying33 r2.1 r2.2 _)) ?_
    simp only [lay]
    refine tk_one (by kernel_rfl) (op_build0 (i := 6) rfl (by kernel_rfl) rfl Try.underlying26 (by kernel_rfl) (fun _ hb => hS2.keep hb) ?_)
    intro g5 W5 z0 hb5 hS5
    replace z0 := z0.more (base' := w.heap.size + 1) hS2.lt
    clear hb5
    simp only [lay]
    refine tk_one (by kernel_rfl) (op_app (i := 9) (.tmp 52) (.tmp 54) _ rfl (by kernel_rfl) rfl Try.underlying26 (by kernel_rfl) (w.heap.size + 1) _ _ rfl (z0) _ _ _ _ _ rfl (y8.below hS5.bel (Nat.le_refl _)) (by simp; omega) (hS5.lt) (fun _ hb => hS5.keep1 hb) ?_)
    intro v3 W3 ho3 hb3 hS3
    have ho3 : OwnB W3 (w.heap.size + 1) v3 (l.drop 8) := ho3
    obtain ⟨A3, k3, rfl, _⟩ := own_shape ho3.own
    simp only [lay]
    refine te 10 (.agg #[.int .u16 (be2 l 0), .int .u16 (be2 l 2), .slice A3 (l.drop 8).length k3]) hS3 rfl (by intro _ _; go_simp) ?_
    simp only [lay]
    obtain ⟨old, hold, hold2⟩ := hS3.has
    refine tk_store (i := 12) (by kernel_rfl) rfl (by kernel_rfl) rfl rfl rfl hold udp_info hold2 (by simp [Value.oneCell']) (hS3.store hold.setRow_same below_setRow' rfl) ?_
    have hS4 := hS3.store hold.setRow_same (cs := #[.int .u16 (be2 l 0), .int .u16 (be2 l 2), .slice A3 (l.drop 8).length k3]) below_setRow' rfl
    simp only [lay]
    refine te 13 (.bool false) hS4 rfl (by intro _ _; exact rfl) ?_
    simp only [lay]
    refine te 14 (.int .i64 0) hS4 rfl (by intro _ _; exact rfl) ?_
    simp only [lay]
    refine wpAnyH_done (by kernel_rfl) ?_ _
    have hH4 := hold.setRow_same (cs' := #[.int .u16 (be2 l 0), .int .u16 (be2 l 2), .slice A3 (l.drop 8).length k3])
    have ho4 := (ho3.setRow (g := w.heap.size) (cs := #[.int .u16 (be2 l 0), .int .u16 (be2 l 2), .slice A3 (l.drop 8).length k3]) (Nat.lt_succ_self _)).more (Nat.le_succ _)
    have hb4 := hS4.bel
    generalize W3.setRow w.heap.size #[.int .u16 (be2 l 0), .int .u16 (be2 l 2), .slice A3 (l.drop 8).length k3] = W4 at hH4 ho4 hb4 ⊢
    go_wp2
    exact bodyPost_ret (res_cell3 Try.results44 rfl (hH4.load (P := Try.prog) 80 Try.underlying80 rfl udp_info) rfl rfl) rfl ⟨A3, k3, rfl, uOf_ok y.rng, ho4, hb4⟩
   ·intro g5 W5 z0 hb5 hS5
    replace z0 := z0.more (base' := w.heap.size + 1) hS1.lt
    clear hb5
    simp only [lay]
    refine tk_one (by kernel_rfl) (op_callx (i := 4) (fun v w' => v = .int .u64 (be2 l 2) ∧ Below W5.heap.size W5 w') rfl (by kernel_rfl) (by exact ex_call (by exact rfl) Try.func77 (by kernel_rfl) (by kernel_rfl) (by simp only [List.map_toArray, List.map_cons, List.map_nil] <;> rfl)) ((get2_any A _ c l _ ((y.below hS5.bel (Nat.le_refl _)).more hS5.bel.size) 2 (by omega)).mono fun e w' g => ⟨_, g.1, ⟨rfl, g.2⟩, hS5.keep g.2⟩) ?_)
    rintro v2 W2 ⟨rfl, hb⟩ hS2
    try replace z0 := z0.below hb
    clear hb
    simp only [lay]
    refine te 5 (.int .u16 (be2 l 2)) hS2 rfl (by intro _ h; exact ex_conv (by exact rfl) (by exact rfl) (conv_u16 _ _ .u64 (be2 l 2) (by rw [Try.underlying118]; rfl) Try.underlying33 r2.1 r2.2 _)) ?_
    simp only [lay]
    refine tk_one (by kernel_rfl) (op_app (i := 9) (.tmp 52) (.tmp 54) _ rfl (by kernel_rfl) rfl Try.underlying26 (by kernel_rfl) (w.heap.size + 1) _ _ rfl (z0) _ _ _ _ _ rfl (y8.below hS2.bel (Nat.le_refl _)) (by simp; omega) (hS2.lt) (fun _ hb => hS2.keep1 hb) ?_)
    intro v3 W3 ho3 hb3 hS3
    have ho3 : OwnB W3 (w.heap.size + 1) v3 (l.drop 8) := ho3
    obtain ⟨A3, k3, rfl, _⟩ := own_shape ho3.own
    simp only [lay]
    refine te 10 (.agg #[.int .u16 (be2 l 0), .int .u16 (be2 l 2), .slice A3 (l.drop 8).length k3]) hS3 rfl (by intro _ _; go_simp) ?_
    simp only [lay]
    obtain ⟨old, hold, hold2⟩ := hS3.has
    refine tk_store (i := 12) (by kernel_rfl) rfl (by kernel_rfl) rfl rfl rfl hold udp_info hold2 (by simp [Value.oneCell']) (hS3.store hold.setRow_same below_setRow' rfl) ?_
    have hS4 := hS3.store hold.setRow_same (cs := #[.int .u16 (be2 l 0), .int .u16 (be2 l 2), .slice A3 (l.drop 8).length k3]) below_setRow' rfl
    simp only [lay]
    refine te 13 (.bool false) hS4 rfl (by intro _ _; exact rfl) ?_
    simp only [lay]
    refine te 14 (.int .i64 0) hS4 rfl (by intro _ _; exact rfl) ?_
    simp only [lay]
    refine wpAnyH_done (by kernel_rfl) ?_ _
    have hH4 := hold.setRow_same (cs' := #[.int .u16 (be2 l 0), .int .u16 (be2 l 2), .slice A3 (l.drop 8).length k3])
    have ho4 := (ho3.setRow (g := w.heap.size) (cs := #[.int .u16 (be2 l 0), .int .u16 (be2 l 2), .slice A3 (l.drop 8).length k3]) (Nat.lt_succ_self _)).more (Nat.le_succ _)
    have hb4 := hS4.bel
    generalize W3.setRow w.heap.size #[.int .u16 (be2 l 0), .int .u16 (be2 l 2), .slice A3 (l.drop 8).length k3] = W4 at hH4 ho4 hb4 ⊢
    go_wp2
    exact bodyPost_ret (res_cell3 Try.results44 rfl (hH4.load (P := Try.prog) 80 Try.underlying80 rfl udp_info) rfl rfl) rfl ⟨A3, k3, rfl, uOf_ok y.rng, ho4, hb4⟩
  ·intro g5 W5 z0 hb5 hS5
   replace z0 := z0.more (base' := w.heap.size + 1) hS.lt
   clear hb5
   simp only [lay]
   refine tk_one (by kernel_rfl) (op_callx (i := 1) (fun v w' => v = .int .u64 (be2 l 0) ∧ Below W5.heap.size W5 w') rfl (by kernel_rfl) (by exact ex_call (by exact rfl) Try.func77 (by kernel_rfl) (by kernel_rfl) (by simp only [List.map_toArray, List.map_cons, List.map_nil] <;> rfl)) ((get2_any A _ c l _ ((y.below hS5.bel (Nat.le_refl _)).more hS5.bel.size) 0 (by omega)).mono fun e w' g => ⟨_, g.1, ⟨rfl, g.2⟩, hS5.keep g.2⟩) ?_)
   rintro v1 W1 ⟨rfl, hb⟩ hS1
   try replace z0 := z0.below hb
   clear hb
   simp only [lay]
   refine te 2 (.int .u16 (be2 l 0)) hS1 rfl (by intro _ h; exact ex_conv (by exact rfl) (by exact rfl) (conv_u16 _ _ .u64 (be2 l 0) (by rw [Try.underlying118]; rfl) Try.underlying33 r0.1 r0.2 _)) ?_
   simp only [lay]
   refine tk_one (by kernel_rfl) (op_callx (i := 4) (fun v w' => v = .int .u64 (be2 l 2) ∧ Below W1.heap.size W1 w') rfl (by kernel_rfl) (by exact ex_call (by exact rfl) Try.func77 (by kernel_rfl) (by kernel_rfl) (by simp only [List.map_toArray, List.map_cons, List.map_nil] <;> rfl)) ((get2_any A _ c l _ ((y.below hS1.bel (Nat.le_refl _)).more hS1.bel.size) 2 (by omega)).mono fun e w' g => ⟨_, g.1, ⟨rfl, g.2⟩, hS1.keep g.2⟩) ?_)
   rintro v2 W2 ⟨rfl, hb⟩ hS2
   try replace z0 := z0.below hb
   clear hb
   simp only [lay]
   refine te 5 (.int .u16 (be2 l 2)) hS2 rfl (by intro _ h; exact ex_conv (by exact rfl) (by exact rfl) (conv_u16 _ _ .u64 (be2 l 2) (by rw [Try.underlying118]; rfl) Try.underlying33 r2.1 r2.2 _)) ?_
   simp only [lay]
   refine tk_one (by kernel_rfl) (op_app (i := 9) (.tmp 52) (.tmp 54) _ rfl (by kernel_rfl) rfl Try.underlying26 (by kernel_rfl) (w.heap.size + 1) _ _ rfl (z0) _ _ _ _ _ rfl (y8.below hS2.bel (Nat.le_refl _)) (by simp; omega) (hS2.lt) (fun _ hb => hS2.keep1 hb) ?_)
   intro v3 W3 ho3 hb3 hS3
   have ho3 : OwnB W3 (w.heap.size + 1) v3 (l.drop 8) := ho3
   obtain ⟨A3, k3, rfl, _⟩ := own_shape ho3.own
   simp only [lay]
   refine te 10 (.agg #[.int .u16 (be2 l 0), .int .u16 (be2 l 2), .slice A3 (l.drop 8).length k3]) hS3 rfl (by intro _ _; go_simp) ?_
   simp only [lay]
   obtain ⟨old, hold, hold2⟩ := hS3.has
   refine tk_store (i := 12) (by kernel_rfl) rfl (by kernel_rfl) rfl rfl rfl hold udp_info hold2 (by simp [Value.oneCell']) (hS3.store hold.setRow_same below_setRow' rfl) ?_
   have hS4 := hS3.store hold.setRow_same (cs := #[.int .u16 (be2 l 0), .int .u16 (be2 l 2), .slice A3 (l.drop 8).length k3]) below_setRow' rfl
   simp only [lay]
   refine te 13 (.bool false) hS4 rfl (by intro _ _; exact rfl) ?_
   simp only [lay]
   refine te 14 (.int .i64 0) hS4 rfl (by intro _ _; exact rfl) ?_
   simp only [lay]
   refine wpAnyH_done (by kernel_rfl) ?_ _
   have hH4 := hold.setRow_same (cs' := #[.int .u16 (be2 l 0), .int .u16 (be2 l 2), .slice A3 (l.drop 8).length k3])
   have ho4 := (ho3.setRow (g := w.heap.size) (cs := #[.int .u16 (be2 l 0), .int .u16 (be2 l 2), .slice A3 (l.drop 8).length k3]) (Nat.lt_succ_self _)).more (Nat.le_succ _)
   have hb4 := hS4.bel
   generalize W3.setRow w.heap.size #[.int .u16 (be2 l 0), .int .u16 (be2 l 2), .slice A3 (l.drop 8).length k3] = W4 at hH4 ho4 hb4 ⊢
   go_wp2
   exact bodyPost_ret (res_cell3 Try.results44 rfl (hH4.load (P := Try.prog) 80 Try.underlying80 rfl udp_info) rfl rfl) rfl ⟨A3, k3, rfl, uOf_ok y.rng, ho4, hb4⟩
  -- END 8false
end Go.Proofs.Ytjnphelfloiadaa
