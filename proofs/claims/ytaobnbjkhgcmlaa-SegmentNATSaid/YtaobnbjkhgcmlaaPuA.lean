/-
  The walks of segment.parseUDP, ParseUDP4, ParseUDP6.
-/
import Derived.Test.YtaobnbjkhgcmlaaP6P
import Derived.Test.YtaobnbjkhgcmlaaClone
namespace Go.Proofs.Ytaobnbjkhgcmlaa
open Go.RowKit Go.Shelf

/-- what the last region of parseUDP leans on -/
structure SPU (w w' : World) : Prop where
  has : ∃ old, Has w' w.heap.size (.cells old 28 (0, 0)) ∧ old.size = 3
  bel : Below w.heap.size w w'
  lt : w.heap.size < w'.heap.size
theorem SPU.keep {w w' w'' : World} (h : SPU w w') (hb : Below w'.heap.size w' w'') : SPU w w'' := by
  obtain ⟨old, ho, hs⟩ := h.has
  exact ⟨⟨old, ho.below hb h.lt, hs⟩, h.bel.trans (hb.mono h.bel.size), Nat.lt_of_lt_of_le h.lt hb.size⟩
theorem SPU.keep1 {w w' w'' : World} (h : SPU w w') (hb : Below (w.heap.size + 1) w' w'') : SPU w w'' := by
  obtain ⟨old, ho, hs⟩ := h.has
  exact ⟨⟨old, ho.below hb (Nat.lt_succ_self _), hs⟩, h.bel.trans (hb.mono (Nat.le_succ _)), Nat.lt_of_lt_of_le h.lt hb.size⟩
theorem SPU.store {w w' w'' : World} {cs : Array Value} (h : SPU w w') (hc : Has w'' w.heap.size (.cells cs 28 (0, 0))) (hb : Below w.heap.size w' w'') (hn : cs.size = 3) : SPU w w'' :=
  ⟨⟨cs, hc, hn⟩, h.bel.trans hb, hc.lt⟩

set_option maxRecDepth 100000 in
set_option maxHeartbeats 2000000 in
theorem pudp4_any (a b : List Int) (ha : a.length = 4) (hb : b.length = 4) (ra : InB a) (rb : InB b) (g1 g2 : Nat) (A : Option Addr) (c : Nat) (l : List Int) (w : World) (hA : Has w g1 (.cells (u8s a).toArray 34 (0, 0))) (hB' : Has w g2 (.cells (u8s b).toArray 34 (0, 0))) (y : By w.heap.size w A l.length c l) :
    Calls Try.prog 54 #[.func (.func 68) #[] #[.pointer (some ⟨g1, 0, none⟩), .pointer (some ⟨g2, 0, none⟩)], .slice A l.length c, .bool false] w fun e w' => ToldU (uGot false (pse4 a b l.length 17) l) (uNone false (pse4 a b l.length 17) l) (uErr false (pse4 a b l.length 17) l) w e w' := by
  obtain ⟨PS, hPS⟩ : ∃ PS, pse4 a b (l.length : Int) 17 = PS := ⟨_, rfl⟩
  rw [hPS]
  have hH1 : Has (w.alloc (.cells #[.int .u16 0, .int .u16 0, .slice none 0 0] 28)) w.heap.size (.cells #[.int .u16 0, .int .u16 0, .slice none 0 0] 28 (0, 0)) := Has.newAt rfl
  have hB1 : Below w.heap.size w (w.alloc (.cells #[.int .u16 0, .int .u16 0, .slice none 0 0] 28)) := (Below.refl _ _).alloc (Nat.le_refl _) _
  have hbig := Nat.le_trans y.cap y.big
  by_cases h8 : l.length < 8
  · have he : uErr false PS l = 60 := by unfold uErr; rw [if_pos h8]
    have hd := uGot_err (show uErr false PS l ≠ 0 by rw [he]; decide)
    rw [hd.1, hd.2, he]
    clear hd he
    go_enter Try.func54, Try.ntmps54
    go_wp2_with (refine wpList_store_has rfl 28 (.tmp 6) (.tmp 13) rfl w.heap.size _ rfl rfl 28 _ hH1 udp_info rfl (by simp [Value.oneCell']) ?_; intro w9 hH9 hb9)
    exact bodyPost_ret (res_cell3 Try.results54 rfl (hH9.load (P := Try.prog) 28 Try.underlying28 rfl udp_info) rfl rfl) rfl ⟨none, 0, rfl, noU_ok, OwnB.nil _ _, hB1.trans (hb9.mono (Nat.le_refl _))⟩
  have r4 := be2_rng y.rng 4
  by_cases h4 : be2 l 4 = l.length
  case neg =>
    have he : uErr false PS l = 61 := by unfold uErr; rw [if_neg h8, if_pos h4]
    have hd := uGot_err (show uErr false PS l ≠ 0 by rw [he]; decide)
    rw [hd.1, hd.2, he]
    clear hd he
    go_enter Try.func54, Try.ntmps54
    go_wp2_with fail
    refine (two6_any A _ c l _ ((y.below hB1 (Nat.le_refl _)).more hB1.size) 4 (by omega)).mono ?_
    rintro e w2 ⟨rfl, hb⟩
    have hH2 := hH1.below hb hH1.lt
    have hB2 := hB1.trans (hb.mono hB1.size)
    clear hb
    go_wp2_with (refine wpList_store_has rfl 28 (.tmp 6) (.tmp 20) rfl w.heap.size _ rfl rfl 28 _ hH2 udp_info rfl (by simp [Value.oneCell']) ?_; intro w9 hH9 hb9)
    exact bodyPost_ret (res_cell3 Try.results54 rfl (hH9.load (P := Try.prog) 28 Try.underlying28 rfl udp_info) rfl rfl) rfl ⟨none, 0, rfl, noU_ok, OwnB.nil _ _, hB2.trans (hb9.mono (Nat.le_refl _))⟩
  have r6 := be2_rng y.rng 6
  by_cases h6 : be2 l 6 = 0
  · have he : uErr false PS l = 0 := by unfold uErr; rw [if_neg h8, if_neg (by simp [h4]), if_neg (by simp [h6])]
    have hd := uGot_ok he
    rw [hd.1, hd.2, he, decide_eq_true h6]
    clear hd he
    go_enter Try.func54, Try.ntmps54
    go_wp2_with fail
    refine (two6_any A _ c l _ ((y.below hB1 (Nat.le_refl _)).more hB1.size) 4 (by omega)).mono ?_
    rintro e w2 ⟨rfl, hb⟩
    have hH2 := hH1.below hb hH1.lt
    have hB2 := hB1.trans (hb.mono hB1.size)
    clear hb
    go_wp2_with fail
    refine (two6_any A _ c l _ ((y.below hB2 (Nat.le_refl _)).more hB2.size) 6 (by omega)).mono ?_
    rintro e w3 ⟨rfl, hb⟩
    have hH3 := hH2.below hb hH2.lt
    have hB3 := hB2.trans (hb.mono hB2.size)
    clear hb
    go_wp2_with fail
    obtain ⟨A8, c8, hsl, y8⟩ := y.from_ (P := Try.prog) 24 Try.underlying24 (by kernel_rfl) (k := 8) (by omega)
    have hS0 : SPU w w3.drew := ⟨⟨_, hH3.drew, rfl⟩, hB3.trans (below_drew _ _), hH3.drew.lt⟩
    refine wp_region_held_drew (S := SPU w) (by kernel_rfl) hS0 (fun hS => ?_)
    generalize w3.drew = W0 at hS ⊢
    -- REGION 8true
    refine tk (i := 0) (.slice A l.length c) hS rfl (by kernel_rfl) (by kernel_rfl) (by kernel_rfl) (fun _ _ _ h => h) (by kernel_rfl) (by intro _ _; exact rfl) ?_
    simp only [Act.put, List.setIfInBounds_toArray, List.set_cons_zero, List.set_cons_succ]
    refine tk (i := 2) (.slice A l.length c) hS rfl (by kernel_rfl) (by kernel_rfl) (by kernel_rfl) (fun _ _ _ h => h) (by kernel_rfl) (by intro _ _; exact rfl) ?_
    simp only [Act.put, List.setIfInBounds_toArray, List.set_cons_zero, List.set_cons_succ]
    refine tk (i := 4) (.slice A l.length c) hS rfl (by kernel_rfl) (by kernel_rfl) (by kernel_rfl) (fun _ _ _ h => h) (by kernel_rfl) (by intro _ _; exact rfl) ?_
    simp only [Act.put, List.setIfInBounds_toArray, List.set_cons_zero, List.set_cons_succ]
    refine tk (i := 5) (.slice A8 (l.length - 8) c8) hS rfl (by kernel_rfl) (by kernel_rfl) (by kernel_rfl) (fun _ _ _ h => h) (by kernel_rfl) (by intro w' _; exact ex_slice (by exact rfl) (by exact rfl) (hsl w')) ?_
    simp only [Act.put, List.setIfInBounds_toArray, List.set_cons_zero, List.set_cons_succ]
    refine tk (i := 8) (.bool true) hS rfl (by kernel_rfl) (by kernel_rfl) (by kernel_rfl) (fun _ _ _ h => h) (by kernel_rfl) (by intro _ _; exact rfl) ?_
    simp only [Act.put, List.setIfInBounds_toArray, List.set_cons_zero, List.set_cons_succ]
    refine tk_one (by kernel_rfl) (op_callx (i := 1) (fun v w' => v = .int .u16 (be2 l 0)) rfl (by kernel_rfl) (by exact ex_call (by exact rfl) Try.func58 (by kernel_rfl) (by kernel_rfl) (by simp only [List.map_toArray, List.map_cons, List.map_nil] <;> rfl)) ((two6_any A _ c l _ ((y.below hS.bel (Nat.le_refl _)).more hS.bel.size) 0 (by omega)).mono fun e w' g => ⟨_, g.1, rfl, hS.keep g.2⟩) ?_)
    rintro v1 W1 rfl hS1
    simp only [Act.put, List.setIfInBounds_toArray, List.set_cons_zero, List.set_cons_succ]
    refine tk_one (by kernel_rfl) (op_callx (i := 3) (fun v w' => v = .int .u16 (be2 l 2)) rfl (by kernel_rfl) (by exact ex_call (by exact rfl) Try.func58 (by kernel_rfl) (by kernel_rfl) (by simp only [List.map_toArray, List.map_cons, List.map_nil] <;> rfl)) ((two6_any A _ c l _ ((y.below hS1.bel (Nat.le_refl _)).more hS1.bel.size) 2 (by omega)).mono fun e w' g => ⟨_, g.1, rfl, hS1.keep g.2⟩) ?_)
    rintro v2 W2 rfl hS2
    simp only [Act.put, List.setIfInBounds_toArray, List.set_cons_zero, List.set_cons_succ]
    refine tk_one (by kernel_rfl) (op_callx (i := 6) (fun v w' => OwnB w' W2.heap.size v (l.drop 8)) rfl (by kernel_rfl) (by exact ex_call (by exact rfl) Try.func60 (by kernel_rfl) (by kernel_rfl) (by simp only [List.map_toArray, List.map_cons, List.map_nil] <;> rfl)) ((clone_n A8 c8 (l.length - 8) (l.drop 8) _ ((y8.below hS2.bel (Nat.le_refl _)).more hS2.bel.size) (by rw [List.length_drop]; omega)).mono fun e w' g => by obtain ⟨v, rfl, h2, h3⟩ := g; exact ⟨_, rfl, h2, hS2.keep h3⟩) ?_)
    rintro v3 W3 ho3 hS3
    obtain ⟨A3, k3, rfl, _⟩ := own_shape ho3.own
    simp only [Act.put, List.setIfInBounds_toArray, List.set_cons_zero, List.set_cons_succ]
    refine tk (i := 7) (.agg #[.int .u16 (be2 l 0), .int .u16 (be2 l 2), .slice A3 (l.drop 8).length k3]) hS3 rfl (by kernel_rfl) (by kernel_rfl) (by kernel_rfl) (fun _ _ _ h => h) (by kernel_rfl) (by intro _ _; go_simp) ?_
    simp only [Act.put, List.setIfInBounds_toArray, List.set_cons_zero, List.set_cons_succ]
    obtain ⟨old, hold, hold2⟩ := hS3.has
    refine tk_store (i := 9) (by kernel_rfl) rfl (by kernel_rfl) rfl rfl rfl hold udp_info hold2 (by simp [Value.oneCell']) (hS3.store hold.setRow_same below_setRow' rfl) ?_
    have hS4 := hS3.store hold.setRow_same (cs := #[.int .u16 (be2 l 0), .int .u16 (be2 l 2), .slice A3 (l.drop 8).length k3]) below_setRow' rfl
    simp only [Act.put, List.setIfInBounds_toArray, List.set_cons_zero, List.set_cons_succ]
    refine tk (i := 10) (.bool true) hS4 rfl (by kernel_rfl) (by kernel_rfl) (by kernel_rfl) (fun _ _ _ h => h) (by kernel_rfl) (by intro _ _; exact rfl) ?_
    simp only [Act.put, List.setIfInBounds_toArray, List.set_cons_zero, List.set_cons_succ]
    refine tk (i := 11) (.int .i64 0) hS4 rfl (by kernel_rfl) (by kernel_rfl) (by kernel_rfl) (fun _ _ _ h => h) (by kernel_rfl) (by intro _ _; exact rfl) ?_
    simp only [Act.put, List.setIfInBounds_toArray, List.set_cons_zero, List.set_cons_succ]
    refine wpAnyH_done (by kernel_rfl) ?_ _
    have hH4 := hold.setRow_same (cs' := #[.int .u16 (be2 l 0), .int .u16 (be2 l 2), .slice A3 (l.drop 8).length k3])
    have ho4 := (ho3.setRow (g := w.heap.size) (cs := #[.int .u16 (be2 l 0), .int .u16 (be2 l 2), .slice A3 (l.drop 8).length k3]) hS2.lt).more hS2.bel.size
    have hb4 := hS4.bel
    generalize W3.setRow w.heap.size #[.int .u16 (be2 l 0), .int .u16 (be2 l 2), .slice A3 (l.drop 8).length k3] = W4 at hH4 ho4 hb4 ⊢
    go_wp2
    exact bodyPost_ret (res_cell3 Try.results54 rfl (hH4.load (P := Try.prog) 28 Try.underlying28 rfl udp_info) rfl rfl) rfl ⟨A3, k3, rfl, uOf_ok y.rng, ho4, hb4⟩
    -- END 8true
  have hz : (be2 l 6 == 0) = false := by simp [h6]
  by_cases hg : sumw (PS ++ l) = 65535
  case neg =>
    have he : uErr false PS l = 62 := by unfold uErr; rw [if_neg h8, if_neg (by simp [h4]), if_pos (Or.inr ⟨h6, hg⟩)]
    have hd := uGot_err (show uErr false PS l ≠ 0 by rw [he]; decide)
    rw [hd.1, hd.2, he]
    have hg := Lib.hid hg
    clear hd he
    go_enter Try.func54, Try.ntmps54
    go_wp2_with fail
    refine (two6_any A _ c l _ ((y.below hB1 (Nat.le_refl _)).more hB1.size) 4 (by omega)).mono ?_
    rintro e w2 ⟨rfl, hb⟩
    have hH2 := hH1.below hb hH1.lt
    have hB2 := hB1.trans (hb.mono hB1.size)
    clear hb
    go_wp2_with fail
    refine (two6_any A _ c l _ ((y.below hB2 (Nat.le_refl _)).more hB2.size) 6 (by omega)).mono ?_
    rintro e w5 ⟨rfl, hb⟩
    have hH5 := hH2.below hb hH2.lt
    have hB5 := hB2.trans (hb.mono hB2.size)
    clear hb
    go_wp2_with fail
    refine (head4_any a b ha hb ra rb 17 (l.length : Int) (by decide) (by decide) (by omega) (by omega) g1 g2 _ (hA.below hB5 hA.lt) (hB'.below hB5 hB'.lt)).mono ?_
    rintro e w3 ⟨v3, rfl, o3, hb⟩
    rw [hPS] at o3
    obtain ⟨A2, k2, rfl, y2⟩ := o3.by_
    have hH3 := hH5.below hb hH5.lt
    have hB3 := hB5.trans (hb.mono hB5.size)
    have yl := (y.below hB3 (Nat.le_refl _)).more hB3.size
    clear hb o3
    go_wp2_with fail
    refine (good_new [(A2, k2, PS), (A, c, l)] 2 (by simp only [List.map_cons, List.map_nil]; exact Has.newAt (by simp)) rfl (all2 ((y2.alloc (Nat.le_refl _) _).more (by simp)) ((yl.alloc (Nat.le_refl _) _).more (by simp))) (by simp)).mono ?_
    rintro e w4 ⟨q, rfl, hq, hb⟩
    obtain rfl : q = false := hq.out.trans (by rw [show flat [(A2, k2, PS), (A, c, l)] = PS ++ l from by simp [flat]]; exact decide_eq_false hg.out)
    have hb : Below w3.heap.size w3 w4 := ((Below.refl _ _).alloc (Nat.le_refl _) _).trans (hb.mono (by simp))
    have hH4 := hH3.below hb hH3.lt
    have hB4 := hB3.trans (hb.mono hB3.size)
    clear hb hq
    go_wp2_with (refine wpList_store_has rfl 28 (.tmp 6) (.tmp 42) rfl w.heap.size _ rfl rfl 28 _ hH4 udp_info rfl (by simp [Value.oneCell']) ?_; intro w9 hH9 hb9)
    exact bodyPost_ret (res_cell3 Try.results54 rfl (hH9.load (P := Try.prog) 28 Try.underlying28 rfl udp_info) rfl rfl) rfl ⟨none, 0, rfl, noU_ok, OwnB.nil _ _, hB4.trans (hb9.mono (Nat.le_refl _))⟩
  case pos =>
    have he : uErr false PS l = 0 := by unfold uErr; rw [if_neg h8, if_neg (by simp [h4]), if_neg (by simp [h6, hg])]
    have hd := uGot_ok he
    rw [hd.1, hd.2, he, decide_eq_false h6]
    have hg := Lib.hid hg
    clear hd he
    go_enter Try.func54, Try.ntmps54
    go_wp2_with fail
    refine (two6_any A _ c l _ ((y.below hB1 (Nat.le_refl _)).more hB1.size) 4 (by omega)).mono ?_
    rintro e w2 ⟨rfl, hb⟩
    have hH2 := hH1.below hb hH1.lt
    have hB2 := hB1.trans (hb.mono hB1.size)
    clear hb
    go_wp2_with fail
    refine (two6_any A _ c l _ ((y.below hB2 (Nat.le_refl _)).more hB2.size) 6 (by omega)).mono ?_
    rintro e w5 ⟨rfl, hb⟩
    have hH5 := hH2.below hb hH2.lt
    have hB5 := hB2.trans (hb.mono hB2.size)
    clear hb
    go_wp2_with fail
    refine (head4_any a b ha hb ra rb 17 (l.length : Int) (by decide) (by decide) (by omega) (by omega) g1 g2 _ (hA.below hB5 hA.lt) (hB'.below hB5 hB'.lt)).mono ?_
    rintro e w3 ⟨v3, rfl, o3, hb⟩
    rw [hPS] at o3
    obtain ⟨A2, k2, rfl, y2⟩ := o3.by_
    have hH3 := hH5.below hb hH5.lt
    have hB3 := hB5.trans (hb.mono hB5.size)
    have yl := (y.below hB3 (Nat.le_refl _)).more hB3.size
    clear hb o3
    go_wp2_with fail
    refine (good_new [(A2, k2, PS), (A, c, l)] 2 (by simp only [List.map_cons, List.map_nil]; exact Has.newAt (by simp)) rfl (all2 ((y2.alloc (Nat.le_refl _) _).more (by simp)) ((yl.alloc (Nat.le_refl _) _).more (by simp))) (by simp)).mono ?_
    rintro e w4 ⟨q, rfl, hq, hb⟩
    obtain rfl : q = true := hq.out.trans (by rw [show flat [(A2, k2, PS), (A, c, l)] = PS ++ l from by simp [flat]]; exact decide_eq_true hg.out)
    have hb : Below w3.heap.size w3 w4 := ((Below.refl _ _).alloc (Nat.le_refl _) _).trans (hb.mono (by simp))
    have hH4 := hH3.below hb hH3.lt
    have hB4 := hB3.trans (hb.mono hB3.size)
    clear hb hq
    go_wp2_with fail
    obtain ⟨A8, c8, hsl, y8⟩ := y.from_ (P := Try.prog) 24 Try.underlying24 (by kernel_rfl) (k := 8) (by omega)
    have hS0 : SPU w w4.drew := ⟨⟨_, hH4.drew, rfl⟩, hB4.trans (below_drew _ _), hH4.drew.lt⟩
    refine wp_region_held_drew (S := SPU w) (by kernel_rfl) hS0 (fun hS => ?_)
    generalize w4.drew = W0 at hS ⊢
    -- REGION 8false
    refine tk (i := 0) (.slice A l.length c) hS rfl (by kernel_rfl) (by kernel_rfl) (by kernel_rfl) (fun _ _ _ h => h) (by kernel_rfl) (by intro _ _; exact rfl) ?_
    simp only [Act.put, List.setIfInBounds_toArray, List.set_cons_zero, List.set_cons_succ]
    refine tk (i := 2) (.slice A l.length c) hS rfl (by kernel_rfl) (by kernel_rfl) (by kernel_rfl) (fun _ _ _ h => h) (by kernel_rfl) (by intro _ _; exact rfl) ?_
    simp only [Act.put, List.setIfInBounds_toArray, List.set_cons_zero, List.set_cons_succ]
    refine tk (i := 4) (.slice A l.length c) hS rfl (by kernel_rfl) (by kernel_rfl) (by kernel_rfl) (fun _ _ _ h => h) (by kernel_rfl) (by intro _ _; exact rfl) ?_
    simp only [Act.put, List.setIfInBounds_toArray, List.set_cons_zero, List.set_cons_succ]
    refine tk (i := 5) (.slice A8 (l.length - 8) c8) hS rfl (by kernel_rfl) (by kernel_rfl) (by kernel_rfl) (fun _ _ _ h => h) (by kernel_rfl) (by intro w' _; exact ex_slice (by exact rfl) (by exact rfl) (hsl w')) ?_
    simp only [Act.put, List.setIfInBounds_toArray, List.set_cons_zero, List.set_cons_succ]
    refine tk (i := 8) (.bool false) hS rfl (by kernel_rfl) (by kernel_rfl) (by kernel_rfl) (fun _ _ _ h => h) (by kernel_rfl) (by intro _ _; exact rfl) ?_
    simp only [Act.put, List.setIfInBounds_toArray, List.set_cons_zero, List.set_cons_succ]
    refine tk_one (by kernel_rfl) (op_callx (i := 1) (fun v w' => v = .int .u16 (be2 l 0)) rfl (by kernel_rfl) (by exact ex_call (by exact rfl) Try.func58 (by kernel_rfl) (by kernel_rfl) (by simp only [List.map_toArray, List.map_cons, List.map_nil] <;> rfl)) ((two6_any A _ c l _ ((y.below hS.bel (Nat.le_refl _)).more hS.bel.size) 0 (by omega)).mono fun e w' g => ⟨_, g.1, rfl, hS.keep g.2⟩) ?_)
    rintro v1 W1 rfl hS1
    simp only [Act.put, List.setIfInBounds_toArray, List.set_cons_zero, List.set_cons_succ]
    refine tk_one (by kernel_rfl) (op_callx (i := 3) (fun v w' => v = .int .u16 (be2 l 2)) rfl (by kernel_rfl) (by exact ex_call (by exact rfl) Try.func58 (by kernel_rfl) (by kernel_rfl) (by simp only [List.map_toArray, List.map_cons, List.map_nil] <;> rfl)) ((two6_any A _ c l _ ((y.below hS1.bel (Nat.le_refl _)).more hS1.bel.size) 2 (by omega)).mono fun e w' g => ⟨_, g.1, rfl, hS1.keep g.2⟩) ?_)
    rintro v2 W2 rfl hS2
    simp only [Act.put, List.setIfInBounds_toArray, List.set_cons_zero, List.set_cons_succ]
    refine tk_one (by kernel_rfl) (op_callx (i := 6) (fun v w' => OwnB w' W2.heap.size v (l.drop 8)) rfl (by kernel_rfl) (by exact ex_call (by exact rfl) Try.func60 (by kernel_rfl) (by kernel_rfl) (by simp only [List.map_toArray, List.map_cons, List.map_nil] <;> rfl)) ((clone_n A8 c8 (l.length - 8) (l.drop 8) _ ((y8.below hS2.bel (Nat.le_refl _)).more hS2.bel.size) (by rw [List.length_drop]; omega)).mono fun e w' g => by obtain ⟨v, rfl, h2, h3⟩ := g; exact ⟨_, rfl, h2, hS2.keep h3⟩) ?_)
    rintro v3 W3 ho3 hS3
    obtain ⟨A3, k3, rfl, _⟩ := own_shape ho3.own
    simp only [Act.put, List.setIfInBounds_toArray, List.set_cons_zero, List.set_cons_succ]
    refine tk (i := 7) (.agg #[.int .u16 (be2 l 0), .int .u16 (be2 l 2), .slice A3 (l.drop 8).length k3]) hS3 rfl (by kernel_rfl) (by kernel_rfl) (by kernel_rfl) (fun _ _ _ h => h) (by kernel_rfl) (by intro _ _; go_simp) ?_
    simp only [Act.put, List.setIfInBounds_toArray, List.set_cons_zero, List.set_cons_succ]
    obtain ⟨old, hold, hold2⟩ := hS3.has
    refine tk_store (i := 9) (by kernel_rfl) rfl (by kernel_rfl) rfl rfl rfl hold udp_info hold2 (by simp [Value.oneCell']) (hS3.store hold.setRow_same below_setRow' rfl) ?_
    have hS4 := hS3.store hold.setRow_same (cs := #[.int .u16 (be2 l 0), .int .u16 (be2 l 2), .slice A3 (l.drop 8).length k3]) below_setRow' rfl
    simp only [Act.put, List.setIfInBounds_toArray, List.set_cons_zero, List.set_cons_succ]
    refine tk (i := 10) (.bool false) hS4 rfl (by kernel_rfl) (by kernel_rfl) (by kernel_rfl) (fun _ _ _ h => h) (by kernel_rfl) (by intro _ _; exact rfl) ?_
    simp only [Act.put, List.setIfInBounds_toArray, List.set_cons_zero, List.set_cons_succ]
    refine tk (i := 11) (.int .i64 0) hS4 rfl (by kernel_rfl) (by kernel_rfl) (by kernel_rfl) (fun _ _ _ h => h) (by kernel_rfl) (by intro _ _; exact rfl) ?_
    simp only [Act.put, List.setIfInBounds_toArray, List.set_cons_zero, List.set_cons_succ]
    refine wpAnyH_done (by kernel_rfl) ?_ _
    have hH4 := hold.setRow_same (cs' := #[.int .u16 (be2 l 0), .int .u16 (be2 l 2), .slice A3 (l.drop 8).length k3])
    have ho4 := (ho3.setRow (g := w.heap.size) (cs := #[.int .u16 (be2 l 0), .int .u16 (be2 l 2), .slice A3 (l.drop 8).length k3]) hS2.lt).more hS2.bel.size
    have hb4 := hS4.bel
    generalize W3.setRow w.heap.size #[.int .u16 (be2 l 0), .int .u16 (be2 l 2), .slice A3 (l.drop 8).length k3] = W4 at hH4 ho4 hb4 ⊢
    go_wp2
    exact bodyPost_ret (res_cell3 Try.results54 rfl (hH4.load (P := Try.prog) 28 Try.underlying28 rfl udp_info) rfl rfl) rfl ⟨A3, k3, rfl, uOf_ok y.rng, ho4, hb4⟩
    -- END 8false

set_option maxRecDepth 100000 in
set_option maxHeartbeats 2000000 in
theorem pudp6_any (a b : List Int) (ha : a.length = 16) (hb : b.length = 16) (ra : InB a) (rb : InB b) (g1 g2 : Nat) (A : Option Addr) (c : Nat) (l : List Int) (w : World) (hA : Has w g1 (.cells (u8s a).toArray 36 (0, 0))) (hB' : Has w g2 (.cells (u8s b).toArray 36 (0, 0))) (y : By w.heap.size w A l.length c l) :
    Calls Try.prog 54 #[.func (.func 65) #[] #[.pointer (some ⟨g1, 0, none⟩), .pointer (some ⟨g2, 0, none⟩)], .slice A l.length c, .bool true] w fun e w' => ToldU (uGot true (pse6 a b l.length 17) l) (uNone true (pse6 a b l.length 17) l) (uErr true (pse6 a b l.length 17) l) w e w' := by
  obtain ⟨PS, hPS⟩ : ∃ PS, pse6 a b (l.length : Int) 17 = PS := ⟨_, rfl⟩
  rw [hPS]
  have hH1 : Has (w.alloc (.cells #[.int .u16 0, .int .u16 0, .slice none 0 0] 28)) w.heap.size (.cells #[.int .u16 0, .int .u16 0, .slice none 0 0] 28 (0, 0)) := Has.newAt rfl
  have hB1 : Below w.heap.size w (w.alloc (.cells #[.int .u16 0, .int .u16 0, .slice none 0 0] 28)) := (Below.refl _ _).alloc (Nat.le_refl _) _
  have hbig := Nat.le_trans y.cap y.big
  by_cases h8 : l.length < 8
  · have he : uErr true PS l = 60 := by unfold uErr; rw [if_pos h8]
    have hd := uGot_err (show uErr true PS l ≠ 0 by rw [he]; decide)
    rw [hd.1, hd.2, he]
    clear hd he
    go_enter Try.func54, Try.ntmps54
    go_wp2_with (refine wpList_store_has rfl 28 (.tmp 6) (.tmp 13) rfl w.heap.size _ rfl rfl 28 _ hH1 udp_info rfl (by simp [Value.oneCell']) ?_; intro w9 hH9 hb9)
    exact bodyPost_ret (res_cell3 Try.results54 rfl (hH9.load (P := Try.prog) 28 Try.underlying28 rfl udp_info) rfl rfl) rfl ⟨none, 0, rfl, noU_ok, OwnB.nil _ _, hB1.trans (hb9.mono (Nat.le_refl _))⟩
  have r4 := be2_rng y.rng 4
  by_cases h4 : be2 l 4 = l.length
  case neg =>
    have he : uErr true PS l = 61 := by unfold uErr; rw [if_neg h8, if_pos h4]
    have hd := uGot_err (show uErr true PS l ≠ 0 by rw [he]; decide)
    rw [hd.1, hd.2, he]
    clear hd he
    go_enter Try.func54, Try.ntmps54
    go_wp2_with fail
    refine (two6_any A _ c l _ ((y.below hB1 (Nat.le_refl _)).more hB1.size) 4 (by omega)).mono ?_
    rintro e w2 ⟨rfl, hb⟩
    have hH2 := hH1.below hb hH1.lt
    have hB2 := hB1.trans (hb.mono hB1.size)
    clear hb
    go_wp2_with (refine wpList_store_has rfl 28 (.tmp 6) (.tmp 20) rfl w.heap.size _ rfl rfl 28 _ hH2 udp_info rfl (by simp [Value.oneCell']) ?_; intro w9 hH9 hb9)
    exact bodyPost_ret (res_cell3 Try.results54 rfl (hH9.load (P := Try.prog) 28 Try.underlying28 rfl udp_info) rfl rfl) rfl ⟨none, 0, rfl, noU_ok, OwnB.nil _ _, hB2.trans (hb9.mono (Nat.le_refl _))⟩
  have r6 := be2_rng y.rng 6
  by_cases h6 : be2 l 6 = 0
  · have he : uErr true PS l = 62 := by unfold uErr; rw [if_neg h8, if_neg (by simp [h4]), if_pos (Or.inl ⟨h6, rfl⟩)]
    have hd := uGot_err (show uErr true PS l ≠ 0 by rw [he]; decide)
    rw [hd.1, hd.2, he]
    clear hd he
    go_enter Try.func54, Try.ntmps54
    go_wp2_with fail
    refine (two6_any A _ c l _ ((y.below hB1 (Nat.le_refl _)).more hB1.size) 4 (by omega)).mono ?_
    rintro e w2 ⟨rfl, hb⟩
    have hH2 := hH1.below hb hH1.lt
    have hB2 := hB1.trans (hb.mono hB1.size)
    clear hb
    go_wp2_with fail
    refine (two6_any A _ c l _ ((y.below hB2 (Nat.le_refl _)).more hB2.size) 6 (by omega)).mono ?_
    rintro e w3 ⟨rfl, hb⟩
    have hH3 := hH2.below hb hH2.lt
    have hB3 := hB2.trans (hb.mono hB2.size)
    clear hb
    go_wp2_with (refine wpList_store_has rfl 28 (.tmp 6) (.tmp 42) rfl w.heap.size _ rfl rfl 28 _ hH3 udp_info rfl (by simp [Value.oneCell']) ?_; intro w9 hH9 hb9)
    exact bodyPost_ret (res_cell3 Try.results54 rfl (hH9.load (P := Try.prog) 28 Try.underlying28 rfl udp_info) rfl rfl) rfl ⟨none, 0, rfl, noU_ok, OwnB.nil _ _, hB3.trans (hb9.mono (Nat.le_refl _))⟩
  have hz : (be2 l 6 == 0) = false := by simp [h6]
  by_cases hg : sumw (PS ++ l) = 65535
  case neg =>
    have he : uErr true PS l = 62 := by unfold uErr; rw [if_neg h8, if_neg (by simp [h4]), if_pos (Or.inr ⟨h6, hg⟩)]
    have hd := uGot_err (show uErr true PS l ≠ 0 by rw [he]; decide)
    rw [hd.1, hd.2, he]
    have hg := Lib.hid hg
    clear hd he
    go_enter Try.func54, Try.ntmps54
    go_wp2_with fail
    refine (two6_any A _ c l _ ((y.below hB1 (Nat.le_refl _)).more hB1.size) 4 (by omega)).mono ?_
    rintro e w2 ⟨rfl, hb⟩
    have hH2 := hH1.below hb hH1.lt
    have hB2 := hB1.trans (hb.mono hB1.size)
    clear hb
    go_wp2_with fail
    refine (two6_any A _ c l _ ((y.below hB2 (Nat.le_refl _)).more hB2.size) 6 (by omega)).mono ?_
    rintro e w5 ⟨rfl, hb⟩
    have hH5 := hH2.below hb hH2.lt
    have hB5 := hB2.trans (hb.mono hB2.size)
    clear hb
    go_wp2_with fail
    refine (head6_any a b ha hb ra rb 17 (l.length : Int) (by decide) (by decide) (by omega) (by omega) g1 g2 _ (hA.below hB5 hA.lt) (hB'.below hB5 hB'.lt)).mono ?_
    rintro e w3 ⟨v3, rfl, o3, hb⟩
    rw [hPS] at o3
    obtain ⟨A2, k2, rfl, y2⟩ := o3.by_
    have hH3 := hH5.below hb hH5.lt
    have hB3 := hB5.trans (hb.mono hB5.size)
    have yl := (y.below hB3 (Nat.le_refl _)).more hB3.size
    clear hb o3
    go_wp2_with fail
    refine (good_new [(A2, k2, PS), (A, c, l)] 2 (by simp only [List.map_cons, List.map_nil]; exact Has.newAt (by simp)) rfl (all2 ((y2.alloc (Nat.le_refl _) _).more (by simp)) ((yl.alloc (Nat.le_refl _) _).more (by simp))) (by simp)).mono ?_
    rintro e w4 ⟨q, rfl, hq, hb⟩
    obtain rfl : q = false := hq.out.trans (by rw [show flat [(A2, k2, PS), (A, c, l)] = PS ++ l from by simp [flat]]; exact decide_eq_false hg.out)
    have hb : Below w3.heap.size w3 w4 := ((Below.refl _ _).alloc (Nat.le_refl _) _).trans (hb.mono (by simp))
    have hH4 := hH3.below hb hH3.lt
    have hB4 := hB3.trans (hb.mono hB3.size)
    clear hb hq
    go_wp2_with (refine wpList_store_has rfl 28 (.tmp 6) (.tmp 42) rfl w.heap.size _ rfl rfl 28 _ hH4 udp_info rfl (by simp [Value.oneCell']) ?_; intro w9 hH9 hb9)
    exact bodyPost_ret (res_cell3 Try.results54 rfl (hH9.load (P := Try.prog) 28 Try.underlying28 rfl udp_info) rfl rfl) rfl ⟨none, 0, rfl, noU_ok, OwnB.nil _ _, hB4.trans (hb9.mono (Nat.le_refl _))⟩
  case pos =>
    have he : uErr true PS l = 0 := by unfold uErr; rw [if_neg h8, if_neg (by simp [h4]), if_neg (by simp [h6, hg])]
    have hd := uGot_ok he
    rw [hd.1, hd.2, he, decide_eq_false h6]
    have hg := Lib.hid hg
    clear hd he
    go_enter Try.func54, Try.ntmps54
    go_wp2_with fail
    refine (two6_any A _ c l _ ((y.below hB1 (Nat.le_refl _)).more hB1.size) 4 (by omega)).mono ?_
    rintro e w2 ⟨rfl, hb⟩
    have hH2 := hH1.below hb hH1.lt
    have hB2 := hB1.trans (hb.mono hB1.size)
    clear hb
    go_wp2_with fail
    refine (two6_any A _ c l _ ((y.below hB2 (Nat.le_refl _)).more hB2.size) 6 (by omega)).mono ?_
    rintro e w5 ⟨rfl, hb⟩
    have hH5 := hH2.below hb hH2.lt
    have hB5 := hB2.trans (hb.mono hB2.size)
    clear hb
    go_wp2_with fail
    refine (head6_any a b ha hb ra rb 17 (l.length : Int) (by decide) (by decide) (by omega) (by omega) g1 g2 _ (hA.below hB5 hA.lt) (hB'.below hB5 hB'.lt)).mono ?_
    rintro e w3 ⟨v3, rfl, o3, hb⟩
    rw [hPS] at o3
    obtain ⟨A2, k2, rfl, y2⟩ := o3.by_
    have hH3 := hH5.below hb hH5.lt
    have hB3 := hB5.trans (hb.mono hB5.size)
    have yl := (y.below hB3 (Nat.le_refl _)).more hB3.size
    clear hb o3
    go_wp2_with fail
    refine (good_new [(A2, k2, PS), (A, c, l)] 2 (by simp only [List.map_cons, List.map_nil]; exact Has.newAt (by simp)) rfl (all2 ((y2.alloc (Nat.le_refl _) _).more (by simp)) ((yl.alloc (Nat.le_refl _) _).more (by simp))) (by simp)).mono ?_
    rintro e w4 ⟨q, rfl, hq, hb⟩
    obtain rfl : q = true := hq.out.trans (by rw [show flat [(A2, k2, PS), (A, c, l)] = PS ++ l from by simp [flat]]; exact decide_eq_true hg.out)
    have hb : Below w3.heap.size w3 w4 := ((Below.refl _ _).alloc (Nat.le_refl _) _).trans (hb.mono (by simp))
    have hH4 := hH3.below hb hH3.lt
    have hB4 := hB3.trans (hb.mono hB3.size)
    clear hb hq
    go_wp2_with fail
    obtain ⟨A8, c8, hsl, y8⟩ := y.from_ (P := Try.prog) 24 Try.underlying24 (by kernel_rfl) (k := 8) (by omega)
    have hS0 : SPU w w4.drew := ⟨⟨_, hH4.drew, rfl⟩, hB4.trans (below_drew _ _), hH4.drew.lt⟩
    refine wp_region_held_drew (S := SPU w) (by kernel_rfl) hS0 (fun hS => ?_)
    generalize w4.drew = W0 at hS ⊢
    -- REGION 8false
    refine tk (i := 0) (.slice A l.length c) hS rfl (by kernel_rfl) (by kernel_rfl) (by kernel_rfl) (fun _ _ _ h => h) (by kernel_rfl) (by intro _ _; exact rfl) ?_
    simp only [Act.put, List.setIfInBounds_toArray, List.set_cons_zero, List.set_cons_succ]
    refine tk (i := 2) (.slice A l.length c) hS rfl (by kernel_rfl) (by kernel_rfl) (by kernel_rfl) (fun _ _ _ h => h) (by kernel_rfl) (by intro _ _; exact rfl) ?_
    simp only [Act.put, List.setIfInBounds_toArray, List.set_cons_zero, List.set_cons_succ]
    refine tk (i := 4) (.slice A l.length c) hS rfl (by kernel_rfl) (by kernel_rfl) (by kernel_rfl) (fun _ _ _ h => h) (by kernel_rfl) (by intro _ _; exact rfl) ?_
    simp only [Act.put, List.setIfInBounds_toArray, List.set_cons_zero, List.set_cons_succ]
    refine tk (i := 5) (.slice A8 (l.length - 8) c8) hS rfl (by kernel_rfl) (by kernel_rfl) (by kernel_rfl) (fun _ _ _ h => h) (by kernel_rfl) (by intro w' _; exact ex_slice (by exact rfl) (by exact rfl) (hsl w')) ?_
    simp only [Act.put, List.setIfInBounds_toArray, List.set_cons_zero, List.set_cons_succ]
    refine tk (i := 8) (.bool false) hS rfl (by kernel_rfl) (by kernel_rfl) (by kernel_rfl) (fun _ _ _ h => h) (by kernel_rfl) (by intro _ _; exact rfl) ?_
    simp only [Act.put, List.setIfInBounds_toArray, List.set_cons_zero, List.set_cons_succ]
    refine tk_one (by kernel_rfl) (op_callx (i := 1) (fun v w' => v = .int .u16 (be2 l 0)) rfl (by kernel_rfl) (by exact ex_call (by exact rfl) Try.func58 (by kernel_rfl) (by kernel_rfl) (by simp only [List.map_toArray, List.map_cons, List.map_nil] <;> rfl)) ((two6_any A _ c l _ ((y.below hS.bel (Nat.le_refl _)).more hS.bel.size) 0 (by omega)).mono fun e w' g => ⟨_, g.1, rfl, hS.keep g.2⟩) ?_)
    rintro v1 W1 rfl hS1
    simp only [Act.put, List.setIfInBounds_toArray, List.set_cons_zero, List.set_cons_succ]
    refine tk_one (by kernel_rfl) (op_callx (i := 3) (fun v w' => v = .int .u16 (be2 l 2)) rfl (by kernel_rfl) (by exact ex_call (by exact rfl) Try.func58 (by kernel_rfl) (by kernel_rfl) (by simp only [List.map_toArray, List.map_cons, List.map_nil] <;> rfl)) ((two6_any A _ c l _ ((y.below hS1.bel (Nat.le_refl _)).more hS1.bel.size) 2 (by omega)).mono fun e w' g => ⟨_, g.1, rfl, hS1.keep g.2⟩) ?_)
    rintro v2 W2 rfl hS2
    simp only [Act.put, List.setIfInBounds_toArray, List.set_cons_zero, List.set_cons_succ]
    refine tk_one (by kernel_rfl) (op_callx (i := 6) (fun v w' => OwnB w' W2.heap.size v (l.drop 8)) rfl (by kernel_rfl) (by exact ex_call (by exact rfl) Try.func60 (by kernel_rfl) (by kernel_rfl) (by simp only [List.map_toArray, List.map_cons, List.map_nil] <;> rfl)) ((clone_n A8 c8 (l.length - 8) (l.drop 8) _ ((y8.below hS2.bel (Nat.le_refl _)).more hS2.bel.size) (by rw [List.length_drop]; omega)).mono fun e w' g => by obtain ⟨v, rfl, h2, h3⟩ := g; exact ⟨_, rfl, h2, hS2.keep h3⟩) ?_)
    rintro v3 W3 ho3 hS3
    obtain ⟨A3, k3, rfl, _⟩ := own_shape ho3.own
    simp only [Act.put, List.setIfInBounds_toArray, List.set_cons_zero, List.set_cons_succ]
    refine tk (i := 7) (.agg #[.int .u16 (be2 l 0), .int .u16 (be2 l 2), .slice A3 (l.drop 8).length k3]) hS3 rfl (by kernel_rfl) (by kernel_rfl) (by kernel_rfl) (fun _ _ _ h => h) (by kernel_rfl) (by intro _ _; go_simp) ?_
    simp only [Act.put, List.setIfInBounds_toArray, List.set_cons_zero, List.set_cons_succ]
    obtain ⟨old, hold, hold2⟩ := hS3.has
    refine tk_store (i := 9) (by kernel_rfl) rfl (by kernel_rfl) rfl rfl rfl hold udp_info hold2 (by simp [Value.oneCell']) (hS3.store hold.setRow_same below_setRow' rfl) ?_
    have hS4 := hS3.store hold.setRow_same (cs := #[.int .u16 (be2 l 0), .int .u16 (be2 l 2), .slice A3 (l.drop 8).length k3]) below_setRow' rfl
    simp only [Act.put, List.setIfInBounds_toArray, List.set_cons_zero, List.set_cons_succ]
    refine tk (i := 10) (.bool false) hS4 rfl (by kernel_rfl) (by kernel_rfl) (by kernel_rfl) (fun _ _ _ h => h) (by kernel_rfl) (by intro _ _; exact rfl) ?_
    simp only [Act.put, List.setIfInBounds_toArray, List.set_cons_zero, List.set_cons_succ]
    refine tk (i := 11) (.int .i64 0) hS4 rfl (by kernel_rfl) (by kernel_rfl) (by kernel_rfl) (fun _ _ _ h => h) (by kernel_rfl) (by intro _ _; exact rfl) ?_
    simp only [Act.put, List.setIfInBounds_toArray, List.set_cons_zero, List.set_cons_succ]
    refine wpAnyH_done (by kernel_rfl) ?_ _
    have hH4 := hold.setRow_same (cs' := #[.int .u16 (be2 l 0), .int .u16 (be2 l 2), .slice A3 (l.drop 8).length k3])
    have ho4 := (ho3.setRow (g := w.heap.size) (cs := #[.int .u16 (be2 l 0), .int .u16 (be2 l 2), .slice A3 (l.drop 8).length k3]) hS2.lt).more hS2.bel.size
    have hb4 := hS4.bel
    generalize W3.setRow w.heap.size #[.int .u16 (be2 l 0), .int .u16 (be2 l 2), .slice A3 (l.drop 8).length k3] = W4 at hH4 ho4 hb4 ⊢
    go_wp2
    exact bodyPost_ret (res_cell3 Try.results54 rfl (hH4.load (P := Try.prog) 28 Try.underlying28 rfl udp_info) rfl rfl) rfl ⟨A3, k3, rfl, uOf_ok y.rng, ho4, hb4⟩
    -- END 8false

set_option maxRecDepth 100000 in
theorem parseUDP4_any (a b : List Int) (ha : a.length = 4) (hb : b.length = 4) (ra : InB a) (rb : InB b) (A : Option Addr) (c : Nat) (l : List Int) (w : World) (y : By w.heap.size w A l.length c l) :
    Calls Try.prog 26 #[.agg (u8s a).toArray, .agg (u8s b).toArray, .slice A l.length c] w fun e w' => ToldU (uGot false (pse4 a b l.length 17) l) (uNone false (pse4 a b l.length 17) l) (uErr false (pse4 a b l.length 17) l) w e w' := by
  have hB : Below w.heap.size w (((w.alloc (.cells (u8s a).toArray 34)).alloc (.cells (u8s b).toArray 34)).alloc (.cells #[.int .u16 0, .int .u16 0, .slice none 0 0] 28)) := (((Below.refl _ _).alloc (Nat.le_refl _) _).alloc (by simp) _).alloc (by simp; omega) _
  have hHa : Has (((w.alloc (.cells (u8s a).toArray 34)).alloc (.cells (u8s b).toArray 34)).alloc (.cells #[.int .u16 0, .int .u16 0, .slice none 0 0] 28)) w.heap.size (.cells (u8s a).toArray 34 (0, 0)) := ((Has.newAt rfl).alloc).alloc
  have hHb : Has (((w.alloc (.cells (u8s a).toArray 34)).alloc (.cells (u8s b).toArray 34)).alloc (.cells #[.int .u16 0, .int .u16 0, .slice none 0 0] 28)) (w.heap.size + 1) (.cells (u8s b).toArray 34 (0, 0)) := (Has.newAt (by simp)).alloc
  have hHn : Has (((w.alloc (.cells (u8s a).toArray 34)).alloc (.cells (u8s b).toArray 34)).alloc (.cells #[.int .u16 0, .int .u16 0, .slice none 0 0] 28)) (w.heap.size + 1 + 1) (.cells #[.int .u16 0, .int .u16 0, .slice none 0 0] 28 (0, 0)) := Has.newAt (by simp)
  have hia := addr4_info a ha
  have hib := addr4_info b hb
  have hpH := Lib.hid (fun g1 g2 w hA hB y => pudp4_any a b ha hb ra rb g1 g2 A c l w hA hB y)
  generalize uGot false (pse4 a b l.length 17) l = D at hpH ⊢
  generalize uNone false (pse4 a b l.length 17) l = q at hpH ⊢
  generalize uErr false (pse4 a b l.length 17) l = s at hpH ⊢
  go_enter Try.func26, Try.ntmps26
  go_wp2_with (first | (refine wpList_load_row rfl 34 (.tmp 3) rfl w.heap.size rfl 34 (u8s a).toArray (0, 0) _ hHa Try.underlying34 rfl hia ?_) | (refine wpList_load_row rfl 34 (.tmp 4) rfl (w.heap.size + 1) rfl 34 (u8s b).toArray (0, 0) _ hHb Try.underlying34 rfl hib ?_))
  refine (over4_any a b _).mono ?_
  rintro e w1 ⟨h1, h2, rfl, k1, k2, hb1⟩
  have hHn := hHn.below hb1 hHn.lt
  have hB1 := hB.trans (hb1.mono hB.size)
  clear hb1 hB hHa hHb
  have y1 := (y.below hB1 (Nat.le_refl _)).more (B' := w1.heap.size) hB1.size
  go_wp2_with fail
  refine (hpH.out h1 h2 w1 k1 k2 y1).mono ?_
  rintro e w2 ⟨A', c', rfl, hok, ho, hb2⟩
  have hH2 := hHn.below hb2 hHn.lt
  have ho2 := (ho.setRow (g := w.heap.size + 1 + 1) (cs := D.cells A' c') hHn.lt).more hB1.size
  have hB2 := (hB1.trans (hb2.mono hB1.size)).trans ((below_setRow' (w := w2) (g := w.heap.size + 1 + 1) (cs := D.cells A' c')).mono (by omega))
  clear ho hb2 hHn
  go_wp2_with (refine wpList_store_row rfl 28 (.tmp 6) (.tmp 14) rfl (w.heap.size + 1 + 1) _ rfl rfl 28 _ hH2 udp_info rfl (by simp [DU.cells, Value.oneCell']) ?_)
  exact bodyPost_ret (res_cell3 Try.results26 rfl (hH2.setRow_same.load (P := Try.prog) 28 Try.underlying28 rfl udp_info) rfl rfl) rfl ⟨A', c', rfl, hok, ho2, hB2⟩

/-- ParseUDP6 tells no bool -/
def ToldU2 (d : DU) (s : Int) (w : World) (e : Ending) (w' : World) : Prop := ∃ A c, e = .returned (.tuple #[.agg (d.cells A c), .int .i64 s]) ∧ d.ok ∧ OwnB w' w.heap.size (.slice A d.bl.length c) d.bl ∧ Below w.heap.size w w'
set_option maxRecDepth 100000 in
theorem parseUDP6_any (a b : List Int) (ha : a.length = 16) (hb : b.length = 16) (ra : InB a) (rb : InB b) (A : Option Addr) (c : Nat) (l : List Int) (w : World) (y : By w.heap.size w A l.length c l) :
    Calls Try.prog 28 #[.agg (u8s a).toArray, .agg (u8s b).toArray, .slice A l.length c] w fun e w' => ToldU2 (uGot true (pse6 a b l.length 17) l) (uErr true (pse6 a b l.length 17) l) w e w' := by
  have hB : Below w.heap.size w (((w.alloc (.cells (u8s a).toArray 36)).alloc (.cells (u8s b).toArray 36)).alloc (.cells #[.int .u16 0, .int .u16 0, .slice none 0 0] 28)) := (((Below.refl _ _).alloc (Nat.le_refl _) _).alloc (by simp) _).alloc (by simp; omega) _
  have hHa : Has (((w.alloc (.cells (u8s a).toArray 36)).alloc (.cells (u8s b).toArray 36)).alloc (.cells #[.int .u16 0, .int .u16 0, .slice none 0 0] 28)) w.heap.size (.cells (u8s a).toArray 36 (0, 0)) := ((Has.newAt rfl).alloc).alloc
  have hHb : Has (((w.alloc (.cells (u8s a).toArray 36)).alloc (.cells (u8s b).toArray 36)).alloc (.cells #[.int .u16 0, .int .u16 0, .slice none 0 0] 28)) (w.heap.size + 1) (.cells (u8s b).toArray 36 (0, 0)) := (Has.newAt (by simp)).alloc
  have hHn : Has (((w.alloc (.cells (u8s a).toArray 36)).alloc (.cells (u8s b).toArray 36)).alloc (.cells #[.int .u16 0, .int .u16 0, .slice none 0 0] 28)) (w.heap.size + 1 + 1) (.cells #[.int .u16 0, .int .u16 0, .slice none 0 0] 28 (0, 0)) := Has.newAt (by simp)
  have hia := addr6_info a ha
  have hib := addr6_info b hb
  have hpH := Lib.hid (fun g1 g2 w hA hB y => pudp6_any a b ha hb ra rb g1 g2 A c l w hA hB y)
  generalize uGot true (pse6 a b l.length 17) l = D at hpH ⊢
  generalize uNone true (pse6 a b l.length 17) l = q at hpH
  generalize uErr true (pse6 a b l.length 17) l = s at hpH ⊢
  go_enter Try.func28, Try.ntmps28
  go_wp2_with (first | (refine wpList_load_row rfl 36 (.tmp 3) rfl w.heap.size rfl 36 (u8s a).toArray (0, 0) _ hHa Try.underlying36 rfl hia ?_) | (refine wpList_load_row rfl 36 (.tmp 4) rfl (w.heap.size + 1) rfl 36 (u8s b).toArray (0, 0) _ hHb Try.underlying36 rfl hib ?_))
  refine (over6_any a b _).mono ?_
  rintro e w1 ⟨h1, h2, rfl, k1, k2, hb1⟩
  have hHn := hHn.below hb1 hHn.lt
  have hB1 := hB.trans (hb1.mono hB.size)
  clear hb1 hB hHa hHb
  have y1 := (y.below hB1 (Nat.le_refl _)).more (B' := w1.heap.size) hB1.size
  go_wp2_with fail
  refine (hpH.out h1 h2 w1 k1 k2 y1).mono ?_
  rintro e w2 ⟨A', c', rfl, hok, ho, hb2⟩
  have hH2 := hHn.below hb2 hHn.lt
  have hB2 := hB1.trans (hb2.mono hB1.size)
  have ho2 := ho
  have hlt := hHn.lt
  clear ho hb2 hHn
  have hN3 : Has (w2.alloc (.cells #[.int .u16 0, .int .u16 0, .slice none 0 0] 28)) w2.heap.size (.cells #[.int .u16 0, .int .u16 0, .slice none 0 0] 28 (0, 0)) := Has.newAt rfl
  have hw3 : Has ((w2.alloc (.cells #[.int .u16 0, .int .u16 0, .slice none 0 0] 28)).setRow w2.heap.size (D.cells A' c')) w2.heap.size (.cells (D.cells A' c') 28 (0, 0)) := hN3.setRow_same
  have hb3 : Below w2.heap.size w2 ((w2.alloc (.cells #[.int .u16 0, .int .u16 0, .slice none 0 0] 28)).setRow w2.heap.size (D.cells A' c')) := ((Below.refl _ _).alloc (Nat.le_refl _) _).trans below_setRow'
  have hH3 := hH2.below hb3 hH2.lt
  have ho3 := (ho2.below hb3)
  go_wp2_with (first
    | (refine wpList_store_row rfl 28 (.tmp 8) (.tmp 17) rfl w2.heap.size _ rfl rfl 28 _ hN3 udp_info rfl (by simp [DU.cells, Value.oneCell']) ?_)
    | (refine wpList_load_row rfl 28 (.tmp 8) rfl w2.heap.size rfl 28 (D.cells A' c') (0, 0) _ hw3 Try.underlying28 rfl udp_info ?_)
    | (refine wpList_store_row rfl 28 (.tmp 6) (.tmp 20) rfl (w.heap.size + 1 + 1) _ rfl rfl 28 _ hH3 udp_info rfl (by simp [DU.cells, Value.oneCell']) ?_))
  have ho4 := (ho3.setRow (g := w.heap.size + 1 + 1) (cs := D.cells A' c') hlt).more hB1.size
  have hB4 := (hB2.trans (hb3.mono hB2.size)).trans ((below_setRow' (w := (w2.alloc (.cells #[.int .u16 0, .int .u16 0, .slice none 0 0] 28)).setRow w2.heap.size (D.cells A' c')) (g := w.heap.size + 1 + 1) (cs := D.cells A' c')).mono (by omega))
  exact bodyPost_ret (res_cell2 Try.results28 rfl (hH3.setRow_same.load (P := Try.prog) 28 Try.underlying28 rfl udp_info) rfl) rfl ⟨A', c', rfl, hok, ho4, hB4⟩
end Go.Proofs.Ytaobnbjkhgcmlaa
