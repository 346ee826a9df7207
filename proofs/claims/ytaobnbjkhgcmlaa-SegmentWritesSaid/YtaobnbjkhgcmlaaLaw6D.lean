/-
  The walk of SegmentWrites.
-/
import Derived.Test.YtaobnbjkhgcmlaaLaw6C
import Derived.Test.YtaobnbjkhgcmlaaRwt
namespace Go.Proofs.Ytaobnbjkhgcmlaa
open Go.RowKit Go.Shelf

set_option maxRecDepth 100000 in
set_option maxHeartbeats 4000000 in
theorem writes_walk (x : DE) (u : DU) (A : Option Addr) (c : Nat) (t : DT) (p : WT) (w : World) (hx : x.ok) (ru : RdU w.heap.size w u A c) (rt : RdT w.heap.size w t p) :
    Calls Try.prog 5 #[.agg x.cells, .agg (u.cells A c), .agg (t.cells p)] w fun e w' => e = .returned (.bool true) ∧ Below w.heap.size w w' := by
  have hS0 : S6M x u A c t p none 0 [] w (((w.alloc (.cells x.cells 38)).alloc (.cells (u.cells A c) 28)).alloc (.cells (t.cells p) 26)) := ⟨((Has.newAt rfl).alloc).alloc, (Has.newAt (by simp)).alloc, Has.newAt (by simp), By.nil _ _ _ (by decide), ((((Below.refl _ _).alloc (Nat.le_refl _) _).alloc (by simp) _).alloc (by simp; omega) _)⟩
  go_enter Try.func5, Try.ntmps5
  go_wp2_with (first
    | (refine wl (.agg (u8s x.a).toArray) (by kernel_rfl) (by exact ex_loadAt (by exact rfl) (by exact rfl) (hS0.hE.loadAt (P := Try.prog) 0 (u8s x.a) (DE.at_a hx) 34 Try.underlying34 rfl (by rw [u8s_length, hx.la]; kernel_rfl))) ?_)
    | (refine wl (.agg (u8s x.b).toArray) (by kernel_rfl) (by exact ex_loadAt (by exact rfl) (by exact rfl) (hS0.hE.loadAt (P := Try.prog) 4 (u8s x.b) (DE.at_b hx) 34 Try.underlying34 rfl (by rw [u8s_length, hx.lb]; kernel_rfl))) ?_)
    | (refine wl (.agg (u.cells A c)) (by kernel_rfl) (by exact ex_load (by exact rfl) (by exact rfl) (hS0.hU.load (P := Try.prog) 28 Try.underlying28 rfl udp_info)) ?_))
  refine (writeUDP4_any x.a x.b hx.la hx.lb hx.ra hx.rb u A c _ ((ru.below hS0.bel (Nat.le_refl _)).more hS0.bel.size)).mono ?_
  rintro e w1 ⟨v, s, rfl, hs, ho, hb⟩
  obtain rfl : s = u.err := hs.out
  obtain ⟨L4, hL4⟩ : ∃ L, u.write (pse4 x.a x.b (8 + (u.bl.length : Int)) 17) = L := ⟨_, rfl⟩
  rw [hL4] at ho
  have hL4 := Lib.hid hL4
  obtain ⟨A7, c7, rfl, yu4⟩ := ho.by_
  have hS1 := hS0.keep hb
  clear hS0 hb ho hs
  go_wp2_with fail
  refine wp_region_held_drew (S := S6M x u A c t p none 0 [] w) (by kernel_rfl) (hS1.keep (below_drew _ _)) (fun hS => ?_)
  have yu4 : By w1.drew.heap.size w1.drew A7 L4.length c7 L4 := yu4.drew
  generalize w1.drew = W0 at hS yu4 ⊢
  clear hS1
  -- REGION 2
  refine tk (i := 0) (.pointer (some ⟨w.heap.size, 0, none⟩)) hS rfl (by kernel_rfl) (by kernel_rfl) (by kernel_rfl) (fun _ _ _ h => h) (by kernel_rfl) (by intro _ _; exact ex_field 0 3 (by exact rfl) Try.underlying38 (by exact rfl) rfl (by kernel_rfl) (by exact rfl)) ?_
  simp only [Act.put, List.setIfInBounds_toArray, List.set_cons_zero, List.set_cons_succ]
  refine tk (i := 1) (.slice (some ⟨w.heap.size, 0, none⟩) 4 4) hS rfl (by kernel_rfl) (by kernel_rfl) (by kernel_rfl) (fun _ _ _ h => h) (by kernel_rfl) (by intro _ _; exact ex_arr (by exact rfl) Try.underlying34 (by kernel_rfl) (by exact rfl)) ?_
  simp only [Act.put, List.setIfInBounds_toArray, List.set_cons_zero, List.set_cons_succ]
  refine tk (i := 2) (.pointer (some ⟨w.heap.size, 4, none⟩)) hS rfl (by kernel_rfl) (by kernel_rfl) (by kernel_rfl) (fun _ _ _ h => h) (by kernel_rfl) (by intro _ _; exact ex_field 4 3 (by exact rfl) Try.underlying38 (by exact rfl) rfl (by kernel_rfl) (by exact rfl)) ?_
  simp only [Act.put, List.setIfInBounds_toArray, List.set_cons_zero, List.set_cons_succ]
  refine tk (i := 3) (.slice (some ⟨w.heap.size, 4, none⟩) 4 4) hS rfl (by kernel_rfl) (by kernel_rfl) (by kernel_rfl) (fun _ _ _ h => h) (by kernel_rfl) (by intro _ _; exact ex_arr (by exact rfl) Try.underlying34 (by kernel_rfl) (by exact rfl)) ?_
  simp only [Act.put, List.setIfInBounds_toArray, List.set_cons_zero, List.set_cons_succ]
  refine tk (i := 4) (.agg (u.cells A c)) hS rfl (by kernel_rfl) (by kernel_rfl) (by kernel_rfl) (fun _ _ _ h => h) (by kernel_rfl) (by intro _ h; exact ex_load (by exact rfl) (by exact rfl) (h.hU.load (P := Try.prog) 28 Try.underlying28 rfl udp_info)) ?_
  simp only [Act.put, List.setIfInBounds_toArray, List.set_cons_zero, List.set_cons_succ]
  refine tk_one (by kernel_rfl) (op_callx (i := 5) (fun v w' => ∃ A8 c8, v = .tuple #[.slice A8 L4.length c8, .int .i64 u.err] ∧ By w'.heap.size w' A8 L4.length c8 L4 ∧ Below W0.heap.size W0 w') rfl (by kernel_rfl) (by exact ex_call (by exact rfl) Try.func23 (by kernel_rfl) (by kernel_rfl) (by simp only [List.map_toArray, List.map_cons, List.map_nil] <;> rfl)) (by refine (rwudp4_any x.a x.b hx.la hx.lb _ _ _ _ u A c _ (By.mid hS.hE hS.hE.lt 0 4 x.a hx.ra hx.la (by decide) (DE.at_a hx)) (By.mid hS.hE hS.hE.lt 4 4 x.b hx.rb hx.lb (by decide) (DE.at_b hx)) ((ru.below hS.bel (Nat.le_refl _)).more hS.bel.size)).mono fun e w' g => ?_; obtain ⟨v, s, rfl, hs, ho, hb⟩ := g; obtain rfl : s = u.err := hs.out; rw [hL4.out] at ho; obtain ⟨A8, c8, rfl, y8⟩ := ho.by_; exact ⟨_, rfl, ⟨A8, c8, rfl, y8, hb⟩, hS.keep hb⟩) ?_)
  rintro v0 W2 ⟨A9, c9, rfl, zu4, hb⟩ hS2
  have yu4 := (yu4.below hb (Nat.le_refl _)).more hb.size
  clear hb hS
  simp only [Act.put, List.setIfInBounds_toArray, List.set_cons_zero, List.set_cons_succ]
  refine tk (i := 6) (.tuple #[.slice A9 L4.length c9, .int .i64 u.err]) hS2 rfl (by kernel_rfl) (by kernel_rfl) (by kernel_rfl) (fun _ _ _ h => h) (by kernel_rfl) (by intro _ _; exact rfl) ?_
  simp only [Act.put, List.setIfInBounds_toArray, List.set_cons_zero, List.set_cons_succ]
  refine tk (i := 7) (.slice A9 L4.length c9) hS2 rfl (by kernel_rfl) (by kernel_rfl) (by kernel_rfl) (fun _ _ _ h => h) (by kernel_rfl) (by intro _ _; exact rfl) ?_
  simp only [Act.put, List.setIfInBounds_toArray, List.set_cons_zero, List.set_cons_succ]
  refine tk (i := 8) (.int .i64 u.err) hS2 rfl (by kernel_rfl) (by kernel_rfl) (by kernel_rfl) (fun _ _ _ h => h) (by kernel_rfl) (by intro _ _; exact rfl) ?_
  simp only [Act.put, List.setIfInBounds_toArray, List.set_cons_zero, List.set_cons_succ]
  refine tk (i := 9) (.slice A9 L4.length c9) hS2 rfl (by kernel_rfl) (by kernel_rfl) (by kernel_rfl) (fun _ _ _ h => h) (by kernel_rfl) (by intro _ _; exact rfl) ?_
  simp only [Act.put, List.setIfInBounds_toArray, List.set_cons_zero, List.set_cons_succ]
  refine tk (i := 10) (.int .i64 u.err) hS2 rfl (by kernel_rfl) (by kernel_rfl) (by kernel_rfl) (fun _ _ _ h => h) (by kernel_rfl) (by intro _ _; exact rfl) ?_
  simp only [Act.put, List.setIfInBounds_toArray, List.set_cons_zero, List.set_cons_succ]
  refine wpAnyH_done (by kernel_rfl) ?_ _
  skip
  -- END 2
  go_wp2_with (first
    | (refine wl (.agg (u8s x.c).toArray) (by kernel_rfl) (by exact ex_loadAt (by exact rfl) (by exact rfl) (hS2.hE.loadAt (P := Try.prog) 8 (u8s x.c) (DE.at_c hx) 36 Try.underlying36 rfl (by rw [u8s_length, hx.lc]; kernel_rfl))) ?_)
    | (refine wl (.agg (u8s x.d).toArray) (by kernel_rfl) (by exact ex_loadAt (by exact rfl) (by exact rfl) (hS2.hE.loadAt (P := Try.prog) 24 (u8s x.d) (DE.at_d hx) 36 Try.underlying36 rfl (by rw [u8s_length, hx.ld]; kernel_rfl))) ?_)
    | (refine wl (.agg (u.cells A c)) (by kernel_rfl) (by exact ex_load (by exact rfl) (by exact rfl) (hS2.hU.load (P := Try.prog) 28 Try.underlying28 rfl udp_info)) ?_))
  refine (writeUDP6_any x.c x.d hx.lc hx.ld hx.rc hx.rd u A c _ ((ru.below hS2.bel (Nat.le_refl _)).more hS2.bel.size)).mono ?_
  rintro e w3 ⟨v, s, rfl, hs, ho, hb⟩
  obtain rfl : s = u.err := hs.out
  obtain ⟨L6, hL6⟩ : ∃ L, u.write (pse6 x.c x.d (8 + (u.bl.length : Int)) 17) = L := ⟨_, rfl⟩
  rw [hL6] at ho
  have hL6 := Lib.hid hL6
  obtain ⟨A11, c11, rfl, yu6⟩ := ho.by_
  have hS3 := hS2.keep hb
  have yu4 := (yu4.below hb (Nat.le_refl _)).more hb.size
  have zu4 := (zu4.below hb (Nat.le_refl _)).more hb.size
  clear hS2 hb ho hs
  go_wp2_with fail
  refine wp_region_held_drew (S := S6M x u A c t p none 0 [] w) (by kernel_rfl) (hS3.keep (below_drew _ _)) (fun hS => ?_)
  have yu4 : By w3.drew.heap.size w3.drew A7 L4.length c7 L4 := yu4.drew
  have zu4 : By w3.drew.heap.size w3.drew A9 L4.length c9 L4 := zu4.drew
  have yu6 : By w3.drew.heap.size w3.drew A11 L6.length c11 L6 := yu6.drew
  generalize w3.drew = W0 at hS yu4 zu4 yu6 ⊢
  clear hS3
  -- REGION 4
  refine tk (i := 0) (.pointer (some ⟨w.heap.size, 8, none⟩)) hS rfl (by kernel_rfl) (by kernel_rfl) (by kernel_rfl) (fun _ _ _ h => h) (by kernel_rfl) (by intro _ _; exact ex_field 8 15 (by exact rfl) Try.underlying38 (by exact rfl) rfl (by kernel_rfl) (by exact rfl)) ?_
  simp only [Act.put, List.setIfInBounds_toArray, List.set_cons_zero, List.set_cons_succ]
  refine tk (i := 1) (.slice (some ⟨w.heap.size, 8, none⟩) 16 16) hS rfl (by kernel_rfl) (by kernel_rfl) (by kernel_rfl) (fun _ _ _ h => h) (by kernel_rfl) (by intro _ _; exact ex_arr (by exact rfl) Try.underlying36 (by kernel_rfl) (by exact rfl)) ?_
  simp only [Act.put, List.setIfInBounds_toArray, List.set_cons_zero, List.set_cons_succ]
  refine tk (i := 2) (.pointer (some ⟨w.heap.size, 24, none⟩)) hS rfl (by kernel_rfl) (by kernel_rfl) (by kernel_rfl) (fun _ _ _ h => h) (by kernel_rfl) (by intro _ _; exact ex_field 24 15 (by exact rfl) Try.underlying38 (by exact rfl) rfl (by kernel_rfl) (by exact rfl)) ?_
  simp only [Act.put, List.setIfInBounds_toArray, List.set_cons_zero, List.set_cons_succ]
  refine tk (i := 3) (.slice (some ⟨w.heap.size, 24, none⟩) 16 16) hS rfl (by kernel_rfl) (by kernel_rfl) (by kernel_rfl) (fun _ _ _ h => h) (by kernel_rfl) (by intro _ _; exact ex_arr (by exact rfl) Try.underlying36 (by kernel_rfl) (by exact rfl)) ?_
  simp only [Act.put, List.setIfInBounds_toArray, List.set_cons_zero, List.set_cons_succ]
  refine tk (i := 4) (.agg (u.cells A c)) hS rfl (by kernel_rfl) (by kernel_rfl) (by kernel_rfl) (fun _ _ _ h => h) (by kernel_rfl) (by intro _ h; exact ex_load (by exact rfl) (by exact rfl) (h.hU.load (P := Try.prog) 28 Try.underlying28 rfl udp_info)) ?_
  simp only [Act.put, List.setIfInBounds_toArray, List.set_cons_zero, List.set_cons_succ]
  refine tk_one (by kernel_rfl) (op_callx (i := 5) (fun v w' => ∃ A8 c8, v = .tuple #[.slice A8 L6.length c8, .int .i64 u.err] ∧ By w'.heap.size w' A8 L6.length c8 L6 ∧ Below W0.heap.size W0 w') rfl (by kernel_rfl) (by exact ex_call (by exact rfl) Try.func23 (by kernel_rfl) (by kernel_rfl) (by simp only [List.map_toArray, List.map_cons, List.map_nil] <;> rfl)) (by refine (rwudp6_any x.c x.d hx.lc hx.ld _ _ _ _ u A c _ (By.mid hS.hE hS.hE.lt 8 16 x.c hx.rc hx.lc (by decide) (DE.at_c hx)) (By.mid hS.hE hS.hE.lt 24 16 x.d hx.rd hx.ld (by decide) (DE.at_d hx)) ((ru.below hS.bel (Nat.le_refl _)).more hS.bel.size)).mono fun e w' g => ?_; obtain ⟨v, s, rfl, hs, ho, hb⟩ := g; obtain rfl : s = u.err := hs.out; rw [hL6.out] at ho; obtain ⟨A8, c8, rfl, y8⟩ := ho.by_; exact ⟨_, rfl, ⟨A8, c8, rfl, y8, hb⟩, hS.keep hb⟩) ?_)
  rintro v0 W4 ⟨A13, c13, rfl, zu6, hb⟩ hS4
  have yu4 := (yu4.below hb (Nat.le_refl _)).more hb.size
  have zu4 := (zu4.below hb (Nat.le_refl _)).more hb.size
  have yu6 := (yu6.below hb (Nat.le_refl _)).more hb.size
  clear hb hS
  simp only [Act.put, List.setIfInBounds_toArray, List.set_cons_zero, List.set_cons_succ]
  refine tk (i := 6) (.tuple #[.slice A13 L6.length c13, .int .i64 u.err]) hS4 rfl (by kernel_rfl) (by kernel_rfl) (by kernel_rfl) (fun _ _ _ h => h) (by kernel_rfl) (by intro _ _; exact rfl) ?_
  simp only [Act.put, List.setIfInBounds_toArray, List.set_cons_zero, List.set_cons_succ]
  refine tk (i := 7) (.slice A13 L6.length c13) hS4 rfl (by kernel_rfl) (by kernel_rfl) (by kernel_rfl) (fun _ _ _ h => h) (by kernel_rfl) (by intro _ _; exact rfl) ?_
  simp only [Act.put, List.setIfInBounds_toArray, List.set_cons_zero, List.set_cons_succ]
  refine tk (i := 8) (.int .i64 u.err) hS4 rfl (by kernel_rfl) (by kernel_rfl) (by kernel_rfl) (fun _ _ _ h => h) (by kernel_rfl) (by intro _ _; exact rfl) ?_
  simp only [Act.put, List.setIfInBounds_toArray, List.set_cons_zero, List.set_cons_succ]
  refine tk (i := 9) (.slice A13 L6.length c13) hS4 rfl (by kernel_rfl) (by kernel_rfl) (by kernel_rfl) (fun _ _ _ h => h) (by kernel_rfl) (by intro _ _; exact rfl) ?_
  simp only [Act.put, List.setIfInBounds_toArray, List.set_cons_zero, List.set_cons_succ]
  refine tk (i := 10) (.int .i64 u.err) hS4 rfl (by kernel_rfl) (by kernel_rfl) (by kernel_rfl) (fun _ _ _ h => h) (by kernel_rfl) (by intro _ _; exact rfl) ?_
  simp only [Act.put, List.setIfInBounds_toArray, List.set_cons_zero, List.set_cons_succ]
  refine wpAnyH_done (by kernel_rfl) ?_ _
  skip
  -- END 4
  have kyu4 := yu4.conv (P := Try.prog) 24 9 Try.underlying24 Try.underlying5 Try.underlying9
  have kzu4 := zu4.conv (P := Try.prog) 24 9 Try.underlying24 Try.underlying5 Try.underlying9
  have kyu6 := yu6.conv (P := Try.prog) 24 9 Try.underlying24 Try.underlying5 Try.underlying9
  have kzu6 := zu6.conv (P := Try.prog) 24 9 Try.underlying24 Try.underlying5 Try.underlying9
  have hS4' := hS4
  clear hS4
  have hS4 := hS4'
  go_wp2_with (first
    | (refine wl (.agg (u8s x.a).toArray) (by kernel_rfl) (by exact ex_loadAt (by exact rfl) (by exact rfl) (hS4.hE.loadAt (P := Try.prog) 0 (u8s x.a) (DE.at_a hx) 34 Try.underlying34 rfl (by rw [u8s_length, hx.la]; kernel_rfl))) ?_)
    | (refine wl (.agg (u8s x.b).toArray) (by kernel_rfl) (by exact ex_loadAt (by exact rfl) (by exact rfl) (hS4.hE.loadAt (P := Try.prog) 4 (u8s x.b) (DE.at_b hx) 34 Try.underlying34 rfl (by rw [u8s_length, hx.lb]; kernel_rfl))) ?_)
    | (refine wl (.agg (t.cells p)) (by kernel_rfl) (by exact ex_load (by exact rfl) (by exact rfl) (hS4.hT.load (P := Try.prog) 26 Try.underlying26 rfl tcp_info)) ?_))
  refine (writeTCP4_any x.a x.b hx.la hx.lb hx.ra hx.rb t p _ ((rt.below hS4.bel (Nat.le_refl _)).more hS4.bel.size)).mono ?_
  rintro e w5 ⟨v, s, rfl, hs, ho, hb⟩
  obtain rfl : s = t.check := hs.out
  obtain ⟨M4, hM4⟩ : ∃ L, t.write (pse4 x.a x.b (20 + (t.ol.length : Int) + (t.bl.length : Int)) 6) = L := ⟨_, rfl⟩
  rw [hM4] at ho
  have hM4 := Lib.hid hM4
  obtain ⟨B7, d7, rfl, yt4⟩ := ho.by_
  have hS5 := hS4.keep hb
  clear hS4 hb ho hs
  go_wp2_with fail
  refine wp_region_held_drew (S := S6M x u A c t p none 0 [] w) (by kernel_rfl) (hS5.keep (below_drew _ _)) (fun hS => ?_)
  have yt4 : By w5.drew.heap.size w5.drew B7 M4.length d7 M4 := yt4.drew
  generalize w5.drew = W0 at hS yt4 ⊢
  clear hS5
  -- REGION 8
  refine tk (i := 0) (.pointer (some ⟨w.heap.size, 0, none⟩)) hS rfl (by kernel_rfl) (by kernel_rfl) (by kernel_rfl) (fun _ _ _ h => h) (by kernel_rfl) (by intro _ _; exact ex_field 0 3 (by exact rfl) Try.underlying38 (by exact rfl) rfl (by kernel_rfl) (by exact rfl)) ?_
  simp only [Act.put, List.setIfInBounds_toArray, List.set_cons_zero, List.set_cons_succ]
  refine tk (i := 1) (.slice (some ⟨w.heap.size, 0, none⟩) 4 4) hS rfl (by kernel_rfl) (by kernel_rfl) (by kernel_rfl) (fun _ _ _ h => h) (by kernel_rfl) (by intro _ _; exact ex_arr (by exact rfl) Try.underlying34 (by kernel_rfl) (by exact rfl)) ?_
  simp only [Act.put, List.setIfInBounds_toArray, List.set_cons_zero, List.set_cons_succ]
  refine tk (i := 2) (.pointer (some ⟨w.heap.size, 4, none⟩)) hS rfl (by kernel_rfl) (by kernel_rfl) (by kernel_rfl) (fun _ _ _ h => h) (by kernel_rfl) (by intro _ _; exact ex_field 4 3 (by exact rfl) Try.underlying38 (by exact rfl) rfl (by kernel_rfl) (by exact rfl)) ?_
  simp only [Act.put, List.setIfInBounds_toArray, List.set_cons_zero, List.set_cons_succ]
  refine tk (i := 3) (.slice (some ⟨w.heap.size, 4, none⟩) 4 4) hS rfl (by kernel_rfl) (by kernel_rfl) (by kernel_rfl) (fun _ _ _ h => h) (by kernel_rfl) (by intro _ _; exact ex_arr (by exact rfl) Try.underlying34 (by kernel_rfl) (by exact rfl)) ?_
  simp only [Act.put, List.setIfInBounds_toArray, List.set_cons_zero, List.set_cons_succ]
  refine tk (i := 4) (.agg (t.cells p)) hS rfl (by kernel_rfl) (by kernel_rfl) (by kernel_rfl) (fun _ _ _ h => h) (by kernel_rfl) (by intro _ h; exact ex_load (by exact rfl) (by exact rfl) (h.hT.load (P := Try.prog) 26 Try.underlying26 rfl tcp_info)) ?_
  simp only [Act.put, List.setIfInBounds_toArray, List.set_cons_zero, List.set_cons_succ]
  refine tk_one (by kernel_rfl) (op_callx (i := 5) (fun v w' => ∃ A8 c8, v = .tuple #[.slice A8 M4.length c8, .int .i64 t.check] ∧ By w'.heap.size w' A8 M4.length c8 M4 ∧ Below W0.heap.size W0 w') rfl (by kernel_rfl) (by exact ex_call (by exact rfl) Try.func24 (by kernel_rfl) (by kernel_rfl) (by simp only [List.map_toArray, List.map_cons, List.map_nil] <;> rfl)) (by refine (rwtcp4_any x.a x.b hx.la hx.lb _ _ _ _ t p _ (By.mid hS.hE hS.hE.lt 0 4 x.a hx.ra hx.la (by decide) (DE.at_a hx)) (By.mid hS.hE hS.hE.lt 4 4 x.b hx.rb hx.lb (by decide) (DE.at_b hx)) ((rt.below hS.bel (Nat.le_refl _)).more hS.bel.size)).mono fun e w' g => ?_; obtain ⟨v, s, rfl, hs, ho, hb⟩ := g; obtain rfl : s = t.check := hs.out; rw [hM4.out] at ho; obtain ⟨A8, c8, rfl, y8⟩ := ho.by_; exact ⟨_, rfl, ⟨A8, c8, rfl, y8, hb⟩, hS.keep hb⟩) ?_)
  rintro v0 W6 ⟨B9, d9, rfl, zt4, hb⟩ hS6
  have yt4 := (yt4.below hb (Nat.le_refl _)).more hb.size
  clear hb hS
  simp only [Act.put, List.setIfInBounds_toArray, List.set_cons_zero, List.set_cons_succ]
  refine tk (i := 6) (.tuple #[.slice B9 M4.length d9, .int .i64 t.check]) hS6 rfl (by kernel_rfl) (by kernel_rfl) (by kernel_rfl) (fun _ _ _ h => h) (by kernel_rfl) (by intro _ _; exact rfl) ?_
  simp only [Act.put, List.setIfInBounds_toArray, List.set_cons_zero, List.set_cons_succ]
  refine tk (i := 7) (.slice B9 M4.length d9) hS6 rfl (by kernel_rfl) (by kernel_rfl) (by kernel_rfl) (fun _ _ _ h => h) (by kernel_rfl) (by intro _ _; exact rfl) ?_
  simp only [Act.put, List.setIfInBounds_toArray, List.set_cons_zero, List.set_cons_succ]
  refine tk (i := 8) (.int .i64 t.check) hS6 rfl (by kernel_rfl) (by kernel_rfl) (by kernel_rfl) (fun _ _ _ h => h) (by kernel_rfl) (by intro _ _; exact rfl) ?_
  simp only [Act.put, List.setIfInBounds_toArray, List.set_cons_zero, List.set_cons_succ]
  refine tk (i := 9) (.slice B9 M4.length d9) hS6 rfl (by kernel_rfl) (by kernel_rfl) (by kernel_rfl) (fun _ _ _ h => h) (by kernel_rfl) (by intro _ _; exact rfl) ?_
  simp only [Act.put, List.setIfInBounds_toArray, List.set_cons_zero, List.set_cons_succ]
  refine tk (i := 10) (.int .i64 t.check) hS6 rfl (by kernel_rfl) (by kernel_rfl) (by kernel_rfl) (fun _ _ _ h => h) (by kernel_rfl) (by intro _ _; exact rfl) ?_
  simp only [Act.put, List.setIfInBounds_toArray, List.set_cons_zero, List.set_cons_succ]
  refine wpAnyH_done (by kernel_rfl) ?_ _
  skip
  -- END 8
  go_wp2_with (first
    | (refine wl (.agg (u8s x.c).toArray) (by kernel_rfl) (by exact ex_loadAt (by exact rfl) (by exact rfl) (hS6.hE.loadAt (P := Try.prog) 8 (u8s x.c) (DE.at_c hx) 36 Try.underlying36 rfl (by rw [u8s_length, hx.lc]; kernel_rfl))) ?_)
    | (refine wl (.agg (u8s x.d).toArray) (by kernel_rfl) (by exact ex_loadAt (by exact rfl) (by exact rfl) (hS6.hE.loadAt (P := Try.prog) 24 (u8s x.d) (DE.at_d hx) 36 Try.underlying36 rfl (by rw [u8s_length, hx.ld]; kernel_rfl))) ?_)
    | (refine wl (.agg (t.cells p)) (by kernel_rfl) (by exact ex_load (by exact rfl) (by exact rfl) (hS6.hT.load (P := Try.prog) 26 Try.underlying26 rfl tcp_info)) ?_))
  refine (writeTCP6_any x.c x.d hx.lc hx.ld hx.rc hx.rd t p _ ((rt.below hS6.bel (Nat.le_refl _)).more hS6.bel.size)).mono ?_
  rintro e w7 ⟨v, s, rfl, hs, ho, hb⟩
  obtain rfl : s = t.check := hs.out
  obtain ⟨M6, hM6⟩ : ∃ L, t.write (pse6 x.c x.d (20 + (t.ol.length : Int) + (t.bl.length : Int)) 6) = L := ⟨_, rfl⟩
  rw [hM6] at ho
  have hM6 := Lib.hid hM6
  obtain ⟨B11, d11, rfl, yt6⟩ := ho.by_
  have hS7 := hS6.keep hb
  have yt4 := (yt4.below hb (Nat.le_refl _)).more hb.size
  have zt4 := (zt4.below hb (Nat.le_refl _)).more hb.size
  clear hS6 hb ho hs
  go_wp2_with fail
  refine wp_region_held_drew (S := S6M x u A c t p none 0 [] w) (by kernel_rfl) (hS7.keep (below_drew _ _)) (fun hS => ?_)
  have yt4 : By w7.drew.heap.size w7.drew B7 M4.length d7 M4 := yt4.drew
  have zt4 : By w7.drew.heap.size w7.drew B9 M4.length d9 M4 := zt4.drew
  have yt6 : By w7.drew.heap.size w7.drew B11 M6.length d11 M6 := yt6.drew
  generalize w7.drew = W0 at hS yt4 zt4 yt6 ⊢
  clear hS7
  -- REGION 10
  refine tk (i := 0) (.pointer (some ⟨w.heap.size, 8, none⟩)) hS rfl (by kernel_rfl) (by kernel_rfl) (by kernel_rfl) (fun _ _ _ h => h) (by kernel_rfl) (by intro _ _; exact ex_field 8 15 (by exact rfl) Try.underlying38 (by exact rfl) rfl (by kernel_rfl) (by exact rfl)) ?_
  simp only [Act.put, List.setIfInBounds_toArray, List.set_cons_zero, List.set_cons_succ]
  refine tk (i := 1) (.slice (some ⟨w.heap.size, 8, none⟩) 16 16) hS rfl (by kernel_rfl) (by kernel_rfl) (by kernel_rfl) (fun _ _ _ h => h) (by kernel_rfl) (by intro _ _; exact ex_arr (by exact rfl) Try.underlying36 (by kernel_rfl) (by exact rfl)) ?_
  simp only [Act.put, List.setIfInBounds_toArray, List.set_cons_zero, List.set_cons_succ]
  refine tk (i := 2) (.pointer (some ⟨w.heap.size, 24, none⟩)) hS rfl (by kernel_rfl) (by kernel_rfl) (by kernel_rfl) (fun _ _ _ h => h) (by kernel_rfl) (by intro _ _; exact ex_field 24 15 (by exact rfl) Try.underlying38 (by exact rfl) rfl (by kernel_rfl) (by exact rfl)) ?_
  simp only [Act.put, List.setIfInBounds_toArray, List.set_cons_zero, List.set_cons_succ]
  refine tk (i := 3) (.slice (some ⟨w.heap.size, 24, none⟩) 16 16) hS rfl (by kernel_rfl) (by kernel_rfl) (by kernel_rfl) (fun _ _ _ h => h) (by kernel_rfl) (by intro _ _; exact ex_arr (by exact rfl) Try.underlying36 (by kernel_rfl) (by exact rfl)) ?_
  simp only [Act.put, List.setIfInBounds_toArray, List.set_cons_zero, List.set_cons_succ]
  refine tk (i := 4) (.agg (t.cells p)) hS rfl (by kernel_rfl) (by kernel_rfl) (by kernel_rfl) (fun _ _ _ h => h) (by kernel_rfl) (by intro _ h; exact ex_load (by exact rfl) (by exact rfl) (h.hT.load (P := Try.prog) 26 Try.underlying26 rfl tcp_info)) ?_
  simp only [Act.put, List.setIfInBounds_toArray, List.set_cons_zero, List.set_cons_succ]
  refine tk_one (by kernel_rfl) (op_callx (i := 5) (fun v w' => ∃ A8 c8, v = .tuple #[.slice A8 M6.length c8, .int .i64 t.check] ∧ By w'.heap.size w' A8 M6.length c8 M6 ∧ Below W0.heap.size W0 w') rfl (by kernel_rfl) (by exact ex_call (by exact rfl) Try.func24 (by kernel_rfl) (by kernel_rfl) (by simp only [List.map_toArray, List.map_cons, List.map_nil] <;> rfl)) (by refine (rwtcp6_any x.c x.d hx.lc hx.ld _ _ _ _ t p _ (By.mid hS.hE hS.hE.lt 8 16 x.c hx.rc hx.lc (by decide) (DE.at_c hx)) (By.mid hS.hE hS.hE.lt 24 16 x.d hx.rd hx.ld (by decide) (DE.at_d hx)) ((rt.below hS.bel (Nat.le_refl _)).more hS.bel.size)).mono fun e w' g => ?_; obtain ⟨v, s, rfl, hs, ho, hb⟩ := g; obtain rfl : s = t.check := hs.out; rw [hM6.out] at ho; obtain ⟨A8, c8, rfl, y8⟩ := ho.by_; exact ⟨_, rfl, ⟨A8, c8, rfl, y8, hb⟩, hS.keep hb⟩) ?_)
  rintro v0 W8 ⟨B13, d13, rfl, zt6, hb⟩ hS8
  have yt4 := (yt4.below hb (Nat.le_refl _)).more hb.size
  have zt4 := (zt4.below hb (Nat.le_refl _)).more hb.size
  have yt6 := (yt6.below hb (Nat.le_refl _)).more hb.size
  clear hb hS
  simp only [Act.put, List.setIfInBounds_toArray, List.set_cons_zero, List.set_cons_succ]
  refine tk (i := 6) (.tuple #[.slice B13 M6.length d13, .int .i64 t.check]) hS8 rfl (by kernel_rfl) (by kernel_rfl) (by kernel_rfl) (fun _ _ _ h => h) (by kernel_rfl) (by intro _ _; exact rfl) ?_
  simp only [Act.put, List.setIfInBounds_toArray, List.set_cons_zero, List.set_cons_succ]
  refine tk (i := 7) (.slice B13 M6.length d13) hS8 rfl (by kernel_rfl) (by kernel_rfl) (by kernel_rfl) (fun _ _ _ h => h) (by kernel_rfl) (by intro _ _; exact rfl) ?_
  simp only [Act.put, List.setIfInBounds_toArray, List.set_cons_zero, List.set_cons_succ]
  refine tk (i := 8) (.int .i64 t.check) hS8 rfl (by kernel_rfl) (by kernel_rfl) (by kernel_rfl) (fun _ _ _ h => h) (by kernel_rfl) (by intro _ _; exact rfl) ?_
  simp only [Act.put, List.setIfInBounds_toArray, List.set_cons_zero, List.set_cons_succ]
  refine tk (i := 9) (.slice B13 M6.length d13) hS8 rfl (by kernel_rfl) (by kernel_rfl) (by kernel_rfl) (fun _ _ _ h => h) (by kernel_rfl) (by intro _ _; exact rfl) ?_
  simp only [Act.put, List.setIfInBounds_toArray, List.set_cons_zero, List.set_cons_succ]
  refine tk (i := 10) (.int .i64 t.check) hS8 rfl (by kernel_rfl) (by kernel_rfl) (by kernel_rfl) (fun _ _ _ h => h) (by kernel_rfl) (by intro _ _; exact rfl) ?_
  simp only [Act.put, List.setIfInBounds_toArray, List.set_cons_zero, List.set_cons_succ]
  refine wpAnyH_done (by kernel_rfl) ?_ _
  skip
  -- END 10
  have kyt4 := yt4.conv (P := Try.prog) 24 9 Try.underlying24 Try.underlying5 Try.underlying9
  have kzt4 := zt4.conv (P := Try.prog) 24 9 Try.underlying24 Try.underlying5 Try.underlying9
  have kyt6 := yt6.conv (P := Try.prog) 24 9 Try.underlying24 Try.underlying5 Try.underlying9
  have kzt6 := zt6.conv (P := Try.prog) 24 9 Try.underlying24 Try.underlying5 Try.underlying9
  go_wp2_with fail
  refine (awake_any _).mono ?_
  rintro e w9 ⟨rfl, hb⟩
  go_wp2
  go_ret
  exact ⟨rfl, hS8.bel.trans (hb.mono hS8.bel.size)⟩
end Go.Proofs.Ytaobnbjkhgcmlaa
