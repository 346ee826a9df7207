/-
  The walks of segment.WriteUDP4, WriteUDP6.
-/
import Derived.Test.YtaobnbjkhgcmlaaSg4
import Derived.Test.YtaobnbjkhgcmlaaSg6
namespace Go.Proofs.Ytaobnbjkhgcmlaa
open Go.RowKit Go.Shelf

theorem over4_any (a b : List Int) (w : World) :
    Calls Try.prog 50 #[.agg (u8s a).toArray, .agg (u8s b).toArray] w fun e w' => ∃ h1 h2, e = .returned (.func (.func 68) #[] #[.pointer (some ⟨h1, 0, none⟩), .pointer (some ⟨h2, 0, none⟩)]) ∧ Has w' h1 (.cells (u8s a).toArray 34 (0, 0)) ∧ Has w' h2 (.cells (u8s b).toArray 34 (0, 0)) ∧ Below w.heap.size w w' := by
  go_enter Try.func50, Try.ntmps50
  go_wp2
  go_ret
  exact ⟨_, _, rfl, (Has.newAt rfl).alloc, Has.newAt (by simp), ((Below.refl _ _).alloc (Nat.le_refl _) _).alloc (by simp) _⟩

theorem wudp4_err (f : Value) (u : DU) (A : Option Addr) (c : Nat) (w : World) (hb : u.bl.length ≤ 9223372036854775807) (h0 : 65527 < u.bl.length) :
    Calls Try.prog 42 #[f, .agg (u.cells A c)] w fun e w' => e = .returned (.tuple #[.slice none 0 0, .int .i64 2]) ∧ Below w.heap.size w w' := by
  unfold DU.cells
  go_enter Try.func42, Try.ntmps42
  go_wp2
  go_ret2
  exact ⟨rfl, (Below.refl _ _).alloc (Nat.le_refl _) _⟩

theorem wudp4_any (a b : List Int) (ha : a.length = 4) (hb : b.length = 4) (ra : InB a) (rb : InB b) (g1 g2 : Nat) (u : DU) (A : Option Addr) (c : Nat) (w : World) (hA : Has w g1 (.cells (u8s a).toArray 34 (0, 0))) (hB : Has w g2 (.cells (u8s b).toArray 34 (0, 0))) (hR : RdU w.heap.size w u A c) :
    Calls Try.prog 42 #[.func (.func 68) #[] #[.pointer (some ⟨g1, 0, none⟩), .pointer (some ⟨g2, 0, none⟩)], .agg (u.cells A c)] w fun e w' => ∃ v s, e = .returned (.tuple #[v, .int .i64 s]) ∧ Hid (s = u.err) ∧ OwnB w' w.heap.size v (u.write (pse4 a b (8 + u.bl.length) 17)) ∧ Below w.heap.size w w' := by
  have hbig := Nat.le_trans hR.body.cap hR.body.big
  by_cases h0 : 65527 < u.bl.length
  · refine (wudp4_err _ u A c w hbig h0).mono ?_
    rintro e w' ⟨rfl, hb⟩
    refine ⟨_, _, rfl, Lib.hid (if_pos h0).symm, ?_, hb⟩
    rw [show u.write (pse4 a b (8 + u.bl.length) 17) = [] from if_pos h0]
    exact OwnB.nil _ _
  · refine (wudp4_ok a b ha hb ra rb g1 g2 u A c w hA hB hR (by omega)).mono ?_
    rintro e w' ⟨v, rfl, ho, hb⟩
    refine ⟨v, 0, rfl, Lib.hid (if_neg h0).symm, ?_, hb⟩
    rw [show u.write (pse4 a b (8 + u.bl.length) 17) = u.bytes (pse4 a b (8 + u.bl.length) 17) from if_neg h0]
    exact ho

/-- what the region of WriteUDP4 leans on -/
structure SU4 (a b : List Int) (u : DU) (A : Option Addr) (c : Nat) (w w' : World) : Prop where
  hA : Has w' w.heap.size (.cells (u8s a).toArray 34 (0, 0))
  hB : Has w' (w.heap.size + 1) (.cells (u8s b).toArray 34 (0, 0))
  hU : Has w' (w.heap.size + 1 + 1) (.cells (u.cells A c) 28 (0, 0))
  bel : Below w.heap.size w w'
theorem SU4.keep {a b : List Int} {u : DU} {A : Option Addr} {c : Nat} {w w' w'' : World} (h : SU4 a b u A c w w') (hb : Below w'.heap.size w' w'') : SU4 a b u A c w w'' :=
  ⟨h.hA.below hb h.hA.lt, h.hB.below hb h.hB.lt, h.hU.below hb h.hU.lt, h.bel.trans (hb.mono h.bel.size)⟩
theorem udp_info : (Try.prog.info? 28).map (·.size) = some 3 := by kernel_rfl

set_option maxRecDepth 100000 in
theorem writeUDP4_any (a b : List Int) (ha : a.length = 4) (hb : b.length = 4) (ra : InB a) (rb : InB b) (u : DU) (A : Option Addr) (c : Nat) (w : World) (hR : RdU w.heap.size w u A c) :
    Calls Try.prog 22 #[.agg (u8s a).toArray, .agg (u8s b).toArray, .agg (u.cells A c)] w fun e w' => ∃ v s, e = .returned (.tuple #[v, .int .i64 s]) ∧ Hid (s = u.err) ∧ OwnB w' w.heap.size v (u.write (pse4 a b (8 + u.bl.length) 17)) ∧ Below w.heap.size w w' := by
  have hia := addr4_info a ha
  have hib := addr4_info b hb
  have hS0 : SU4 a b u A c w (((w.alloc (.cells (u8s a).toArray 34)).alloc (.cells (u8s b).toArray 34)).alloc (.cells (u.cells A c) 28)).drew := ⟨((Has.newAt rfl).alloc).alloc, (Has.newAt (by simp)).alloc, Has.newAt (by simp), ((((Below.refl _ _).alloc (Nat.le_refl _) _).alloc (by simp) _).alloc (by simp; omega) _).trans (below_drew _ _)⟩
  go_enter Try.func22, Try.ntmps22
  go_wp2
  refine wp_region_held_drew (S := SU4 a b u A c w) (by kernel_rfl) hS0 (fun hS => ?_)
  -- REGION 4
  refine tk (i := 0) (.agg (u8s a).toArray) hS rfl (by kernel_rfl) (by kernel_rfl) (by kernel_rfl) (fun _ _ _ h => h) (by kernel_rfl) (by intro _ h; exact ex_load (by exact rfl) (by exact rfl) (h.hA.load (P := Try.prog) 34 Try.underlying34 rfl hia)) ?_
  simp only [Act.put, List.setIfInBounds_toArray, List.set_cons_zero, List.set_cons_succ]
  refine tk (i := 1) (.agg (u8s b).toArray) hS rfl (by kernel_rfl) (by kernel_rfl) (by kernel_rfl) (fun _ _ _ h => h) (by kernel_rfl) (by intro _ h; exact ex_load (by exact rfl) (by exact rfl) (h.hB.load (P := Try.prog) 34 Try.underlying34 rfl hib)) ?_
  simp only [Act.put, List.setIfInBounds_toArray, List.set_cons_zero, List.set_cons_succ]
  refine tk (i := 3) (.agg (u.cells A c)) hS rfl (by kernel_rfl) (by kernel_rfl) (by kernel_rfl) (fun _ _ _ h => h) (by kernel_rfl) (by intro _ h; exact ex_load (by exact rfl) (by exact rfl) (h.hU.load (P := Try.prog) 28 Try.underlying28 rfl udp_info)) ?_
  simp only [Act.put, List.setIfInBounds_toArray, List.set_cons_zero, List.set_cons_succ]
  refine tk_callx (i := 2) (fun v w' => ∃ h1 h2, v = .func (.func 68) #[] #[.pointer (some ⟨h1, 0, none⟩), .pointer (some ⟨h2, 0, none⟩)] ∧ Has w' h1 (.cells (u8s a).toArray 34 (0, 0)) ∧ Has w' h2 (.cells (u8s b).toArray 34 (0, 0))) (by kernel_rfl) rfl (by kernel_rfl) (by exact ex_call (by exact rfl) Try.func50 (by kernel_rfl) (by kernel_rfl) (by simp only [List.map_toArray, List.map_cons, List.map_nil] <;> rfl)) (by refine (over4_any a b _).mono fun e w' g => ?_; obtain ⟨h1, h2, rfl, k1, k2, k3⟩ := g; exact ⟨_, rfl, ⟨h1, h2, rfl, k1, k2⟩, hS.keep k3⟩) ?_
  rintro v1 W1 ⟨h1, h2, rfl, k1, k2⟩ hS1
  simp only [Act.put, List.setIfInBounds_toArray, List.set_cons_zero, List.set_cons_succ]
  refine tk_callx (i := 4) (fun v w' => ∃ v0 s, v = .tuple #[v0, .int .i64 s] ∧ Hid (s = u.err) ∧ OwnB w' w.heap.size v0 (u.write (pse4 a b (8 + u.bl.length) 17))) (by kernel_rfl) rfl (by kernel_rfl) (by exact ex_call (by exact rfl) Try.func42 (by kernel_rfl) (by kernel_rfl) (by simp only [List.map_toArray, List.map_cons, List.map_nil] <;> rfl)) (by refine (wudp4_any a b ha hb ra rb h1 h2 u A c _ k1 k2 ((hR.below hS1.bel (Nat.le_refl _)).more hS1.bel.size)).mono fun e w' g => ?_; obtain ⟨v0, s, rfl, j1, j2, j3⟩ := g; exact ⟨_, rfl, ⟨v0, s, rfl, j1, j2.more hS1.bel.size⟩, hS1.keep j3⟩) ?_
  rintro v2 W2 ⟨v0, s, rfl, j1, j2⟩ hS2
  obtain ⟨A0, c0, rfl, _⟩ := own_shape j2.own
  simp only [Act.put, List.setIfInBounds_toArray, List.set_cons_zero, List.set_cons_succ]
  refine tk (i := 5) (.slice A0 (u.write (pse4 a b (8 + u.bl.length) 17)).length c0) hS2 rfl (by kernel_rfl) (by kernel_rfl) (by kernel_rfl) (fun _ _ _ h => h) (by kernel_rfl) (by intro _ _; exact rfl) ?_
  simp only [Act.put, List.setIfInBounds_toArray, List.set_cons_zero, List.set_cons_succ]
  refine tk (i := 6) (.int .i64 s) hS2 rfl (by kernel_rfl) (by kernel_rfl) (by kernel_rfl) (fun _ _ _ h => h) (by kernel_rfl) (by intro _ _; exact rfl) ?_
  simp only [Act.put, List.setIfInBounds_toArray, List.set_cons_zero, List.set_cons_succ]
  refine tk (i := 7) (.slice A0 (u.write (pse4 a b (8 + u.bl.length) 17)).length c0) hS2 rfl (by kernel_rfl) (by kernel_rfl) (by kernel_rfl) (fun _ _ _ h => h) (by kernel_rfl) (by intro _ _; exact rfl) ?_
  simp only [Act.put, List.setIfInBounds_toArray, List.set_cons_zero, List.set_cons_succ]
  refine tk (i := 8) (.int .i64 s) hS2 rfl (by kernel_rfl) (by kernel_rfl) (by kernel_rfl) (fun _ _ _ h => h) (by kernel_rfl) (by intro _ _; exact rfl) ?_
  simp only [Act.put, List.setIfInBounds_toArray, List.set_cons_zero, List.set_cons_succ]
  refine wpAnyH_done (by kernel_rfl) ?_ _
  go_wp2
  go_ret2
  exact ⟨_, _, rfl, j1, j2, hS2.bel⟩
  -- END 4

theorem over6_any (a b : List Int) (w : World) :
    Calls Try.prog 43 #[.agg (u8s a).toArray, .agg (u8s b).toArray] w fun e w' => ∃ h1 h2, e = .returned (.func (.func 65) #[] #[.pointer (some ⟨h1, 0, none⟩), .pointer (some ⟨h2, 0, none⟩)]) ∧ Has w' h1 (.cells (u8s a).toArray 36 (0, 0)) ∧ Has w' h2 (.cells (u8s b).toArray 36 (0, 0)) ∧ Below w.heap.size w w' := by
  go_enter Try.func43, Try.ntmps43
  go_wp2
  go_ret
  exact ⟨_, _, rfl, (Has.newAt rfl).alloc, Has.newAt (by simp), ((Below.refl _ _).alloc (Nat.le_refl _) _).alloc (by simp) _⟩

theorem wudp6_err (f : Value) (u : DU) (A : Option Addr) (c : Nat) (w : World) (hb : u.bl.length ≤ 9223372036854775807) (h0 : 65527 < u.bl.length) :
    Calls Try.prog 42 #[f, .agg (u.cells A c)] w fun e w' => e = .returned (.tuple #[.slice none 0 0, .int .i64 2]) ∧ Below w.heap.size w w' := by
  unfold DU.cells
  go_enter Try.func42, Try.ntmps42
  go_wp2
  go_ret2
  exact ⟨rfl, (Below.refl _ _).alloc (Nat.le_refl _) _⟩

theorem wudp6_any (a b : List Int) (ha : a.length = 16) (hb : b.length = 16) (ra : InB a) (rb : InB b) (g1 g2 : Nat) (u : DU) (A : Option Addr) (c : Nat) (w : World) (hA : Has w g1 (.cells (u8s a).toArray 36 (0, 0))) (hB : Has w g2 (.cells (u8s b).toArray 36 (0, 0))) (hR : RdU w.heap.size w u A c) :
    Calls Try.prog 42 #[.func (.func 65) #[] #[.pointer (some ⟨g1, 0, none⟩), .pointer (some ⟨g2, 0, none⟩)], .agg (u.cells A c)] w fun e w' => ∃ v s, e = .returned (.tuple #[v, .int .i64 s]) ∧ Hid (s = u.err) ∧ OwnB w' w.heap.size v (u.write (pse6 a b (8 + u.bl.length) 17)) ∧ Below w.heap.size w w' := by
  have hbig := Nat.le_trans hR.body.cap hR.body.big
  by_cases h0 : 65527 < u.bl.length
  · refine (wudp6_err _ u A c w hbig h0).mono ?_
    rintro e w' ⟨rfl, hb⟩
    refine ⟨_, _, rfl, Lib.hid (if_pos h0).symm, ?_, hb⟩
    rw [show u.write (pse6 a b (8 + u.bl.length) 17) = [] from if_pos h0]
    exact OwnB.nil _ _
  · refine (wudp6_ok a b ha hb ra rb g1 g2 u A c w hA hB hR (by omega)).mono ?_
    rintro e w' ⟨v, rfl, ho, hb⟩
    refine ⟨v, 0, rfl, Lib.hid (if_neg h0).symm, ?_, hb⟩
    rw [show u.write (pse6 a b (8 + u.bl.length) 17) = u.bytes (pse6 a b (8 + u.bl.length) 17) from if_neg h0]
    exact ho

/-- what the region of WriteUDP6 leans on -/
structure SU6 (a b : List Int) (u : DU) (A : Option Addr) (c : Nat) (w w' : World) : Prop where
  hA : Has w' w.heap.size (.cells (u8s a).toArray 36 (0, 0))
  hB : Has w' (w.heap.size + 1) (.cells (u8s b).toArray 36 (0, 0))
  hU : Has w' (w.heap.size + 1 + 1) (.cells (u.cells A c) 28 (0, 0))
  bel : Below w.heap.size w w'
theorem SU6.keep {a b : List Int} {u : DU} {A : Option Addr} {c : Nat} {w w' w'' : World} (h : SU6 a b u A c w w') (hb : Below w'.heap.size w' w'') : SU6 a b u A c w w'' :=
  ⟨h.hA.below hb h.hA.lt, h.hB.below hb h.hB.lt, h.hU.below hb h.hU.lt, h.bel.trans (hb.mono h.bel.size)⟩

set_option maxRecDepth 100000 in
theorem writeUDP6_any (a b : List Int) (ha : a.length = 16) (hb : b.length = 16) (ra : InB a) (rb : InB b) (u : DU) (A : Option Addr) (c : Nat) (w : World) (hR : RdU w.heap.size w u A c) :
    Calls Try.prog 18 #[.agg (u8s a).toArray, .agg (u8s b).toArray, .agg (u.cells A c)] w fun e w' => ∃ v s, e = .returned (.tuple #[v, .int .i64 s]) ∧ Hid (s = u.err) ∧ OwnB w' w.heap.size v (u.write (pse6 a b (8 + u.bl.length) 17)) ∧ Below w.heap.size w w' := by
  have hia := addr6_info a ha
  have hib := addr6_info b hb
  have hS0 : SU6 a b u A c w (((w.alloc (.cells (u8s a).toArray 36)).alloc (.cells (u8s b).toArray 36)).alloc (.cells (u.cells A c) 28)).drew := ⟨((Has.newAt rfl).alloc).alloc, (Has.newAt (by simp)).alloc, Has.newAt (by simp), ((((Below.refl _ _).alloc (Nat.le_refl _) _).alloc (by simp) _).alloc (by simp; omega) _).trans (below_drew _ _)⟩
  go_enter Try.func18, Try.ntmps18
  go_wp2
  refine wp_region_held_drew (S := SU6 a b u A c w) (by kernel_rfl) hS0 (fun hS => ?_)
  -- REGION 6
  refine tk (i := 0) (.agg (u8s a).toArray) hS rfl (by kernel_rfl) (by kernel_rfl) (by kernel_rfl) (fun _ _ _ h => h) (by kernel_rfl) (by intro _ h; exact ex_load (by exact rfl) (by exact rfl) (h.hA.load (P := Try.prog) 36 Try.underlying36 rfl hia)) ?_
  simp only [Act.put, List.setIfInBounds_toArray, List.set_cons_zero, List.set_cons_succ]
  refine tk (i := 1) (.agg (u8s b).toArray) hS rfl (by kernel_rfl) (by kernel_rfl) (by kernel_rfl) (fun _ _ _ h => h) (by kernel_rfl) (by intro _ h; exact ex_load (by exact rfl) (by exact rfl) (h.hB.load (P := Try.prog) 36 Try.underlying36 rfl hib)) ?_
  simp only [Act.put, List.setIfInBounds_toArray, List.set_cons_zero, List.set_cons_succ]
  refine tk (i := 3) (.agg (u.cells A c)) hS rfl (by kernel_rfl) (by kernel_rfl) (by kernel_rfl) (fun _ _ _ h => h) (by kernel_rfl) (by intro _ h; exact ex_load (by exact rfl) (by exact rfl) (h.hU.load (P := Try.prog) 28 Try.underlying28 rfl udp_info)) ?_
  simp only [Act.put, List.setIfInBounds_toArray, List.set_cons_zero, List.set_cons_succ]
  refine tk_callx (i := 2) (fun v w' => ∃ h1 h2, v = .func (.func 65) #[] #[.pointer (some ⟨h1, 0, none⟩), .pointer (some ⟨h2, 0, none⟩)] ∧ Has w' h1 (.cells (u8s a).toArray 36 (0, 0)) ∧ Has w' h2 (.cells (u8s b).toArray 36 (0, 0))) (by kernel_rfl) rfl (by kernel_rfl) (by exact ex_call (by exact rfl) Try.func43 (by kernel_rfl) (by kernel_rfl) (by simp only [List.map_toArray, List.map_cons, List.map_nil] <;> rfl)) (by refine (over6_any a b _).mono fun e w' g => ?_; obtain ⟨h1, h2, rfl, k1, k2, k3⟩ := g; exact ⟨_, rfl, ⟨h1, h2, rfl, k1, k2⟩, hS.keep k3⟩) ?_
  rintro v1 W1 ⟨h1, h2, rfl, k1, k2⟩ hS1
  simp only [Act.put, List.setIfInBounds_toArray, List.set_cons_zero, List.set_cons_succ]
  refine tk_callx (i := 4) (fun v w' => ∃ v0 s, v = .tuple #[v0, .int .i64 s] ∧ Hid (s = u.err) ∧ OwnB w' w.heap.size v0 (u.write (pse6 a b (8 + u.bl.length) 17))) (by kernel_rfl) rfl (by kernel_rfl) (by exact ex_call (by exact rfl) Try.func42 (by kernel_rfl) (by kernel_rfl) (by simp only [List.map_toArray, List.map_cons, List.map_nil] <;> rfl)) (by refine (wudp6_any a b ha hb ra rb h1 h2 u A c _ k1 k2 ((hR.below hS1.bel (Nat.le_refl _)).more hS1.bel.size)).mono fun e w' g => ?_; obtain ⟨v0, s, rfl, j1, j2, j3⟩ := g; exact ⟨_, rfl, ⟨v0, s, rfl, j1, j2.more hS1.bel.size⟩, hS1.keep j3⟩) ?_
  rintro v2 W2 ⟨v0, s, rfl, j1, j2⟩ hS2
  obtain ⟨A0, c0, rfl, _⟩ := own_shape j2.own
  simp only [Act.put, List.setIfInBounds_toArray, List.set_cons_zero, List.set_cons_succ]
  refine tk (i := 5) (.slice A0 (u.write (pse6 a b (8 + u.bl.length) 17)).length c0) hS2 rfl (by kernel_rfl) (by kernel_rfl) (by kernel_rfl) (fun _ _ _ h => h) (by kernel_rfl) (by intro _ _; exact rfl) ?_
  simp only [Act.put, List.setIfInBounds_toArray, List.set_cons_zero, List.set_cons_succ]
  refine tk (i := 6) (.int .i64 s) hS2 rfl (by kernel_rfl) (by kernel_rfl) (by kernel_rfl) (fun _ _ _ h => h) (by kernel_rfl) (by intro _ _; exact rfl) ?_
  simp only [Act.put, List.setIfInBounds_toArray, List.set_cons_zero, List.set_cons_succ]
  refine tk (i := 7) (.slice A0 (u.write (pse6 a b (8 + u.bl.length) 17)).length c0) hS2 rfl (by kernel_rfl) (by kernel_rfl) (by kernel_rfl) (fun _ _ _ h => h) (by kernel_rfl) (by intro _ _; exact rfl) ?_
  simp only [Act.put, List.setIfInBounds_toArray, List.set_cons_zero, List.set_cons_succ]
  refine tk (i := 8) (.int .i64 s) hS2 rfl (by kernel_rfl) (by kernel_rfl) (by kernel_rfl) (fun _ _ _ h => h) (by kernel_rfl) (by intro _ _; exact rfl) ?_
  simp only [Act.put, List.setIfInBounds_toArray, List.set_cons_zero, List.set_cons_succ]
  refine wpAnyH_done (by kernel_rfl) ?_ _
  go_wp2
  go_ret2
  exact ⟨_, _, rfl, j1, j2, hS2.bel⟩
  -- END 6
end Go.Proofs.Ytaobnbjkhgcmlaa
