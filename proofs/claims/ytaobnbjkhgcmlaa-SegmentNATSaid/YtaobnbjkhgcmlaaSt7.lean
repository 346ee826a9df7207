/-
  The walks of segment.WriteTCP4, WriteTCP6, the reference's CheckTCP.
-/
import Derived.Test.YtaobnbjkhgcmlaaSg7
import Derived.Test.YtaobnbjkhgcmlaaSt6
namespace Go.Proofs.Ytaobnbjkhgcmlaa
open Go.RowKit Go.Shelf

set_option maxRecDepth 100000 in
theorem wtcp_err (f : Value) (t : DT) (p : WT) (w : World) (b1 : t.ol.length ≤ 9223372036854775807) (b2 : t.bl.length ≤ 9223372036854775807) (rf : 0 ≤ t.flags ∧ t.flags ≤ 255) (h0 : t.check ≠ 0) :
    Calls Try.prog 49 #[f, .agg (t.cells p)] w fun e w' => e = .returned (.tuple #[.slice none 0 0, .int .i64 t.check]) ∧ Below w.heap.size w w' := by
  have hB : Below w.heap.size w (w.alloc (.cells (t.cells p) 26)) := (Below.refl _ _).alloc (Nat.le_refl _) _
  by_cases h1 : 64 ≤ t.flags
  · skip
    have hc : t.check = 63 := by unfold DT.check; rw [if_pos (by omega)]
    rw [hc]
    clear hc h0
    obtain ⟨src, dst, seq, ack, flags, window, urgent, ol, bl⟩ := t
    obtain ⟨oA, oc, bA, bc⟩ := p
    unfold DT.cells at *
    simp only at *
    go_enter Try.func49, Try.ntmps49
    go_wp2
    go_ret2
    exact ⟨rfl, hB⟩
  · by_cases h2 : 40 < t.ol.length
    · skip
      have hc : t.check = 63 := by unfold DT.check; rw [if_pos (by omega)]
      rw [hc]
      clear hc h0
      obtain ⟨src, dst, seq, ack, flags, window, urgent, ol, bl⟩ := t
      obtain ⟨oA, oc, bA, bc⟩ := p
      unfold DT.cells at *
      simp only at *
      go_enter Try.func49, Try.ntmps49
      go_wp2
      go_ret2
      exact ⟨rfl, hB⟩
    · by_cases h3 : t.ol.length % 4 = 0
      · by_cases h4 : 65515 - t.ol.length < t.bl.length
        · skip
          have hc : t.check = 2 := by unfold DT.check; rw [if_neg (by omega), if_pos (by omega)]
          rw [hc]
          clear hc h0
          obtain ⟨src, dst, seq, ack, flags, window, urgent, ol, bl⟩ := t
          obtain ⟨oA, oc, bA, bc⟩ := p
          unfold DT.cells at *
          simp only at *
          have t4 : ((ol.length : Int) % 4 != 0) = false := by simp; omega
          clear h3
          go_enter Try.func49, Try.ntmps49
          go_wp2
          go_ret2
          exact ⟨rfl, hB⟩
        · exact absurd (show t.check = 0 by unfold DT.check; rw [if_neg (by omega), if_neg (by omega)]) h0
      · skip
        have hc : t.check = 63 := by unfold DT.check; rw [if_pos (by omega)]
        rw [hc]
        clear hc h0
        obtain ⟨src, dst, seq, ack, flags, window, urgent, ol, bl⟩ := t
        obtain ⟨oA, oc, bA, bc⟩ := p
        unfold DT.cells at *
        simp only at *
        have t4 : ((ol.length : Int) % 4 != 0) = true := by simp; omega
        clear h3
        go_enter Try.func49, Try.ntmps49
        go_wp2
        go_ret2
        exact ⟨rfl, hB⟩

set_option maxRecDepth 100000 in
theorem checkTCP_any (t : DT) (p : WT) (w : World) (b1 : t.ol.length ≤ 9223372036854775807) (b2 : t.bl.length ≤ 9223372036854775807) (rf : 0 ≤ t.flags ∧ t.flags ≤ 255) :
    Calls Try.prog 53 #[.agg (t.cells p)] w fun e w' => (∃ q : Int, e = .returned (.int .i64 q) ∧ Hid (q = t.check)) ∧ Below w.heap.size w w' := by
  have hB : Below w.heap.size w (w.alloc (.cells (t.cells p) 26)) := (Below.refl _ _).alloc (Nat.le_refl _) _
  by_cases h1 : 64 ≤ t.flags
  · skip
    have hc : t.check = 63 := by unfold DT.check; rw [if_pos (by omega)]
    rw [hc]
    clear hc
    obtain ⟨src, dst, seq, ack, flags, window, urgent, ol, bl⟩ := t
    obtain ⟨oA, oc, bA, bc⟩ := p
    unfold DT.cells at *
    simp only at *
    go_enter Try.func53, Try.ntmps53
    go_wp2
    go_ret
    exact ⟨⟨_, rfl, Lib.hid rfl⟩, hB⟩
  · by_cases h2 : 40 < t.ol.length
    · skip
      have hc : t.check = 63 := by unfold DT.check; rw [if_pos (by omega)]
      rw [hc]
      clear hc
      obtain ⟨src, dst, seq, ack, flags, window, urgent, ol, bl⟩ := t
      obtain ⟨oA, oc, bA, bc⟩ := p
      unfold DT.cells at *
      simp only at *
      go_enter Try.func53, Try.ntmps53
      go_wp2
      go_ret
      exact ⟨⟨_, rfl, Lib.hid rfl⟩, hB⟩
    · by_cases h3 : t.ol.length % 4 = 0
      · by_cases h4 : 65515 - t.ol.length < t.bl.length
        · skip
          have hc : t.check = 2 := by unfold DT.check; rw [if_neg (by omega), if_pos (by omega)]
          rw [hc]
          clear hc
          obtain ⟨src, dst, seq, ack, flags, window, urgent, ol, bl⟩ := t
          obtain ⟨oA, oc, bA, bc⟩ := p
          unfold DT.cells at *
          simp only at *
          have t4 : ((ol.length : Int) % 4 != 0) = false := by simp; omega
          clear h3
          go_enter Try.func53, Try.ntmps53
          go_wp2
          go_ret
          exact ⟨⟨_, rfl, Lib.hid rfl⟩, hB⟩
        · skip
          have hc : t.check = 0 := by unfold DT.check; rw [if_neg (by omega), if_neg (by omega)]
          rw [hc]
          clear hc
          obtain ⟨src, dst, seq, ack, flags, window, urgent, ol, bl⟩ := t
          obtain ⟨oA, oc, bA, bc⟩ := p
          unfold DT.cells at *
          simp only at *
          have t4 : ((ol.length : Int) % 4 != 0) = false := by simp; omega
          clear h3
          go_enter Try.func53, Try.ntmps53
          go_wp2
          go_ret
          exact ⟨⟨_, rfl, Lib.hid rfl⟩, hB⟩
      · skip
        have hc : t.check = 63 := by unfold DT.check; rw [if_pos (by omega)]
        rw [hc]
        clear hc
        obtain ⟨src, dst, seq, ack, flags, window, urgent, ol, bl⟩ := t
        obtain ⟨oA, oc, bA, bc⟩ := p
        unfold DT.cells at *
        simp only at *
        have t4 : ((ol.length : Int) % 4 != 0) = true := by simp; omega
        clear h3
        go_enter Try.func53, Try.ntmps53
        go_wp2
        go_ret
        exact ⟨⟨_, rfl, Lib.hid rfl⟩, hB⟩

theorem wtcp4_any (a b : List Int) (ha : a.length = 4) (hb : b.length = 4) (ra : InB a) (rb : InB b) (g1 g2 : Nat) (t : DT) (p : WT) (w : World) (hA : Has w g1 (.cells (u8s a).toArray 34 (0, 0))) (hB : Has w g2 (.cells (u8s b).toArray 34 (0, 0))) (hR : RdT w.heap.size w t p) :
    Calls Try.prog 49 #[.func (.func 68) #[] #[.pointer (some ⟨g1, 0, none⟩), .pointer (some ⟨g2, 0, none⟩)], .agg (t.cells p)] w fun e w' => ∃ v s, e = .returned (.tuple #[v, .int .i64 s]) ∧ Hid (s = t.check) ∧ OwnB w' w.heap.size v (t.write (pse4 a b (20 + t.ol.length + t.bl.length) 6)) ∧ Below w.heap.size w w' := by
  have b1 := Nat.le_trans hR.opt.cap hR.opt.big
  have b2 := Nat.le_trans hR.body.cap hR.body.big
  by_cases h0 : t.check = 0
  · refine (wtcp4_ok a b ha hb ra rb g1 g2 t p w hA hB hR h0).mono ?_
    rintro e w' ⟨v, rfl, ho, hb⟩
    refine ⟨v, 0, rfl, Lib.hid h0.symm, ?_, hb⟩
    rw [show t.write (pse4 a b (20 + t.ol.length + t.bl.length) 6) = t.bytes (pse4 a b (20 + t.ol.length + t.bl.length) 6) from if_pos h0]
    exact ho
  · refine (wtcp_err _ t p w b1 b2 hR.ok.flags h0).mono ?_
    rintro e w' ⟨rfl, hb⟩
    refine ⟨_, _, rfl, Lib.hid rfl, ?_, hb⟩
    rw [show t.write (pse4 a b (20 + t.ol.length + t.bl.length) 6) = [] from if_neg h0]
    exact OwnB.nil _ _

/-- what the region of WriteTCP4 leans on -/
structure ST4 (a b : List Int) (t : DT) (p : WT) (w w' : World) : Prop where
  hA : Has w' w.heap.size (.cells (u8s a).toArray 34 (0, 0))
  hB : Has w' (w.heap.size + 1) (.cells (u8s b).toArray 34 (0, 0))
  hU : Has w' (w.heap.size + 1 + 1) (.cells (t.cells p) 26 (0, 0))
  bel : Below w.heap.size w w'
theorem ST4.keep {a b : List Int} {t : DT} {p : WT} {w w' w'' : World} (h : ST4 a b t p w w') (hb : Below w'.heap.size w' w'') : ST4 a b t p w w'' :=
  ⟨h.hA.below hb h.hA.lt, h.hB.below hb h.hB.lt, h.hU.below hb h.hU.lt, h.bel.trans (hb.mono h.bel.size)⟩

set_option maxRecDepth 100000 in
theorem writeTCP4_any (a b : List Int) (ha : a.length = 4) (hb : b.length = 4) (ra : InB a) (rb : InB b) (t : DT) (p : WT) (w : World) (hR : RdT w.heap.size w t p) :
    Calls Try.prog 21 #[.agg (u8s a).toArray, .agg (u8s b).toArray, .agg (t.cells p)] w fun e w' => ∃ v s, e = .returned (.tuple #[v, .int .i64 s]) ∧ Hid (s = t.check) ∧ OwnB w' w.heap.size v (t.write (pse4 a b (20 + t.ol.length + t.bl.length) 6)) ∧ Below w.heap.size w w' := by
  have hia := addr4_info a ha
  have hib := addr4_info b hb
  have hS0 : ST4 a b t p w (((w.alloc (.cells (u8s a).toArray 34)).alloc (.cells (u8s b).toArray 34)).alloc (.cells (t.cells p) 26)).drew := ⟨((Has.newAt rfl).alloc).alloc, (Has.newAt (by simp)).alloc, Has.newAt (by simp), ((((Below.refl _ _).alloc (Nat.le_refl _) _).alloc (by simp) _).alloc (by simp; omega) _).trans (below_drew _ _)⟩
  go_enter Try.func21, Try.ntmps21
  go_wp2
  refine wp_region_held_drew (S := ST4 a b t p w) (by kernel_rfl) hS0 (fun hS => ?_)
  -- REGION 4
  refine tk (i := 0) (.agg (u8s a).toArray) hS rfl (by kernel_rfl) (by kernel_rfl) (by kernel_rfl) (fun _ _ _ h => h) (by kernel_rfl) (by intro _ h; exact ex_load (by exact rfl) (by exact rfl) (h.hA.load (P := Try.prog) 34 Try.underlying34 rfl hia)) ?_
  simp only [Act.put, List.setIfInBounds_toArray, List.set_cons_zero, List.set_cons_succ]
  refine tk (i := 1) (.agg (u8s b).toArray) hS rfl (by kernel_rfl) (by kernel_rfl) (by kernel_rfl) (fun _ _ _ h => h) (by kernel_rfl) (by intro _ h; exact ex_load (by exact rfl) (by exact rfl) (h.hB.load (P := Try.prog) 34 Try.underlying34 rfl hib)) ?_
  simp only [Act.put, List.setIfInBounds_toArray, List.set_cons_zero, List.set_cons_succ]
  refine tk (i := 3) (.agg (t.cells p)) hS rfl (by kernel_rfl) (by kernel_rfl) (by kernel_rfl) (fun _ _ _ h => h) (by kernel_rfl) (by intro _ h; exact ex_load (by exact rfl) (by exact rfl) (h.hU.load (P := Try.prog) 26 Try.underlying26 rfl tcp_info)) ?_
  simp only [Act.put, List.setIfInBounds_toArray, List.set_cons_zero, List.set_cons_succ]
  refine tk_callx (i := 2) (fun v w' => ∃ h1 h2, v = .func (.func 68) #[] #[.pointer (some ⟨h1, 0, none⟩), .pointer (some ⟨h2, 0, none⟩)] ∧ Has w' h1 (.cells (u8s a).toArray 34 (0, 0)) ∧ Has w' h2 (.cells (u8s b).toArray 34 (0, 0))) (by kernel_rfl) rfl (by kernel_rfl) (by exact ex_call (by exact rfl) Try.func50 (by kernel_rfl) (by kernel_rfl) (by simp only [List.map_toArray, List.map_cons, List.map_nil] <;> rfl)) (by refine (over4_any a b _).mono fun e w' g => ?_; obtain ⟨h1, h2, rfl, k1, k2, k3⟩ := g; exact ⟨_, rfl, ⟨h1, h2, rfl, k1, k2⟩, hS.keep k3⟩) ?_
  rintro v1 W1 ⟨h1, h2, rfl, k1, k2⟩ hS1
  simp only [Act.put, List.setIfInBounds_toArray, List.set_cons_zero, List.set_cons_succ]
  refine tk_callx (i := 4) (fun v w' => ∃ v0 s, v = .tuple #[v0, .int .i64 s] ∧ Hid (s = t.check) ∧ OwnB w' w.heap.size v0 (t.write (pse4 a b (20 + t.ol.length + t.bl.length) 6))) (by kernel_rfl) rfl (by kernel_rfl) (by exact ex_call (by exact rfl) Try.func49 (by kernel_rfl) (by kernel_rfl) (by simp only [List.map_toArray, List.map_cons, List.map_nil] <;> rfl)) (by refine (wtcp4_any a b ha hb ra rb h1 h2 t p _ k1 k2 ((hR.below hS1.bel (Nat.le_refl _)).more hS1.bel.size)).mono fun e w' g => ?_; obtain ⟨v0, s, rfl, j1, j2, j3⟩ := g; exact ⟨_, rfl, ⟨v0, s, rfl, j1, j2.more hS1.bel.size⟩, hS1.keep j3⟩) ?_
  rintro v2 W2 ⟨v0, s, rfl, j1, j2⟩ hS2
  obtain ⟨A0, c0, rfl, _⟩ := own_shape j2.own
  simp only [Act.put, List.setIfInBounds_toArray, List.set_cons_zero, List.set_cons_succ]
  refine tk (i := 5) (.slice A0 (t.write (pse4 a b (20 + t.ol.length + t.bl.length) 6)).length c0) hS2 rfl (by kernel_rfl) (by kernel_rfl) (by kernel_rfl) (fun _ _ _ h => h) (by kernel_rfl) (by intro _ _; exact rfl) ?_
  simp only [Act.put, List.setIfInBounds_toArray, List.set_cons_zero, List.set_cons_succ]
  refine tk (i := 6) (.int .i64 s) hS2 rfl (by kernel_rfl) (by kernel_rfl) (by kernel_rfl) (fun _ _ _ h => h) (by kernel_rfl) (by intro _ _; exact rfl) ?_
  simp only [Act.put, List.setIfInBounds_toArray, List.set_cons_zero, List.set_cons_succ]
  refine tk (i := 7) (.slice A0 (t.write (pse4 a b (20 + t.ol.length + t.bl.length) 6)).length c0) hS2 rfl (by kernel_rfl) (by kernel_rfl) (by kernel_rfl) (fun _ _ _ h => h) (by kernel_rfl) (by intro _ _; exact rfl) ?_
  simp only [Act.put, List.setIfInBounds_toArray, List.set_cons_zero, List.set_cons_succ]
  refine tk (i := 8) (.int .i64 s) hS2 rfl (by kernel_rfl) (by kernel_rfl) (by kernel_rfl) (fun _ _ _ h => h) (by kernel_rfl) (by intro _ _; exact rfl) ?_
  simp only [Act.put, List.setIfInBounds_toArray, List.set_cons_zero, List.set_cons_succ]
  refine wpAnyH_done (by kernel_rfl) ?_ _
  go_wp2
  go_ret2
  exact ⟨_, _, rfl, j1, j2, hS2.bel⟩
  -- END 4

theorem wtcp6_any (a b : List Int) (ha : a.length = 16) (hb : b.length = 16) (ra : InB a) (rb : InB b) (g1 g2 : Nat) (t : DT) (p : WT) (w : World) (hA : Has w g1 (.cells (u8s a).toArray 36 (0, 0))) (hB : Has w g2 (.cells (u8s b).toArray 36 (0, 0))) (hR : RdT w.heap.size w t p) :
    Calls Try.prog 49 #[.func (.func 65) #[] #[.pointer (some ⟨g1, 0, none⟩), .pointer (some ⟨g2, 0, none⟩)], .agg (t.cells p)] w fun e w' => ∃ v s, e = .returned (.tuple #[v, .int .i64 s]) ∧ Hid (s = t.check) ∧ OwnB w' w.heap.size v (t.write (pse6 a b (20 + t.ol.length + t.bl.length) 6)) ∧ Below w.heap.size w w' := by
  have b1 := Nat.le_trans hR.opt.cap hR.opt.big
  have b2 := Nat.le_trans hR.body.cap hR.body.big
  by_cases h0 : t.check = 0
  · refine (wtcp6_ok a b ha hb ra rb g1 g2 t p w hA hB hR h0).mono ?_
    rintro e w' ⟨v, rfl, ho, hb⟩
    refine ⟨v, 0, rfl, Lib.hid h0.symm, ?_, hb⟩
    rw [show t.write (pse6 a b (20 + t.ol.length + t.bl.length) 6) = t.bytes (pse6 a b (20 + t.ol.length + t.bl.length) 6) from if_pos h0]
    exact ho
  · refine (wtcp_err _ t p w b1 b2 hR.ok.flags h0).mono ?_
    rintro e w' ⟨rfl, hb⟩
    refine ⟨_, _, rfl, Lib.hid rfl, ?_, hb⟩
    rw [show t.write (pse6 a b (20 + t.ol.length + t.bl.length) 6) = [] from if_neg h0]
    exact OwnB.nil _ _

/-- what the region of WriteTCP6 leans on -/
structure ST6 (a b : List Int) (t : DT) (p : WT) (w w' : World) : Prop where
  hA : Has w' w.heap.size (.cells (u8s a).toArray 36 (0, 0))
  hB : Has w' (w.heap.size + 1) (.cells (u8s b).toArray 36 (0, 0))
  hU : Has w' (w.heap.size + 1 + 1) (.cells (t.cells p) 26 (0, 0))
  bel : Below w.heap.size w w'
theorem ST6.keep {a b : List Int} {t : DT} {p : WT} {w w' w'' : World} (h : ST6 a b t p w w') (hb : Below w'.heap.size w' w'') : ST6 a b t p w w'' :=
  ⟨h.hA.below hb h.hA.lt, h.hB.below hb h.hB.lt, h.hU.below hb h.hU.lt, h.bel.trans (hb.mono h.bel.size)⟩

set_option maxRecDepth 100000 in
theorem writeTCP6_any (a b : List Int) (ha : a.length = 16) (hb : b.length = 16) (ra : InB a) (rb : InB b) (t : DT) (p : WT) (w : World) (hR : RdT w.heap.size w t p) :
    Calls Try.prog 25 #[.agg (u8s a).toArray, .agg (u8s b).toArray, .agg (t.cells p)] w fun e w' => ∃ v s, e = .returned (.tuple #[v, .int .i64 s]) ∧ Hid (s = t.check) ∧ OwnB w' w.heap.size v (t.write (pse6 a b (20 + t.ol.length + t.bl.length) 6)) ∧ Below w.heap.size w w' := by
  have hia := addr6_info a ha
  have hib := addr6_info b hb
  have hS0 : ST6 a b t p w (((w.alloc (.cells (u8s a).toArray 36)).alloc (.cells (u8s b).toArray 36)).alloc (.cells (t.cells p) 26)).drew := ⟨((Has.newAt rfl).alloc).alloc, (Has.newAt (by simp)).alloc, Has.newAt (by simp), ((((Below.refl _ _).alloc (Nat.le_refl _) _).alloc (by simp) _).alloc (by simp; omega) _).trans (below_drew _ _)⟩
  go_enter Try.func25, Try.ntmps25
  go_wp2
  refine wp_region_held_drew (S := ST6 a b t p w) (by kernel_rfl) hS0 (fun hS => ?_)
  -- REGION 6
  refine tk (i := 0) (.agg (u8s a).toArray) hS rfl (by kernel_rfl) (by kernel_rfl) (by kernel_rfl) (fun _ _ _ h => h) (by kernel_rfl) (by intro _ h; exact ex_load (by exact rfl) (by exact rfl) (h.hA.load (P := Try.prog) 36 Try.underlying36 rfl hia)) ?_
  simp only [Act.put, List.setIfInBounds_toArray, List.set_cons_zero, List.set_cons_succ]
  refine tk (i := 1) (.agg (u8s b).toArray) hS rfl (by kernel_rfl) (by kernel_rfl) (by kernel_rfl) (fun _ _ _ h => h) (by kernel_rfl) (by intro _ h; exact ex_load (by exact rfl) (by exact rfl) (h.hB.load (P := Try.prog) 36 Try.underlying36 rfl hib)) ?_
  simp only [Act.put, List.setIfInBounds_toArray, List.set_cons_zero, List.set_cons_succ]
  refine tk (i := 3) (.agg (t.cells p)) hS rfl (by kernel_rfl) (by kernel_rfl) (by kernel_rfl) (fun _ _ _ h => h) (by kernel_rfl) (by intro _ h; exact ex_load (by exact rfl) (by exact rfl) (h.hU.load (P := Try.prog) 26 Try.underlying26 rfl tcp_info)) ?_
  simp only [Act.put, List.setIfInBounds_toArray, List.set_cons_zero, List.set_cons_succ]
  refine tk_callx (i := 2) (fun v w' => ∃ h1 h2, v = .func (.func 65) #[] #[.pointer (some ⟨h1, 0, none⟩), .pointer (some ⟨h2, 0, none⟩)] ∧ Has w' h1 (.cells (u8s a).toArray 36 (0, 0)) ∧ Has w' h2 (.cells (u8s b).toArray 36 (0, 0))) (by kernel_rfl) rfl (by kernel_rfl) (by exact ex_call (by exact rfl) Try.func43 (by kernel_rfl) (by kernel_rfl) (by simp only [List.map_toArray, List.map_cons, List.map_nil] <;> rfl)) (by refine (over6_any a b _).mono fun e w' g => ?_; obtain ⟨h1, h2, rfl, k1, k2, k3⟩ := g; exact ⟨_, rfl, ⟨h1, h2, rfl, k1, k2⟩, hS.keep k3⟩) ?_
  rintro v1 W1 ⟨h1, h2, rfl, k1, k2⟩ hS1
  simp only [Act.put, List.setIfInBounds_toArray, List.set_cons_zero, List.set_cons_succ]
  refine tk_callx (i := 4) (fun v w' => ∃ v0 s, v = .tuple #[v0, .int .i64 s] ∧ Hid (s = t.check) ∧ OwnB w' w.heap.size v0 (t.write (pse6 a b (20 + t.ol.length + t.bl.length) 6))) (by kernel_rfl) rfl (by kernel_rfl) (by exact ex_call (by exact rfl) Try.func49 (by kernel_rfl) (by kernel_rfl) (by simp only [List.map_toArray, List.map_cons, List.map_nil] <;> rfl)) (by refine (wtcp6_any a b ha hb ra rb h1 h2 t p _ k1 k2 ((hR.below hS1.bel (Nat.le_refl _)).more hS1.bel.size)).mono fun e w' g => ?_; obtain ⟨v0, s, rfl, j1, j2, j3⟩ := g; exact ⟨_, rfl, ⟨v0, s, rfl, j1, j2.more hS1.bel.size⟩, hS1.keep j3⟩) ?_
  rintro v2 W2 ⟨v0, s, rfl, j1, j2⟩ hS2
  obtain ⟨A0, c0, rfl, _⟩ := own_shape j2.own
  simp only [Act.put, List.setIfInBounds_toArray, List.set_cons_zero, List.set_cons_succ]
  refine tk (i := 5) (.slice A0 (t.write (pse6 a b (20 + t.ol.length + t.bl.length) 6)).length c0) hS2 rfl (by kernel_rfl) (by kernel_rfl) (by kernel_rfl) (fun _ _ _ h => h) (by kernel_rfl) (by intro _ _; exact rfl) ?_
  simp only [Act.put, List.setIfInBounds_toArray, List.set_cons_zero, List.set_cons_succ]
  refine tk (i := 6) (.int .i64 s) hS2 rfl (by kernel_rfl) (by kernel_rfl) (by kernel_rfl) (fun _ _ _ h => h) (by kernel_rfl) (by intro _ _; exact rfl) ?_
  simp only [Act.put, List.setIfInBounds_toArray, List.set_cons_zero, List.set_cons_succ]
  refine tk (i := 7) (.slice A0 (t.write (pse6 a b (20 + t.ol.length + t.bl.length) 6)).length c0) hS2 rfl (by kernel_rfl) (by kernel_rfl) (by kernel_rfl) (fun _ _ _ h => h) (by kernel_rfl) (by intro _ _; exact rfl) ?_
  simp only [Act.put, List.setIfInBounds_toArray, List.set_cons_zero, List.set_cons_succ]
  refine tk (i := 8) (.int .i64 s) hS2 rfl (by kernel_rfl) (by kernel_rfl) (by kernel_rfl) (fun _ _ _ h => h) (by kernel_rfl) (by intro _ _; exact rfl) ?_
  simp only [Act.put, List.setIfInBounds_toArray, List.set_cons_zero, List.set_cons_succ]
  refine wpAnyH_done (by kernel_rfl) ?_ _
  go_wp2
  go_ret2
  exact ⟨_, _, rfl, j1, j2, hS2.bel⟩
  -- END 6
end Go.Proofs.Ytaobnbjkhgcmlaa
