/-
  The walk of SegmentSame.
-/
import Derived.Test.YtaobnbjkhgcmlaaLaw6A
import Derived.Test.YtaobnbjkhgcmlaaSg1
namespace Go.Proofs.Ytaobnbjkhgcmlaa
open Go.RowKit Go.Shelf

/-- what the region of SegmentSame leans on -/
structure S6S (a b : DT) (p q : WT) (u v : DU) (A A2 : Option Addr) (c c2 : Nat) (w w' : World) : Prop where
  h1 : Has w' w.heap.size (.cells (a.cells p) 26 (0, 0))
  h2 : Has w' (w.heap.size + 1) (.cells (b.cells q) 26 (0, 0))
  h3 : Has w' (w.heap.size + 1 + 1) (.cells (u.cells A c) 28 (0, 0))
  h4 : Has w' (w.heap.size + 1 + 1 + 1) (.cells (v.cells A2 c2) 28 (0, 0))
  bel : Below w.heap.size w w'
theorem S6S.keep {a b : DT} {p q : WT} {u v : DU} {A A2 : Option Addr} {c c2 : Nat} {w w' w'' : World} (h : S6S a b p q u v A A2 c c2 w w') (hb : Below w'.heap.size w' w'') : S6S a b p q u v A A2 c c2 w w'' :=
  ⟨h.h1.below hb h.h1.lt, h.h2.below hb h.h2.lt, h.h3.below hb h.h3.lt, h.h4.below hb h.h4.lt, h.bel.trans (hb.mono h.bel.size)⟩
theorem tcp_info : (Try.prog.info? 26).map (·.size) = some 9 := by kernel_rfl

set_option maxRecDepth 100000 in
theorem same_walk (a : DT) (p : WT) (b : DT) (q : WT) (u : DU) (A : Option Addr) (c : Nat) (v : DU) (A2 : Option Addr) (c2 : Nat) (w : World) (ra : RdT w.heap.size w a p) (rb : RdT w.heap.size w b q) (ru : RdU w.heap.size w u A c) (rv : RdU w.heap.size w v A2 c2) :
    Calls Try.prog 3 #[.agg (a.cells p), .agg (b.cells q), .agg (u.cells A c), .agg (v.cells A2 c2)] w fun e w' => e = .returned (.bool true) ∧ Below w.heap.size w w' := by
  have hS0 : S6S a b p q u v A A2 c c2 w ((((w.alloc (.cells (a.cells p) 26)).alloc (.cells (b.cells q) 26)).alloc (.cells (u.cells A c) 28)).alloc (.cells (v.cells A2 c2) 28)).drew := ⟨(((Has.newAt rfl).alloc).alloc).alloc, ((Has.newAt (by simp)).alloc).alloc, (Has.newAt (by simp)).alloc, Has.newAt (by simp), (((((Below.refl _ _).alloc (Nat.le_refl _) _).alloc (by simp) _).alloc (by simp; omega) _).alloc (by simp; omega) _).trans (below_drew _ _)⟩
  go_enter Try.func3, Try.ntmps3
  go_wp2
  refine wp_region_held_drew (S := S6S a b p q u v A A2 c c2 w) (by kernel_rfl) hS0 (fun hS => ?_)
  -- REGION 1
  refine tk (i := 0) (.agg (a.cells p)) hS rfl (by kernel_rfl) (by kernel_rfl) (by kernel_rfl) (fun _ _ _ h => h) (by kernel_rfl) (by intro _ h; exact ex_load (by exact rfl) (by exact rfl) (h.h1.load (P := Try.prog) 26 Try.underlying26 rfl tcp_info)) ?_
  simp only [Act.put, List.setIfInBounds_toArray, List.set_cons_zero, List.set_cons_succ]
  refine tk (i := 1) (.agg (b.cells q)) hS rfl (by kernel_rfl) (by kernel_rfl) (by kernel_rfl) (fun _ _ _ h => h) (by kernel_rfl) (by intro _ h; exact ex_load (by exact rfl) (by exact rfl) (h.h2.load (P := Try.prog) 26 Try.underlying26 rfl tcp_info)) ?_
  simp only [Act.put, List.setIfInBounds_toArray, List.set_cons_zero, List.set_cons_succ]
  refine tk (i := 3) (.agg (a.cells p)) hS rfl (by kernel_rfl) (by kernel_rfl) (by kernel_rfl) (fun _ _ _ h => h) (by kernel_rfl) (by intro _ h; exact ex_load (by exact rfl) (by exact rfl) (h.h1.load (P := Try.prog) 26 Try.underlying26 rfl tcp_info)) ?_
  simp only [Act.put, List.setIfInBounds_toArray, List.set_cons_zero, List.set_cons_succ]
  refine tk (i := 4) (.agg (b.cells q)) hS rfl (by kernel_rfl) (by kernel_rfl) (by kernel_rfl) (fun _ _ _ h => h) (by kernel_rfl) (by intro _ h; exact ex_load (by exact rfl) (by exact rfl) (h.h2.load (P := Try.prog) 26 Try.underlying26 rfl tcp_info)) ?_
  simp only [Act.put, List.setIfInBounds_toArray, List.set_cons_zero, List.set_cons_succ]
  refine tk_call (i := 2) (.bool (sameT a b)) (by kernel_rfl) rfl (by kernel_rfl) (by exact ex_call (by exact rfl) Try.func13 (by kernel_rfl) (by kernel_rfl) (by simp only [List.map_toArray, List.map_cons, List.map_nil] <;> rfl)) (by refine (sameT_any _ _ a b p q _ (ra.opt.below hS.bel (Nat.le_refl _)) (rb.opt.below hS.bel (Nat.le_refl _)) (ra.body.below hS.bel (Nat.le_refl _)) (rb.body.below hS.bel (Nat.le_refl _)) hS.bel.size hS.bel.size).mono fun e w' g => ?_; obtain ⟨x, rfl, hx, hb⟩ := g; exact ⟨by rw [hx.out], hS.keep hb⟩) ?_
  intro W4 hS4
  simp only [Act.put, List.setIfInBounds_toArray, List.set_cons_zero, List.set_cons_succ]
  refine tk_call (i := 5) (.bool (sameT a b)) (by kernel_rfl) rfl (by kernel_rfl) (by exact ex_call (by exact rfl) Try.func14 (by kernel_rfl) (by kernel_rfl) (by simp only [List.map_toArray, List.map_cons, List.map_nil] <;> rfl)) (by refine (rsameT_any _ _ a b p q _ (ra.opt.below hS4.bel (Nat.le_refl _)) (rb.opt.below hS4.bel (Nat.le_refl _)) (ra.body.below hS4.bel (Nat.le_refl _)) (rb.body.below hS4.bel (Nat.le_refl _)) hS4.bel.size hS4.bel.size).mono fun e w' g => ?_; obtain ⟨x, rfl, hx, hb⟩ := g; exact ⟨by rw [hx.out], hS4.keep hb⟩) ?_
  intro W5 hS5
  simp only [Act.put, List.setIfInBounds_toArray, List.set_cons_zero, List.set_cons_succ]
  refine tk (i := 6) (.bool true) hS5 rfl (by kernel_rfl) (by kernel_rfl) (by kernel_rfl) (fun _ _ _ h => h) (by kernel_rfl) (by intro _ _; exact eq_bool_self (b := (sameT a b)) (by exact rfl) Try.underlying4 (by exact rfl) (by exact rfl)) ?_
  simp only [Act.put, List.setIfInBounds_toArray, List.set_cons_zero, List.set_cons_succ]
  refine tk (i := 7) (.bool true) hS5 rfl (by kernel_rfl) (by kernel_rfl) (by kernel_rfl) (fun _ _ _ h => h) (by kernel_rfl) (by intro _ _; exact rfl) ?_
  simp only [Act.put, List.setIfInBounds_toArray, List.set_cons_zero, List.set_cons_succ]
  refine tk (i := 8) (.agg (u.cells A c)) hS5 rfl (by kernel_rfl) (by kernel_rfl) (by kernel_rfl) (fun _ _ _ h => h) (by kernel_rfl) (by intro _ h; exact ex_load (by exact rfl) (by exact rfl) (h.h3.load (P := Try.prog) 28 Try.underlying28 rfl udp_info)) ?_
  simp only [Act.put, List.setIfInBounds_toArray, List.set_cons_zero, List.set_cons_succ]
  refine tk (i := 9) (.agg (v.cells A2 c2)) hS5 rfl (by kernel_rfl) (by kernel_rfl) (by kernel_rfl) (fun _ _ _ h => h) (by kernel_rfl) (by intro _ h; exact ex_load (by exact rfl) (by exact rfl) (h.h4.load (P := Try.prog) 28 Try.underlying28 rfl udp_info)) ?_
  simp only [Act.put, List.setIfInBounds_toArray, List.set_cons_zero, List.set_cons_succ]
  refine tk (i := 11) (.agg (u.cells A c)) hS5 rfl (by kernel_rfl) (by kernel_rfl) (by kernel_rfl) (fun _ _ _ h => h) (by kernel_rfl) (by intro _ h; exact ex_load (by exact rfl) (by exact rfl) (h.h3.load (P := Try.prog) 28 Try.underlying28 rfl udp_info)) ?_
  simp only [Act.put, List.setIfInBounds_toArray, List.set_cons_zero, List.set_cons_succ]
  refine tk (i := 12) (.agg (v.cells A2 c2)) hS5 rfl (by kernel_rfl) (by kernel_rfl) (by kernel_rfl) (fun _ _ _ h => h) (by kernel_rfl) (by intro _ h; exact ex_load (by exact rfl) (by exact rfl) (h.h4.load (P := Try.prog) 28 Try.underlying28 rfl udp_info)) ?_
  simp only [Act.put, List.setIfInBounds_toArray, List.set_cons_zero, List.set_cons_succ]
  refine tk_call (i := 10) (.bool (sameU u v)) (by kernel_rfl) rfl (by kernel_rfl) (by exact ex_call (by exact rfl) Try.func15 (by kernel_rfl) (by kernel_rfl) (by simp only [List.map_toArray, List.map_cons, List.map_nil] <;> rfl)) (by refine (sameU_any _ _ u v A A2 c c2 _ (ru.body.below hS5.bel (Nat.le_refl _)) (rv.body.below hS5.bel (Nat.le_refl _)) hS5.bel.size hS5.bel.size).mono fun e w' g => ?_; obtain ⟨x, rfl, hx, hb⟩ := g; exact ⟨by rw [hx.out], hS5.keep hb⟩) ?_
  intro W12 hS12
  simp only [Act.put, List.setIfInBounds_toArray, List.set_cons_zero, List.set_cons_succ]
  refine tk_call (i := 13) (.bool (sameU u v)) (by kernel_rfl) rfl (by kernel_rfl) (by exact ex_call (by exact rfl) Try.func16 (by kernel_rfl) (by kernel_rfl) (by simp only [List.map_toArray, List.map_cons, List.map_nil] <;> rfl)) (by refine (rsameU_any _ _ u v A A2 c c2 _ (ru.body.below hS12.bel (Nat.le_refl _)) (rv.body.below hS12.bel (Nat.le_refl _)) hS12.bel.size hS12.bel.size).mono fun e w' g => ?_; obtain ⟨x, rfl, hx, hb⟩ := g; exact ⟨by rw [hx.out], hS12.keep hb⟩) ?_
  intro W13 hS13
  simp only [Act.put, List.setIfInBounds_toArray, List.set_cons_zero, List.set_cons_succ]
  refine tk (i := 14) (.bool true) hS13 rfl (by kernel_rfl) (by kernel_rfl) (by kernel_rfl) (fun _ _ _ h => h) (by kernel_rfl) (by intro _ _; exact eq_bool_self (b := (sameU u v)) (by exact rfl) Try.underlying4 (by exact rfl) (by exact rfl)) ?_
  simp only [Act.put, List.setIfInBounds_toArray, List.set_cons_zero, List.set_cons_succ]
  refine tk (i := 15) (.bool true) hS13 rfl (by kernel_rfl) (by kernel_rfl) (by kernel_rfl) (fun _ _ _ h => h) (by kernel_rfl) (by intro _ _; exact rfl) ?_
  simp only [Act.put, List.setIfInBounds_toArray, List.set_cons_zero, List.set_cons_succ]
  refine tk (i := 16) (.bool true) hS13 rfl (by kernel_rfl) (by kernel_rfl) (by kernel_rfl) (fun _ _ _ h => h) (by kernel_rfl) (by intro _ _; exact rfl) ?_
  simp only [Act.put, List.setIfInBounds_toArray, List.set_cons_zero, List.set_cons_succ]
  refine tk (i := 17) (.agg (a.cells p)) hS13 rfl (by kernel_rfl) (by kernel_rfl) (by kernel_rfl) (fun _ _ _ h => h) (by kernel_rfl) (by intro _ h; exact ex_load (by exact rfl) (by exact rfl) (h.h1.load (P := Try.prog) 26 Try.underlying26 rfl tcp_info)) ?_
  simp only [Act.put, List.setIfInBounds_toArray, List.set_cons_zero, List.set_cons_succ]
  refine tk (i := 18) (.agg (a.cells p)) hS13 rfl (by kernel_rfl) (by kernel_rfl) (by kernel_rfl) (fun _ _ _ h => h) (by kernel_rfl) (by intro _ h; exact ex_load (by exact rfl) (by exact rfl) (h.h1.load (P := Try.prog) 26 Try.underlying26 rfl tcp_info)) ?_
  simp only [Act.put, List.setIfInBounds_toArray, List.set_cons_zero, List.set_cons_succ]
  refine tk_call (i := 19) (.bool true) (by kernel_rfl) rfl (by kernel_rfl) (by exact ex_call (by exact rfl) Try.func13 (by kernel_rfl) (by kernel_rfl) (by simp only [List.map_toArray, List.map_cons, List.map_nil] <;> rfl)) (by refine (sameT_any _ _ a a p p _ (ra.opt.below hS13.bel (Nat.le_refl _)) (ra.opt.below hS13.bel (Nat.le_refl _)) (ra.body.below hS13.bel (Nat.le_refl _)) (ra.body.below hS13.bel (Nat.le_refl _)) hS13.bel.size hS13.bel.size).mono fun e w' g => ?_; obtain ⟨x, rfl, hx, hb⟩ := g; exact ⟨by rw [hx.out, sameT_self], hS13.keep hb⟩) ?_
  intro W19 hS19
  simp only [Act.put, List.setIfInBounds_toArray, List.set_cons_zero, List.set_cons_succ]
  refine tk (i := 20) (.bool true) hS19 rfl (by kernel_rfl) (by kernel_rfl) (by kernel_rfl) (fun _ _ _ h => h) (by kernel_rfl) (by intro _ _; exact rfl) ?_
  simp only [Act.put, List.setIfInBounds_toArray, List.set_cons_zero, List.set_cons_succ]
  refine tk (i := 21) (.bool true) hS19 rfl (by kernel_rfl) (by kernel_rfl) (by kernel_rfl) (fun _ _ _ h => h) (by kernel_rfl) (by intro _ _; exact rfl) ?_
  simp only [Act.put, List.setIfInBounds_toArray, List.set_cons_zero, List.set_cons_succ]
  refine tk (i := 22) (.agg (u.cells A c)) hS19 rfl (by kernel_rfl) (by kernel_rfl) (by kernel_rfl) (fun _ _ _ h => h) (by kernel_rfl) (by intro _ h; exact ex_load (by exact rfl) (by exact rfl) (h.h3.load (P := Try.prog) 28 Try.underlying28 rfl udp_info)) ?_
  simp only [Act.put, List.setIfInBounds_toArray, List.set_cons_zero, List.set_cons_succ]
  refine tk (i := 23) (.agg (u.cells A c)) hS19 rfl (by kernel_rfl) (by kernel_rfl) (by kernel_rfl) (fun _ _ _ h => h) (by kernel_rfl) (by intro _ h; exact ex_load (by exact rfl) (by exact rfl) (h.h3.load (P := Try.prog) 28 Try.underlying28 rfl udp_info)) ?_
  simp only [Act.put, List.setIfInBounds_toArray, List.set_cons_zero, List.set_cons_succ]
  refine tk_call (i := 24) (.bool true) (by kernel_rfl) rfl (by kernel_rfl) (by exact ex_call (by exact rfl) Try.func15 (by kernel_rfl) (by kernel_rfl) (by simp only [List.map_toArray, List.map_cons, List.map_nil] <;> rfl)) (by refine (sameU_any _ _ u u A A c c _ (ru.body.below hS19.bel (Nat.le_refl _)) (ru.body.below hS19.bel (Nat.le_refl _)) hS19.bel.size hS19.bel.size).mono fun e w' g => ?_; obtain ⟨x, rfl, hx, hb⟩ := g; exact ⟨by rw [hx.out, sameU_self], hS19.keep hb⟩) ?_
  intro W24 hS24
  simp only [Act.put, List.setIfInBounds_toArray, List.set_cons_zero, List.set_cons_succ]
  refine tk (i := 25) (.bool true) hS24 rfl (by kernel_rfl) (by kernel_rfl) (by kernel_rfl) (fun _ _ _ h => h) (by kernel_rfl) (by intro _ _; exact rfl) ?_
  simp only [Act.put, List.setIfInBounds_toArray, List.set_cons_zero, List.set_cons_succ]
  refine tk (i := 26) (.bool true) hS24 rfl (by kernel_rfl) (by kernel_rfl) (by kernel_rfl) (fun _ _ _ h => h) (by kernel_rfl) (by intro _ _; exact rfl) ?_
  simp only [Act.put, List.setIfInBounds_toArray, List.set_cons_zero, List.set_cons_succ]
  refine tk_call (i := 27) (.bool true) (by kernel_rfl) rfl (by kernel_rfl) (by exact ex_call (by exact rfl) Try.func17 (by kernel_rfl) (by kernel_rfl) (by simp only [List.map_toArray, List.map_cons, List.map_nil] <;> rfl)) ((awake_any _).mono fun e w' g => ⟨g.1, hS24.keep g.2⟩) ?_
  intro W27 hS27
  simp only [Act.put, List.setIfInBounds_toArray, List.set_cons_zero, List.set_cons_succ]
  refine tk (i := 28) (.bool true) hS27 rfl (by kernel_rfl) (by kernel_rfl) (by kernel_rfl) (fun _ _ _ h => h) (by kernel_rfl) (by intro _ _; exact rfl) ?_
  simp only [Act.put, List.setIfInBounds_toArray, List.set_cons_zero, List.set_cons_succ]
  refine tk (i := 29) (.bool true) hS27 rfl (by kernel_rfl) (by kernel_rfl) (by kernel_rfl) (fun _ _ _ h => h) (by kernel_rfl) (by intro _ _; exact rfl) ?_
  simp only [Act.put, List.setIfInBounds_toArray, List.set_cons_zero, List.set_cons_succ]
  refine wpAnyH_done (by kernel_rfl) ?_ _
  go_wp2
  go_ret
  exact ⟨rfl, hS27.bel⟩
  -- END 1
end Go.Proofs.Ytaobnbjkhgcmlaa
