/-
  The walk of the reference's Options.
-/
import Derived.Test.YtfkcejfjmfliaaaOb
import Derived.Test.YtfkcejfjmfliaaaOptR
namespace Go.Proofs.Ytfkcejfjmfliaaa
open Go.RowKit Go.Shelf

theorem addk_i64 {P : Program} (t : TypeId) (k m : Nat) (h : k + m < 4611686018427387904) (w : World) : (binOp .add t (.int .i64 (k : Int)) (.int .i64 (m : Int))).run P w = .ok (.int .i64 ((k + m : Nat) : Int)) w := by
  go_simp
  exact IntWalk.i64_in _ (by omega)

set_option maxRecDepth 100000 in
set_option maxHeartbeats 2000000 in
theorem roptions_any (A : Option Addr) (c : Nat) (l : List Int) (w : World) (y : By w.heap.size w A l.length c l) (hs : l.length ≤ 1048576) :
    Calls Try.prog 27 #[.slice A l.length c] w fun e w' => ToldOs (optsOf l).2.1 (optsOf l).2.2 (optsOf l).1 w e w' := by
  obtain ⟨⟨VL, VA, VE⟩, hV⟩ : ∃ V, optsF l (l.length + 1) 0 [] = V := ⟨_, rfl⟩
  unfold optsOf
  rw [hV]
  obtain ⟨n, hn⟩ : ∃ n, l.length = n := ⟨_, rfl⟩
  rw [hn] at hV hs y ⊢
  have hVH := Lib.hid hV
  have hnH := Lib.hid hn
  have hin := y.rng
  clear hV hn
  dsimp only
  go_enter Try.func27, Try.ntmps27
  go_wp2
  go_loopw [5, 6] (fun lv i wr => ∃ (k f : Nat) (ps : List Kd), k ≤ n ∧ n - k < f ∧ Hid (optsF l f k (kdL ps) = (VL, VA, VE)) ∧ i = .int .i64 k ∧ OwnK wr w.heap.size 64 lv ps ∧ 2 * ps.length ≤ k ∧ Below w.heap.size w wr) (fun _ i _ => n - (intOf i).toNat)
  case atStart => exact ⟨0, n + 1, [], Nat.zero_le _, by omega, hVH, rfl, OwnK.nil _ _ _, by simp, Below.refl _ _⟩
  case round =>
    obtain ⟨k, f, ps, hk, hf, hV, rfl, hO, hps, hBr⟩ := hrel
    rename_i wr _
    cases f with
    | zero => omega
    | succ f =>
    replace hV := hV.out
    rw [optsF, hnH.out] at hV
    by_cases hlt : k < n
    case neg =>
      rw [if_pos (.inl (by omega))] at hV
      simp only [Prod.mk.injEq] at hV
      obtain ⟨rfl, rfl, rfl⟩ := hV
      have hge : ¬ ((k : Int) < (n : Int)) := by omega
      clear y
      go_wp2
      go_ret3
      exact ⟨_, ps, rfl, Lib.hid rfl, hO, hBr⟩
    case pos =>
    obtain ⟨b, off, hA, hbl, -⟩ := y.row.at_ (by omega)
    subst hA
    have yr := y.below hBr (Nat.le_refl _)
    have d0 := yr.atO (k := k) hlt
    have d0w := y.atO (k := k) hlt
    have r0 := getD_rng4 hin k
    obtain ⟨x0, hx0⟩ : ∃ x, l.getD k 0 = x := ⟨_, rfl⟩
    rw [hx0] at d0 d0w r0 hV
    have z0 : (k : Int) < (n : Int) := by omega
    by_cases h00 : x0 = 0
    case pos =>
      rw [if_pos (.inr h00)] at hV
      simp only [Prod.mk.injEq] at hV
      obtain ⟨rfl, rfl, rfl⟩ := hV
      subst h00
      clear y yr
      go_wp2
      go_ret3
      exact ⟨_, ps, rfl, Lib.hid rfl, hO, hBr⟩
    case neg =>
    rw [if_neg (by omega)] at hV
    by_cases h01 : x0 = 1
    case pos =>
      rw [if_pos h01] at hV
      subst h01
      have hVH2 := Lib.hid hV
      clear y yr hV
      go_wp2
      go_roundw
      case rel => exact ⟨k + 1, f, ps, by omega, by omega, hVH2, by go_num, hO, by omega, hBr⟩
      case measure => simp [intOf]; omega
    case neg =>
    rw [if_neg h01] at hV
    have yw := yr.more hBr.size
    by_cases h2 : n < k + 2
    case pos =>
      rw [if_pos (.inl (by rw [hnH.out]; exact h2))] at hV
      simp only [Prod.mk.injEq] at hV
      obtain ⟨rfl, rfl, rfl⟩ := hV
      have h2' : (n : Int) ≤ (k : Int) + 1 := by omega
      clear y yr yw
      go_wp2
      go_ret3
      exact ⟨_, ps, rfl, Lib.hid rfl, hO, hBr⟩
    case neg =>
    have d1 := yr.atO (k := k + 1) (by omega)
    have r1 := getD_rng4 hin (k + 1)
    obtain ⟨x1, hx1⟩ : ∃ x, l.getD (k + 1) 0 = x := ⟨_, rfl⟩
    rw [hx1] at d1 r1
    have z1 : (k : Int) + 1 < (n : Int) := by omega
    have z2 : ¬ ((n : Int) ≤ (k : Int) + 1) := by omega
    by_cases h3 : x1 < 2
    case pos =>
      rw [if_pos (.inr (.inl (by rw [hx1]; exact h3)))] at hV
      simp only [Prod.mk.injEq] at hV
      obtain ⟨rfl, rfl, rfl⟩ := hV
      clear y yr yw
      go_wp2
      go_ret3
      exact ⟨_, ps, rfl, Lib.hid rfl, hO, hBr⟩
    case neg =>
    by_cases h4 : (n : Int) < k + x1
    case pos =>
      rw [if_pos (.inr (.inr (by rw [hx1, hnH.out]; exact h4)))] at hV
      simp only [Prod.mk.injEq] at hV
      obtain ⟨rfl, rfl, rfl⟩ := hV
      clear y yr yw
      go_wp2
      go_ret3
      exact ⟨_, ps, rfl, Lib.hid rfl, hO, hBr⟩
    case neg =>
      have hbad : ¬ optBad l k := by unfold optBad; rw [hx1, hnH.out]; omega
      rw [if_neg hbad] at hV
      have hlen := optD_len hbad
      rw [hnH.out] at hlen
      obtain ⟨N, rfl⟩ : ∃ N : Nat, x1 = (N : Int) := ⟨x1.toNat, by omega⟩
      have hN : optN l k = N := by unfold optN; rw [hx1]; omega
      rw [hN] at hV hlen
      have hVH2 := Lib.hid hV
      obtain ⟨A', c', hsl, yd⟩ := By.mid yw 25 Try.underlying25 (by kernel_rfl) (k := k + 2) (m := k + N) (by omega) (by omega)
      have hD : (l.take (k + N)).drop (k + 2) = optD l k := by unfold optD; rw [hN]
      rw [hD] at yd
      generalize optD l k = D at hlen yd hVH2
      have hDl : k + N - (k + 2) = D.length := by omega
      rw [hDl] at hsl yd
      have z3 : ¬ (x0 = 1) := h01
      have hDs : D.length ≤ 1048576 := by omega
      have hO1 := hO.below (below_drew _ _ : Below wr.heap.size wr wr.drew)
      have yd1 := yd.below (below_drew _ _ : Below wr.heap.size wr wr.drew) (Nat.le_refl _)
      have hB1 := hBr.trans (below_drew _ _ : Below w.heap.size wr wr.drew)
      clear y yr yw yd hbad hV hN hx1 hx0 hD hDl hO
      go_wp2
      refine wp_region_held_drew (S := fun W => Below w.heap.size w W) (by kernel_rfl) hB1 (fun hS => ?_)
      obtain ⟨W1, hW1⟩ : ∃ W, wr.drew = W := ⟨_, rfl⟩
      have hge : wr.heap.size = W1.heap.size := by rw [← hW1]; rfl
      rw [hge] at yd1
      rw [hW1] at hS hO1 yd1 ⊢
      clear hW1 hge hB1
      -- REGION 9
      refine tk (i := 0) (u5) hS rfl (by kernel_rfl) (by kernel_rfl) (by kernel_rfl) (fun _ _ _ h => h) (by kernel_rfl) (by intro _ _; exact rfl) ?_
      simp only [Act.put, List.setIfInBounds_toArray, List.set_cons_zero, List.set_cons_succ]
      refine tk (i := 1) (.slice (some ⟨b, off, none⟩) n c) hS rfl (by kernel_rfl) (by kernel_rfl) (by kernel_rfl) (fun _ _ _ h => h) (by kernel_rfl) (by intro _ _; exact rfl) ?_
      simp only [Act.put, List.setIfInBounds_toArray, List.set_cons_zero, List.set_cons_succ]
      refine tk (i := 2) (.int .i64 (k : Int)) hS rfl (by kernel_rfl) (by kernel_rfl) (by kernel_rfl) (fun _ _ _ h => h) (by kernel_rfl) (by intro _ _; exact rfl) ?_
      simp only [Act.put, List.setIfInBounds_toArray, List.set_cons_zero, List.set_cons_succ]
      refine tk (i := 3) (.pointer (some ⟨b, off + k, none⟩)) hS rfl (by kernel_rfl) (by kernel_rfl) (by kernel_rfl) (fun _ _ _ h => h) (by kernel_rfl) (by intro _ _; exact ex_index (by exact rfl) Try.underlying25 (by kernel_rfl) (by exact rfl) (by exact rfl) (by omega)) ?_
      simp only [Act.put, List.setIfInBounds_toArray, List.set_cons_zero, List.set_cons_succ]
      refine tk (i := 4) (.int .u8 x0) hS rfl (by kernel_rfl) (by kernel_rfl) (by kernel_rfl) (fun _ _ _ h => h) (by kernel_rfl) (by intro _ h; exact ex_cell (by exact rfl) Try.underlying5 rfl (by exact rfl) ((h.cell (p := ⟨b, off + k, none⟩) hbl).trans d0w)) ?_
      simp only [Act.put, List.setIfInBounds_toArray, List.set_cons_zero, List.set_cons_succ]
      refine tk (i := 6) (.slice (some ⟨b, off, none⟩) n c) hS rfl (by kernel_rfl) (by kernel_rfl) (by kernel_rfl) (fun _ _ _ h => h) (by kernel_rfl) (by intro _ _; exact rfl) ?_
      simp only [Act.put, List.setIfInBounds_toArray, List.set_cons_zero, List.set_cons_succ]
      refine tk (i := 7) (.int .i64 (k : Int)) hS rfl (by kernel_rfl) (by kernel_rfl) (by kernel_rfl) (fun _ _ _ h => h) (by kernel_rfl) (by intro _ _; exact rfl) ?_
      simp only [Act.put, List.setIfInBounds_toArray, List.set_cons_zero, List.set_cons_succ]
      refine tk (i := 8) (.int .i64 ((k + 2 : Nat) : Int)) hS rfl (by kernel_rfl) (by kernel_rfl) (by kernel_rfl) (fun _ _ _ h => h) (by kernel_rfl) (by intro _ _; exact ex_bin (by exact rfl) (by exact rfl) (by exact rfl) (by decide) (add2_i64 _ _ (by omega) _)) ?_
      simp only [Act.put, List.setIfInBounds_toArray, List.set_cons_zero, List.set_cons_succ]
      refine tk (i := 9) (.int .i64 (k : Int)) hS rfl (by kernel_rfl) (by kernel_rfl) (by kernel_rfl) (fun _ _ _ h => h) (by kernel_rfl) (by intro _ _; exact rfl) ?_
      simp only [Act.put, List.setIfInBounds_toArray, List.set_cons_zero, List.set_cons_succ]
      refine tk (i := 10) (.int .i64 (N : Int)) hS rfl (by kernel_rfl) (by kernel_rfl) (by kernel_rfl) (fun _ _ _ h => h) (by kernel_rfl) (by intro _ _; exact rfl) ?_
      simp only [Act.put, List.setIfInBounds_toArray, List.set_cons_zero, List.set_cons_succ]
      refine tk (i := 11) (.int .i64 ((k + N : Nat) : Int)) hS rfl (by kernel_rfl) (by kernel_rfl) (by kernel_rfl) (fun _ _ _ h => h) (by kernel_rfl) (by intro _ _; exact ex_bin (by exact rfl) (by exact rfl) (by exact rfl) (by decide) (addk_i64 _ _ _ (by omega) _)) ?_
      simp only [Act.put, List.setIfInBounds_toArray, List.set_cons_zero, List.set_cons_succ]
      refine tk (i := 12) (.slice A' D.length c') hS rfl (by kernel_rfl) (by kernel_rfl) (by kernel_rfl) (fun _ _ _ h => h) (by kernel_rfl) (by intro w' _; exact ex_slice (by exact rfl) (by exact rfl) (hsl w')) ?_
      simp only [Act.put, List.setIfInBounds_toArray, List.set_cons_zero, List.set_cons_succ]
      refine tk_one (by kernel_rfl) (op_build0 (i := 5) rfl (by kernel_rfl) rfl Try.underlying25 (by kernel_rfl) (fun _ hb => hS.trans (hb.mono (Below.size hS))) ?_)
      intro g W2 o3 hb2 hS2
      simp only [Act.put, List.setIfInBounds_toArray, List.set_cons_zero, List.set_cons_succ]
      refine tk_one (by kernel_rfl) (op_app (i := 13) (.tmp 65) (.tmp 72) _ rfl (by kernel_rfl) rfl Try.underlying25 (by kernel_rfl) W1.heap.size _ _ rfl (o3) _ _ _ _ _ rfl (yd1.below hb2 (Nat.le_refl _)) (by simpa using Nat.le_trans hDs (by decide)) (hb2.size) (fun _ hb => hS2.trans (hb.mono (Below.size hS))) ?_)
      intro v4 W3 o4 hb3 hS3
      rw [List.nil_append] at o4
      obtain ⟨A3, k3, rfl, _⟩ := own_shape o4.own
      have hO3 := hO1.below (hb2.trans hb3)
      have hne := hO1.apart o4 (Nat.le_refl _)
      simp only [Act.put, List.setIfInBounds_toArray, List.set_cons_zero, List.set_cons_succ]
      refine tk (i := 14) (.agg #[.int .u8 x0, .slice A3 D.length k3]) hS3 rfl (by kernel_rfl) (by kernel_rfl) (by kernel_rfl) (fun _ _ _ h => h) (by kernel_rfl) (by intro _ _; go_simp) ?_
      simp only [Act.put, List.setIfInBounds_toArray, List.set_cons_zero, List.set_cons_succ]
      refine tk_one (by kernel_rfl) (op_build_kd (i := 15) 45 64 (.tmp 74) rfl (by kernel_rfl) rfl Try.underlying45 opt_zero x0 (.slice A3 D.length k3) rfl (fun _ hb => hS3.trans (hb.mono (Below.size hS3))) ?_)
      intro g5 W4 hQ _ hb4 hS4
      have hO4 := hO3.below hb4
      have o5 := (o4.below hb4).more (Below.size hS)
      simp only [Act.put, List.setIfInBounds_toArray, List.set_cons_zero, List.set_cons_succ]
      refine tk_one (by kernel_rfl) (op_append_kd (i := 16) _ _ 45 rfl (by kernel_rfl) rfl w.heap.size 64 _ 32 Try.underlying45 opt_full rfl _ ps rfl hO4 g5 1 (x0, A3, k3, D) rfl (hQ.cell 0 rfl) (hQ.cell 1 rfl) r0.1 r0.2 o5 hne (by omega) (by simp only [maxLen]; omega) (Below.size hS4) (fun _ hb => hS4.trans hb) ?_)
      intro v6 W5 hO6 hb5 hS5
      simp only [Act.put, List.setIfInBounds_toArray, List.set_cons_zero, List.set_cons_succ]
      refine tk (i := 17) (v6) hS5 rfl (by kernel_rfl) (by kernel_rfl) (by kernel_rfl) (fun _ _ _ h => h) (by kernel_rfl) (by intro _ _; exact rfl) ?_
      simp only [Act.put, List.setIfInBounds_toArray, List.set_cons_zero, List.set_cons_succ]
      refine wpAnyH_done (by kernel_rfl) ?_ _
      go_wp2
      go_roundw
      case rel => exact ⟨k + N, f, ps ++ [(x0, A3, k3, D)], by omega, by omega, Lib.hid (by rw [kdL_append]; exact hVH2.out), by go_num, hO6, by rw [List.length_append, List.length_singleton]; omega, hS5⟩
      case measure => simp [intOf]; omega
      -- END 9
end Go.Proofs.Ytfkcejfjmfliaaa
