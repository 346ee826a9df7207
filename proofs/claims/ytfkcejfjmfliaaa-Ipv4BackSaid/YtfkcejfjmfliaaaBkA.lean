/-
  Merged by merge.py from Oa Ob Oc OptR OptS Of P4Q2 Og P4R P4S.
-/
import Derived.Test.YtfkcejfjmfliaaaP4O
import Derived.Test.YtfkcejfjmfliaaaReg3
import Derived.Test.YtfkcejfjmfliaaaReg2
import Derived.Test.YtfkcejfjmfliaaaRegB
import Derived.Test.YtfkcejfjmfliaaaClone
import Derived.Test.YtfkcejfjmfliaaaOpt
import Derived.Test.YtfkcejfjmfliaaaReg6
import Derived.Test.YtfkcejfjmfliaaaP4P

section
/-
  The walk of ipv4.option.
-/
namespace Go.Proofs.Ytfkcejfjmfliaaa
open Go.RowKit Go.Shelf

theorem opt_info : (Try.prog.info? 64).map (·.size) = some 2 := by kernel_rfl

set_option maxRecDepth 100000 in
theorem option_bad (A : Option Addr) (c : Nat) (l : List Int) (k : Nat) (w : World) (y : By w.heap.size w A l.length c l) (hk : k ≤ l.length) (hs : l.length ≤ 140737488355328) (hb : optBad l k) :
    Calls Try.prog 42 #[.slice A l.length c, .int .i64 (k : Int)] w fun e w' => e = .returned (.tuple #[.agg #[.int .u8 0, .slice none 0 0], .int .i64 0, .bool false]) ∧ Below w.heap.size w w' := by
  have hN : Has (w.alloc (.cells #[.int .u8 0, .slice none 0 0] 64)) w.heap.size (.cells #[.int .u8 0, .slice none 0 0] 64 (0, 0)) := Has.newAt rfl
  have hB : Below w.heap.size w ((w.alloc (.cells #[.int .u8 0, .slice none 0 0] 64)).setRow w.heap.size #[.int .u8 0, .slice none 0 0]) := ((Below.refl _ _).alloc (Nat.le_refl _) _).trans below_setRow'
  have y' := y.below ((Below.refl w.heap.size w).alloc (Nat.le_refl _) (.cells #[.int .u8 0, .slice none 0 0] 64)) (Nat.le_refl _)
  obtain ⟨n, hn⟩ : ∃ n, l.length = n := ⟨_, rfl⟩
  unfold optBad at hb
  rw [hn] at hb hk hs y y' ⊢
  have hin := y.rng
  by_cases h2 : n < k + 2
  case pos =>
    have h2' : (n : Int) - (k : Int) < 2 := by omega
    clear hb y y' hn
    go_enter Try.func42, Try.ntmps42
    go_wp2_with (refine wpList_store_row rfl 64 (.tmp 4) (.tmp 34) rfl w.heap.size _ rfl rfl 64 _ hN opt_info rfl (by simp [Value.oneCell']) ?_)
    exact bodyPost_ret (res_cell3 Try.results42 rfl (hN.setRow_same.load (P := Try.prog) 64 Try.underlying64 rfl opt_info) rfl rfl) rfl ⟨rfl, hB⟩
  case neg =>
  obtain ⟨b, off, hA, hbl, -⟩ := y.row.at_ (by omega)
  subst hA
  have d1 := y'.atO (k := k + 1) (by omega)
  have r1 := getD_rng4 hin (k + 1)
  obtain ⟨x1, hx1⟩ : ∃ x, l.getD (k + 1) 0 = x := ⟨_, rfl⟩
  rw [hx1] at d1 r1 hb
  have z1 : (k : Int) + 1 < (n : Int) := by omega
  have z2 : ¬ ((n : Int) - (k : Int) < 2) := by omega
  clear y y' hn
  by_cases h3 : x1 < 2
  case pos =>
    clear hb
    go_enter Try.func42, Try.ntmps42
    go_wp2_with (refine wpList_store_row rfl 64 (.tmp 4) (.tmp 34) rfl w.heap.size _ rfl rfl 64 _ hN opt_info rfl (by simp [Value.oneCell']) ?_)
    exact bodyPost_ret (res_cell3 Try.results42 rfl (hN.setRow_same.load (P := Try.prog) 64 Try.underlying64 rfl opt_info) rfl rfl) rfl ⟨rfl, hB⟩
  case neg =>
    have h4' : (n : Int) - (k : Int) < x1 := by omega
    clear hb
    go_enter Try.func42, Try.ntmps42
    go_wp2_with (refine wpList_store_row rfl 64 (.tmp 4) (.tmp 34) rfl w.heap.size _ rfl rfl 64 _ hN opt_info rfl (by simp [Value.oneCell']) ?_)
    exact bodyPost_ret (res_cell3 Try.results42 rfl (hN.setRow_same.load (P := Try.prog) 64 Try.underlying64 rfl opt_info) rfl rfl) rfl ⟨rfl, hB⟩

theorem add2_i64 {P : Program} (t : TypeId) (k : Nat) (h : k < 4611686018427387904) (w : World) : (binOp .add t (.int .i64 (k : Int)) (.int .i64 2)).run P w = .ok (.int .i64 ((k + 2 : Nat) : Int)) w := by
  go_simp
  exact IntWalk.i64_in _ (by omega)
/-- what the last region of option leans on -/
structure SO (w w' : World) : Prop where
  has : ∃ old, Has w' w.heap.size (.cells old 64 (0, 0)) ∧ old.size = 2
  bel : Below w.heap.size w w'
theorem SO.gt {w w' : World} (h : SO w w') : w.heap.size + 1 ≤ w'.heap.size := by
  obtain ⟨old, ho, _⟩ := h.has
  exact ho.lt
theorem SO.keep {w w' w'' : World} (h : SO w w') (hb : Below w'.heap.size w' w'') : SO w w'' := by
  obtain ⟨old, ho, hs⟩ := h.has
  exact ⟨⟨old, ho.below hb ho.lt, hs⟩, h.bel.trans (hb.mono h.bel.size)⟩
theorem SO.store {w w' w'' : World} {cs : Array Value} (h : SO w w') (hh : Has w'' w.heap.size (.cells cs 64 (0, 0))) (hb : Below w.heap.size w' w'') (hs : cs.size = 2) : SO w w'' := ⟨⟨cs, hh, hs⟩, h.bel.trans hb⟩

set_option maxRecDepth 100000 in
theorem option_ok (A : Option Addr) (c : Nat) (l : List Int) (k : Nat) (w : World) (y : By w.heap.size w A l.length c l) (hs : l.length ≤ 140737488355328) (hb : ¬ optBad l k) :
    Calls Try.prog 42 #[.slice A l.length c, .int .i64 (k : Int)] w fun e w' => (∃ p : Kd, e = .returned (.tuple #[.agg #[.int .u8 p.1, kdV p], .int .i64 ((k + optN l k : Nat) : Int), .bool true]) ∧ Hid ((p.1, p.2.2.2) = (l.getD k 0, optD l k)) ∧ OwnB w' w.heap.size (kdV p) p.2.2.2) ∧ Below w.heap.size w w' := by
  have hN : Has (w.alloc (.cells #[.int .u8 0, .slice none 0 0] 64)) w.heap.size (.cells #[.int .u8 0, .slice none 0 0] 64 (0, 0)) := Has.newAt rfl
  have hB : Below w.heap.size w (w.alloc (.cells #[.int .u8 0, .slice none 0 0] 64)) := (Below.refl _ _).alloc (Nat.le_refl _) _
  have y' := y.below hB (Nat.le_refl _)
  obtain ⟨n, hn⟩ : ∃ n, l.length = n := ⟨_, rfl⟩
  have hlen := (optD_len hb).1
  unfold optBad at hb
  rw [hn] at hb hs y y' ⊢
  have hin := y.rng
  obtain ⟨b, off, hA, hbl, -⟩ := y.row.at_ (by omega)
  subst hA
  have d0 := y'.atO (k := k) (by omega)
  have d0w := y.atO (k := k) (by omega)
  have d1 := y'.atO (k := k + 1) (by omega)
  have r0 := getD_rng4 hin k
  have r1 := getD_rng4 hin (k + 1)
  obtain ⟨x0, hx0⟩ : ∃ x, l.getD k 0 = x := ⟨_, rfl⟩
  obtain ⟨x1, hx1⟩ : ∃ x : Nat, l.getD (k + 1) 0 = (x : Int) := ⟨(l.getD (k + 1) 0).toNat, by omega⟩
  have hN' : optN l k = x1 := by unfold optN; rw [hx1]; omega
  rw [hx0] at d0 d0w r0 ⊢
  rw [hx1] at d1 r1 hb
  rw [hN'] at hlen ⊢
  obtain ⟨A', c', hsl, yd⟩ := By.mid y 25 Try.underlying25 (by kernel_rfl) (k := k + 2) (m := k + x1) (by omega) (by omega)
  have hD : (l.take (k + x1)).drop (k + 2) = optD l k := by unfold optD; rw [hN']
  rw [hD] at yd
  generalize optD l k = D at hlen yd ⊢
  have hDl : k + x1 - (k + 2) = D.length := by omega
  rw [hDl] at hsl yd
  have z0 : (k : Int) < (n : Int) := by omega
  have z1 : (k : Int) + 1 < (n : Int) := by omega
  have z2 : ¬ ((n : Int) - (k : Int) < 2) := by omega
  have z3 : ¬ ((x1 : Int) < 2) := by omega
  have z4 : ¬ ((n : Int) - (k : Int) < x1) := by omega
  have hDs : D.length ≤ 140737488355328 := by omega
  clear hb y y' hn hlen hN' hD hDl
  go_enter Try.func42, Try.ntmps42
  go_wp2
  have hS0 : SO w (w.alloc (.cells #[.int .u8 0, .slice none 0 0] 64)) := ⟨⟨_, hN, rfl⟩, hB⟩
  refine wp_region_held_drew (S := SO w) (by kernel_rfl) (hS0.keep (below_drew _ _)) (fun hS => ?_)
  -- REGION 4
  refine tk (i := 0) (.slice (some ⟨b, off, none⟩) n c) hS rfl (by kernel_rfl) (by kernel_rfl) (by kernel_rfl) (fun _ _ _ h => h) (by kernel_rfl) (by intro _ _; exact rfl) ?_
  simp only [Act.put, List.setIfInBounds_toArray, List.set_cons_zero, List.set_cons_succ]
  refine tk (i := 1) (.int .i64 (k : Int)) hS rfl (by kernel_rfl) (by kernel_rfl) (by kernel_rfl) (fun _ _ _ h => h) (by kernel_rfl) (by intro _ _; exact rfl) ?_
  simp only [Act.put, List.setIfInBounds_toArray, List.set_cons_zero, List.set_cons_succ]
  refine tk (i := 2) (.pointer (some ⟨b, off + k, none⟩)) hS rfl (by kernel_rfl) (by kernel_rfl) (by kernel_rfl) (fun _ _ _ h => h) (by kernel_rfl) (by intro _ _; exact ex_index (by exact rfl) Try.underlying25 (by kernel_rfl) (by exact rfl) (by exact rfl) (by omega)) ?_
  simp only [Act.put, List.setIfInBounds_toArray, List.set_cons_zero, List.set_cons_succ]
  refine tk (i := 3) (.int .u8 x0) hS rfl (by kernel_rfl) (by kernel_rfl) (by kernel_rfl) (fun _ _ _ h => h) (by kernel_rfl) (by intro _ h; exact ex_cell (by exact rfl) Try.underlying5 rfl (by exact rfl) (h.bel.cell (p := ⟨b, off + k, none⟩) hbl ▸ d0w)) ?_
  simp only [Act.put, List.setIfInBounds_toArray, List.set_cons_zero, List.set_cons_succ]
  refine tk (i := 4) (.slice (some ⟨b, off, none⟩) n c) hS rfl (by kernel_rfl) (by kernel_rfl) (by kernel_rfl) (fun _ _ _ h => h) (by kernel_rfl) (by intro _ _; exact rfl) ?_
  simp only [Act.put, List.setIfInBounds_toArray, List.set_cons_zero, List.set_cons_succ]
  refine tk (i := 5) (.int .i64 (k : Int)) hS rfl (by kernel_rfl) (by kernel_rfl) (by kernel_rfl) (fun _ _ _ h => h) (by kernel_rfl) (by intro _ _; exact rfl) ?_
  simp only [Act.put, List.setIfInBounds_toArray, List.set_cons_zero, List.set_cons_succ]
  refine tk (i := 6) (.int .i64 ((k + 2 : Nat) : Int)) hS rfl (by kernel_rfl) (by kernel_rfl) (by kernel_rfl) (fun _ _ _ h => h) (by kernel_rfl) (by intro _ _; exact ex_bin (by exact rfl) (by exact rfl) (by exact rfl) (by decide) (add2_i64 _ _ (by omega) _)) ?_
  simp only [Act.put, List.setIfInBounds_toArray, List.set_cons_zero, List.set_cons_succ]
  refine tk (i := 7) (.int .i64 ((k + x1 : Nat) : Int)) hS rfl (by kernel_rfl) (by kernel_rfl) (by kernel_rfl) (fun _ _ _ h => h) (by kernel_rfl) (by intro _ _; exact rfl) ?_
  simp only [Act.put, List.setIfInBounds_toArray, List.set_cons_zero, List.set_cons_succ]
  refine tk (i := 8) (.slice A' D.length c') hS rfl (by kernel_rfl) (by kernel_rfl) (by kernel_rfl) (fun _ _ _ h => h) (by kernel_rfl) (by intro w' _; exact ex_slice (by exact rfl) (by exact rfl) (hsl w')) ?_
  simp only [Act.put, List.setIfInBounds_toArray, List.set_cons_zero, List.set_cons_succ]
  refine tk (i := 11) (.int .i64 ((k + x1 : Nat) : Int)) hS rfl (by kernel_rfl) (by kernel_rfl) (by kernel_rfl) (fun _ _ _ h => h) (by kernel_rfl) (by intro _ _; exact rfl) ?_
  simp only [Act.put, List.setIfInBounds_toArray, List.set_cons_zero, List.set_cons_succ]
  refine tk_callx (i := 9) (fun v w' => OwnB w' (w.heap.size + 1) v D) (by kernel_rfl) rfl (by kernel_rfl) (by exact ex_call (by exact rfl) Try.func38 (by kernel_rfl) (by kernel_rfl) (by simp only [List.map_toArray, List.map_cons, List.map_nil] <;> rfl)) (by refine (clone_any A' c' D _ ((yd.below hS.bel (Nat.le_refl _)).more hS.bel.size) hDs).mono ?_; rintro e w' ⟨v, h1, h2, h3⟩; exact ⟨v, h1, h2.more hS.gt, hS.keep h3⟩) ?_
  rintro v3 W3 ho3 hS3
  obtain ⟨A3, k3, rfl, _⟩ := own_shape ho3.own
  simp only [Act.put, List.setIfInBounds_toArray, List.set_cons_zero, List.set_cons_succ]
  refine tk (i := 10) (.agg #[.int .u8 x0, .slice A3 D.length k3]) hS3 rfl (by kernel_rfl) (by kernel_rfl) (by kernel_rfl) (fun _ _ _ h => h) (by kernel_rfl) (by intro _ _; go_simp) ?_
  simp only [Act.put, List.setIfInBounds_toArray, List.set_cons_zero, List.set_cons_succ]
  obtain ⟨old, hold, hold2⟩ := hS3.has
  refine tk_store (i := 12) (by kernel_rfl) rfl (by kernel_rfl) rfl rfl rfl hold opt_info hold2 (by simp [Value.oneCell']) (hS3.store hold.setRow_same below_setRow' rfl) ?_
  have hS4 := hS3.store hold.setRow_same (cs := #[.int .u8 x0, .slice A3 D.length k3]) below_setRow' rfl
  simp only [Act.put, List.setIfInBounds_toArray, List.set_cons_zero, List.set_cons_succ]
  refine tk (i := 13) (.int .i64 ((k + x1 : Nat) : Int)) hS4 rfl (by kernel_rfl) (by kernel_rfl) (by kernel_rfl) (fun _ _ _ h => h) (by kernel_rfl) (by intro _ _; exact rfl) ?_
  simp only [Act.put, List.setIfInBounds_toArray, List.set_cons_zero, List.set_cons_succ]
  refine tk (i := 14) (.bool true) hS4 rfl (by kernel_rfl) (by kernel_rfl) (by kernel_rfl) (fun _ _ _ h => h) (by kernel_rfl) (by intro _ _; exact rfl) ?_
  simp only [Act.put, List.setIfInBounds_toArray, List.set_cons_zero, List.set_cons_succ]
  refine wpAnyH_done (by kernel_rfl) ?_ _
  have hH4 := hold.setRow_same (cs' := #[.int .u8 x0, .slice A3 D.length k3])
  have ho4 := (ho3.setRow (g := w.heap.size) (cs := #[.int .u8 x0, .slice A3 D.length k3]) (Nat.lt_succ_self _)).more (Nat.le_succ _)
  go_wp2
  exact bodyPost_ret (res_cell3 Try.results42 rfl (hH4.load (P := Try.prog) 64 Try.underlying64 rfl opt_info) rfl rfl) rfl ⟨⟨(x0, A3, k3, D), rfl, Lib.hid rfl, ho4⟩, hS4.bel⟩
  -- END 4
end Go.Proofs.Ytfkcejfjmfliaaa
end

section
/-
  The walk of ipv4.Options.
-/
namespace Go.Proofs.Ytfkcejfjmfliaaa
open Go.RowKit Go.Shelf

theorem opt_full : (Try.prog.info? 64).map (fun i => (i.zero, i.size, i.bytes)) = some (some (.agg #[.int .u8 0, .slice none 0 0]), 2, 32) := by kernel_rfl
theorem opt_zero : (Try.prog.info? 64).map (fun i => (i.zero, i.size)) = some (some (.agg #[.int .u8 0, .slice none 0 0]), 2) := by kernel_rfl
def ToldOs (at_ err : Int) (os : List (Int × List Int)) (w : World) (e : Ending) (w' : World) : Prop := ∃ v ps, e = .returned (.tuple #[v, .int .i64 at_, .int .i64 err]) ∧ Hid (kdL ps = os) ∧ OwnK w' w.heap.size 64 v ps ∧ Below w.heap.size w w'

set_option maxRecDepth 100000 in
set_option maxHeartbeats 2000000 in
theorem options_any (A : Option Addr) (c : Nat) (l : List Int) (w : World) (y : By w.heap.size w A l.length c l) (hs : l.length ≤ 1048576) :
    Calls Try.prog 26 #[.slice A l.length c] w fun e w' => ToldOs (optsOf l).2.1 (optsOf l).2.2 (if (optsOf l).2.2 = 0 then (optsOf l).1 else []) w e w' := by
  obtain ⟨⟨VL, VA, VE⟩, hV⟩ : ∃ V, optsF l (l.length + 1) 0 [] = V := ⟨_, rfl⟩
  unfold optsOf
  rw [hV]
  obtain ⟨n, hn⟩ : ∃ n, l.length = n := ⟨_, rfl⟩
  have hopt : ∀ (k : Nat) (W : World), By W.heap.size W A n c l → k ≤ n → optBad l k → _ := fun k W yW hk hb => option_bad A c l k W (by rw [hn]; exact yW) (by rw [hn]; exact hk) (by omega) hb
  have hopk : ∀ (k : Nat) (W : World), By W.heap.size W A n c l → ¬ optBad l k → _ := fun k W yW hb => option_ok A c l k W (by rw [hn]; exact yW) (by omega) hb
  rw [hn] at hopt hopk hV hs y ⊢
  have hVH := Lib.hid hV
  have hnH := Lib.hid hn
  have hoptH := Lib.hid hopt
  have hopkH := Lib.hid hopk
  have hin := y.rng
  clear hV hn hopt hopk
  dsimp only
  go_enter Try.func26, Try.ntmps26
  go_wp2
  go_loopw [5, 6] (fun lv i wr => ∃ (k f : Nat) (ps : List Kd), k ≤ n ∧ n - k < f ∧ Hid (optsF l f k (kdL ps) = (VL, VA, VE)) ∧ i = .int .i64 k ∧ OwnK wr w.heap.size 64 lv ps ∧ 2 * ps.length ≤ k ∧ Below w.heap.size w wr) (fun _ i _ => n - (intOf i).toNat)
  case atStart => exact ⟨0, n + 1, [], Nat.zero_le _, by omega, hVH, rfl, OwnK.nil _ _ _, by simp, Below.refl _ _⟩
  case round =>
    obtain ⟨k, f, ps, hk, hf, hV, rfl, hO, hps, hBr⟩ := hrel
    rename_i wr _
    cases f with
    | zero => omega
    | succ f =>
    replace hV := hV.out
    rw [optsF, hnH.out] at hV
    by_cases hlt : k < n
    case neg =>
      rw [if_pos (.inl (by omega))] at hV
      simp only [Prod.mk.injEq] at hV
      obtain ⟨rfl, rfl, rfl⟩ := hV
      have hge : ¬ ((k : Int) < (n : Int)) := by omega
      clear y
      go_wp2
      go_ret3
      exact ⟨_, ps, rfl, Lib.hid rfl, hO, hBr⟩
    case pos =>
    obtain ⟨b, off, hA, hbl, -⟩ := y.row.at_ (by omega)
    subst hA
    have yr := y.below hBr (Nat.le_refl _)
    have d0 := yr.atO (k := k) hlt
    have r0 := getD_rng4 hin k
    obtain ⟨x0, hx0⟩ : ∃ x, l.getD k 0 = x := ⟨_, rfl⟩
    rw [hx0] at d0 r0 hV
    have z0 : (k : Int) < (n : Int) := by omega
    by_cases h00 : x0 = 0
    case pos =>
      rw [if_pos (.inr h00)] at hV
      simp only [Prod.mk.injEq] at hV
      obtain ⟨rfl, rfl, rfl⟩ := hV
      subst h00
      clear y yr
      go_wp2
      go_ret3
      exact ⟨_, ps, rfl, Lib.hid rfl, hO, hBr⟩
    case neg =>
    rw [if_neg (by omega)] at hV
    by_cases h01 : x0 = 1
    case pos =>
      rw [if_pos h01] at hV
      subst h01
      have hVH2 := Lib.hid hV
      clear y yr hV
      go_wp2
      go_roundw
      case rel => exact ⟨k + 1, f, ps, by omega, by omega, hVH2, by go_num, hO, by omega, hBr⟩
      case measure => simp [intOf]; omega
    case neg =>
    rw [if_neg h01] at hV
    have yw := yr.more hBr.size
    by_cases hbad : optBad l k
    case pos =>
      rw [if_pos hbad] at hV
      simp only [Prod.mk.injEq] at hV
      obtain ⟨rfl, rfl, rfl⟩ := hV
      have hcall := Lib.hid (hoptH.out k wr yw (Nat.le_of_lt hlt) hbad)
      clear y yr yw hbad
      go_wp2_with fail
      refine hcall.out.mono ?_
      rintro e w3 ⟨rfl, hb⟩
      have hB3 := hBr.trans (hb.mono hBr.size)
      have hN : Has (w3.alloc (.cells #[.int .u8 0, .slice none 0 0] 64)) w3.heap.size (.cells #[.int .u8 0, .slice none 0 0] 64 (0, 0)) := Has.newAt rfl
      go_wp2_with (refine wpList_store_row rfl 64 (.tmp 7) (.tmp 32) rfl w3.heap.size _ rfl rfl 64 _ hN opt_info rfl (by simp [Value.oneCell']) ?_)
      have hB4 := hB3.trans (((Below.refl w3.heap.size w3).alloc (Nat.le_refl _) (.cells #[.int .u8 0, .slice none 0 0] 64)).trans (below_setRow' (cs := #[.int .u8 0, .slice none 0 0])) |>.mono hB3.size)
      go_ret3
      exact ⟨_, [], rfl, Lib.hid rfl, OwnK.nil _ _ _, hB4⟩
    case neg =>
      rw [if_neg hbad] at hV
      have hcall := Lib.hid (hopkH.out k wr yw hbad)
      have hlen := optD_len hbad
      rw [hnH.out] at hlen
      have hl2 : 2 ≤ optN l k := by omega
      obtain ⟨N, hN⟩ : ∃ N, optN l k = N := ⟨_, rfl⟩
      rw [hN] at hV hlen hcall hl2
      have hVH2 := Lib.hid hV
      clear y yr yw hbad hV hN
      go_wp2_with fail
      refine hcall.out.mono ?_
      rintro e w3 ⟨⟨⟨pk, pA, pc, pl⟩, rfl, hp, ho⟩, hb⟩
      have hB3 := hBr.trans (hb.mono hBr.size)
      have hO3 := hO.below hb
      have hne := hO.apart ho (Nat.le_refl _)
      have ho3 := ho.more hBr.size
      have hN : Has (w3.alloc (.cells #[.int .u8 0, .slice none 0 0] 64)) w3.heap.size (.cells #[.int .u8 0, .slice none 0 0] 64 (0, 0)) := Has.newAt rfl
      have hX : Below w3.heap.size w3 ((w3.alloc (.cells #[.int .u8 0, .slice none 0 0] 64)).setRow w3.heap.size #[.int .u8 pk, kdV (pk, pA, pc, pl)]) := ((Below.refl w3.heap.size w3).alloc (Nat.le_refl _) (.cells #[.int .u8 0, .slice none 0 0] 64)).trans below_setRow'
      have hH := hN.setRow_same (cs' := #[.int .u8 pk, kdV (pk, pA, pc, pl)])
      obtain ⟨W4, hW4⟩ : ∃ W, (w3.alloc (.cells #[.int .u8 0, .slice none 0 0] 64)).setRow w3.heap.size #[.int .u8 pk, kdV (pk, pA, pc, pl)] = W := ⟨_, rfl⟩
      have hO4 := hO3.below hX
      have ho4 := ho3.below hX
      rw [hW4] at hX hH hO4 ho4
      have hY : Below W4.heap.size W4 (W4.alloc (.cells #[.int .u8 pk, kdV (pk, pA, pc, pl)] 64)) := (Below.refl _ _).alloc (Nat.le_refl _) _
      have hO5 := hO4.below hY
      have ho5 := ho4.below hY
      have hQ : Has (W4.alloc (.cells #[.int .u8 pk, kdV (pk, pA, pc, pl)] 64)) W4.heap.size (.cells #[.int .u8 pk, kdV (pk, pA, pc, pl)] 64 (0, 0)) := Has.newAt rfl
      have e0 := hQ.cell 0 (v := .int .u8 pk) rfl
      have e1 := hQ.cell 1 (v := kdV (pk, pA, pc, pl)) rfl
      have hp1 : pk = x0 := (congrArg Prod.fst hp.out).trans hx0
      have hp2 : pl = optD l k := congrArg Prod.snd hp.out
      have hp2H := Lib.hid hp2
      have hp1H := Lib.hid hp1
      have hpr : 0 ≤ pk ∧ pk ≤ 255 := by omega
      have hbase := Nat.le_trans hB3.size (Nat.le_trans hX.size hY.size)
      have hB5 := hB3.trans ((hX.trans (hY.mono hX.size)).mono hB3.size)
      clear hp hp1 hp2 hO hO3 hO4 ho ho3 ho4 hb hx0 d0
      go_wp2_with (first
        | (refine wpList_store_row rfl 64 (.tmp 7) (.tmp 32) rfl w3.heap.size _ rfl rfl 64 _ hN opt_info rfl (by simp [kdV, Value.oneCell']) ?_; rw [hW4])
        | (refine wpList_load_row rfl 64 (.tmp 7) rfl w3.heap.size rfl 64 #[.int .u8 pk, kdV (pk, pA, pc, pl)] (0, 0) _ hH Try.underlying64 rfl opt_info ?_)
        | (refine wpList_build_kd _ rfl 45 64 (.tmp 39) rfl Try.underlying45 opt_zero pk _ rfl ?_)
        | (refine wpList_append_kd _ rfl _ _ 45 rfl w.heap.size 64 _ 32 Try.underlying45 opt_full rfl _ ps rfl hO5 W4.heap.size 1 (pk, pA, pc, pl) rfl e0 e1 hpr.1 hpr.2 ho5 hne (by omega) (by simp only [maxLen]; omega) hbase ?_; intro v6 w6 hO6 hg6 hat6; have hb6 := below_own hO5.own hg6 hbase))
      go_roundw
      case rel => exact ⟨k + N, f, ps ++ [(pk, pA, pc, pl)], by omega, by omega, Lib.hid (by rw [kdL_append, show kdL [(pk, pA, pc, pl)] = [(pk, pl)] from rfl, hp1H.out, hp2H.out]; exact hVH2.out), by go_num, hO6, by rw [List.length_append, List.length_singleton]; omega, hB5.trans hb6⟩
      case measure => simp [intOf]; omega
end Go.Proofs.Ytfkcejfjmfliaaa
end

section
/-
  The walk of ipv4.Routed.
-/
namespace Go.Proofs.Ytfkcejfjmfliaaa
open Go.RowKit Go.Shelf

section
variable {P : Program}
theorem gtr_t (t : TypeId) (x y : Int) (h : y < x) (w : World) : (binOp .gtr t (.int .i64 x) (.int .i64 y)).run P w = .ok (.bool true) w := by simp [binOp, Op.intCmp, h]
theorem gtr_f (t : TypeId) (x y : Int) (h : ¬ y < x) (w : World) : (binOp .gtr t (.int .i64 x) (.int .i64 y)).run P w = .ok (.bool false) w := by simp [binOp, Op.intCmp, h]
theorem leq_t (t : TypeId) (x y : Int) (h : x ≤ y) (w : World) : (binOp .leq t (.int .i64 x) (.int .i64 y)).run P w = .ok (.bool true) w := by simp [binOp, Op.intCmp, h]
theorem leq_f (t : TypeId) (x y : Int) (h : ¬ x ≤ y) (w : World) : (binOp .leq t (.int .i64 x) (.int .i64 y)).run P w = .ok (.bool false) w := by simp [binOp, Op.intCmp, h]
theorem add_i64r (t : TypeId) (x y : Int) (h : -9223372036854775808 ≤ x + y ∧ x + y < 9223372036854775808) (w : World) : (binOp .add t (.int .i64 x) (.int .i64 y)).run P w = .ok (.int .i64 (x + y)) w := by
  have h1 := h.1
  have h2 := h.2
  clear h
  go_simp
  exact IntWalk.i64_in _ (by omega)
end

set_option maxRecDepth 100000 in
set_option maxHeartbeats 2000000 in
theorem routed_any (A : Option Addr) (c : Nat) (l : List Int) (w : World) (y : By w.heap.size w A l.length c l) (hs : l.length ≤ 1048576) :
    Calls Try.prog 31 #[.slice A l.length c] w fun e w' => e = .returned (.bool (routOf l)) ∧ Below w.heap.size w w' := by
  obtain ⟨V, hV⟩ : ∃ V, routF l (l.length + 1) 0 = V := ⟨_, rfl⟩
  unfold routOf
  rw [hV]
  obtain ⟨n, hn⟩ : ∃ n, l.length = n := ⟨_, rfl⟩
  have hopt : ∀ (k : Nat) (W : World), By W.heap.size W A n c l → k ≤ n → optBad l k → _ := fun k W yW hk hb => option_bad A c l k W (by rw [hn]; exact yW) (by rw [hn]; exact hk) (by omega) hb
  have hopk : ∀ (k : Nat) (W : World), By W.heap.size W A n c l → ¬ optBad l k → _ := fun k W yW hb => option_ok A c l k W (by rw [hn]; exact yW) (by omega) hb
  rw [hn] at hopt hopk hV hs y ⊢
  have hVH := Lib.hid hV
  have hnH := Lib.hid hn
  have hoptH := Lib.hid hopt
  have hopkH := Lib.hid hopk
  have hin := y.rng
  clear hV hn hopt hopk
  go_enter Try.func31, Try.ntmps31
  go_wp2
  go_loopw [3] (fun i wr => ∃ (k f : Nat), k ≤ n ∧ n - k < f ∧ Hid (routF l f k = V) ∧ i = .int .i64 k ∧ Below w.heap.size w wr) (fun i _ => n - (intOf i).toNat)
  case atStart => exact ⟨0, n + 1, Nat.zero_le _, by omega, hVH, rfl, Below.refl _ _⟩
  case round =>
    obtain ⟨k, f, hk, hf, hV, rfl, hBr⟩ := hrel
    rename_i wr _
    cases f with
    | zero => omega
    | succ f =>
    replace hV := hV.out
    rw [routF, hnH.out] at hV
    by_cases hlt : k < n
    case neg =>
      rw [if_pos (.inl (by omega))] at hV
      have hge : ¬ ((k : Int) < (n : Int)) := by omega
      obtain rfl : V = false := hV.symm
      clear y hV
      go_wp2
      go_ret
      exact ⟨rfl, hBr⟩
    case pos =>
    obtain ⟨b, off, hA, hbl, -⟩ := y.row.at_ (by omega)
    subst hA
    have yr := y.below hBr (Nat.le_refl _)
    have d0 := yr.atO (k := k) hlt
    have r0 := getD_rng4 hin k
    obtain ⟨x0, hx0⟩ : ∃ x, l.getD k 0 = x := ⟨_, rfl⟩
    rw [hx0] at d0 r0 hV
    have z0 : (k : Int) < (n : Int) := by omega
    by_cases h00 : x0 = 0
    case pos =>
      rw [if_pos (.inr h00)] at hV
      subst h00
      obtain rfl : V = false := hV.symm
      clear y yr hV
      go_wp2
      go_ret
      exact ⟨rfl, hBr⟩
    case neg =>
    rw [if_neg (by omega)] at hV
    by_cases h01 : x0 = 1
    case pos =>
      rw [if_pos h01] at hV
      subst h01
      have hVH2 := Lib.hid hV
      clear y yr hV
      go_wp2
      go_roundw
      case rel => exact ⟨k + 1, f, by omega, by omega, hVH2, by go_num, hBr⟩
      case measure => simp [intOf]; omega
    case neg =>
    rw [if_neg h01] at hV
    have yw := yr.more hBr.size
    by_cases hbad : optBad l k
    case pos =>
      rw [if_pos hbad] at hV
      obtain rfl : V = false := hV.symm
      have hcall := Lib.hid (hoptH.out k wr yw (Nat.le_of_lt hlt) hbad)
      clear y yr yw hbad hV
      go_wp2_with fail
      refine hcall.out.mono ?_
      rintro e w3 ⟨rfl, hb⟩
      have hB3 := hBr.trans (hb.mono hBr.size)
      have hN : Has (w3.alloc (.cells #[.int .u8 0, .slice none 0 0] 64)) w3.heap.size (.cells #[.int .u8 0, .slice none 0 0] 64 (0, 0)) := Has.newAt rfl
      go_wp2_with (refine wpList_store_row rfl 64 (.tmp 4) (.tmp 29) rfl w3.heap.size _ rfl rfl 64 _ hN opt_info rfl (by simp [Value.oneCell']) ?_)
      have hB4 := hB3.trans (((Below.refl w3.heap.size w3).alloc (Nat.le_refl _) (.cells #[.int .u8 0, .slice none 0 0] 64)).trans (below_setRow' (cs := #[.int .u8 0, .slice none 0 0])) |>.mono hB3.size)
      go_ret
      exact ⟨rfl, hB4⟩
    case neg =>
      rw [if_neg hbad] at hV
      have hcall := Lib.hid (hopkH.out k wr yw hbad)
      have hlen := optD_len hbad
      rw [hnH.out] at hlen
      have hl2 : 2 ≤ optN l k := by omega
      obtain ⟨N, hN⟩ : ∃ N, optN l k = N := ⟨_, rfl⟩
      rw [hN] at hV hlen hcall hl2
      clear y yr yw hbad hN
      go_wp2_with fail
      refine hcall.out.mono ?_
      rintro e w3 ⟨⟨⟨pk, pA, pc, pl⟩, rfl, hp, ho⟩, hb⟩
      have hB3 := hBr.trans (hb.mono hBr.size)
      have hN : Has (w3.alloc (.cells #[.int .u8 0, .slice none 0 0] 64)) w3.heap.size (.cells #[.int .u8 0, .slice none 0 0] 64 (0, 0)) := Has.newAt rfl
      have hX : Below w3.heap.size w3 ((w3.alloc (.cells #[.int .u8 0, .slice none 0 0] 64)).setRow w3.heap.size #[.int .u8 pk, kdV (pk, pA, pc, pl)]) := ((Below.refl w3.heap.size w3).alloc (Nat.le_refl _) (.cells #[.int .u8 0, .slice none 0 0] 64)).trans below_setRow'
      have hH := hN.setRow_same (cs' := #[.int .u8 pk, kdV (pk, pA, pc, pl)])
      obtain ⟨W4, hW4⟩ : ∃ W, (w3.alloc (.cells #[.int .u8 0, .slice none 0 0] 64)).setRow w3.heap.size #[.int .u8 pk, kdV (pk, pA, pc, pl)] = W := ⟨_, rfl⟩
      have ho4 := ho.below hX
      rw [hW4] at hX hH ho4
      have hGl := hH.lt
      have e0 := hH.cell 0 (v := .int .u8 pk) rfl
      have e1 := hH.cell 1 (v := .slice pA pl.length pc) rfl
      have hB4 := hB3.trans (hX.mono hB3.size)
      have hp1 : pk = x0 := (congrArg Prod.fst hp.out).trans hx0
      have hp2 : pl = optD l k := congrArg Prod.snd hp.out
      rw [← hp1, ← hp2] at hV
      have yD : By W4.heap.size W4 pA pl.length pc pl := by
        obtain ⟨A', c', he, hy⟩ := ho4.by_
        simp only [kdV, Value.slice.injEq] at he
        obtain ⟨rfl, _, rfl⟩ := he
        exact hy
      have hpl := yD.rng
      obtain ⟨m, hm⟩ : ∃ m, pl.length = m := ⟨_, rfl⟩
      obtain ⟨x2, hx2⟩ : ∃ x, pl.getD 0 0 = x := ⟨_, rfl⟩
      have r2 := getD_rng4 hpl 0
      have hroute : routOne (pk, pl) = decide ((pk = 131 ∨ pk = 137) ∧ 0 < m ∧ x2 ≤ 2 + m) := by rw [← hm, ← hx2]; rfl
      rw [hroute] at hV
      rw [hm] at e1 yD
      rw [hx2] at r2
      have hpr : 0 ≤ pk ∧ pk ≤ 255 := by omega
      have hmb : m ≤ 1048576 := by rw [← hm, hp2]; omega
      have hVH2 := Lib.hid hV
      clear hroute hp hp1 hp2 ho ho4 hb d0 hx0
      by_cases hk1 : pk = 131 ∨ pk = 137
      case neg =>
        have hVn : Hid (routF l f (k + N) = V) := Lib.hid (by rw [← hVH2.out, if_neg (by simp [hk1])])
        have hk2 : ¬ pk = 131 := fun h => hk1 (.inl h)
        have hk3 : ¬ pk = 137 := fun h => hk1 (.inr h)
        clear hV hk1 yD hx2 hpl hVH2
        go_wp2_with (refine wpList_store_row rfl 64 (.tmp 4) (.tmp 29) rfl w3.heap.size _ rfl rfl 64 _ hN opt_info rfl (by simp [kdV, Value.oneCell']) ?_)
        refine wp_region_held_drew (S := fun W => Below W4.heap.size W4 W) (by kernel_rfl) (below_drew _ _) (fun hS => ?_)
        refine tk (i := 0) (.pointer (some ⟨w3.heap.size, 0, none⟩)) hS rfl (by kernel_rfl) (by kernel_rfl) (by kernel_rfl) (fun _ _ _ h => h) (by kernel_rfl) (by intro _ _; exact ex_field 0 0 (by exact rfl) Try.underlying64 (by exact rfl) rfl (by kernel_rfl) (by exact rfl)) ?_
        simp only [Act.put, List.setIfInBounds_toArray, List.set_cons_zero, List.set_cons_succ]
        refine tk (i := 1) (.int .u8 pk) hS rfl (by kernel_rfl) (by kernel_rfl) (by kernel_rfl) (fun _ _ _ h => h) (by kernel_rfl) (by intro _ h; exact ex_cell (by exact rfl) Try.underlying5 rfl (by exact rfl) ((h.cell (p := ⟨w3.heap.size, 0, none⟩) hGl).trans e0)) ?_
        simp only [Act.put, List.setIfInBounds_toArray, List.set_cons_zero, List.set_cons_succ]
        refine tk (i := 2) (.bool false) hS rfl (by kernel_rfl) (by kernel_rfl) (by kernel_rfl) (fun _ _ _ h => h) (by kernel_rfl) (by intro _ _; exact eq_int_ne (by exact rfl) (by exact rfl) (by exact rfl) hk2) ?_
        simp only [Act.put, List.setIfInBounds_toArray, List.set_cons_zero, List.set_cons_succ]
        refine tk (i := 3) (.bool false) hS rfl (by kernel_rfl) (by kernel_rfl) (by kernel_rfl) (fun _ _ _ h => h) (by kernel_rfl) (by intro _ _; exact rfl) ?_
        simp only [Act.put, List.setIfInBounds_toArray, List.set_cons_zero, List.set_cons_succ]
        refine tk (i := 4) (.pointer (some ⟨w3.heap.size, 0, none⟩)) hS rfl (by kernel_rfl) (by kernel_rfl) (by kernel_rfl) (fun _ _ _ h => h) (by kernel_rfl) (by intro _ _; exact ex_field 0 0 (by exact rfl) Try.underlying64 (by exact rfl) rfl (by kernel_rfl) (by exact rfl)) ?_
        simp only [Act.put, List.setIfInBounds_toArray, List.set_cons_zero, List.set_cons_succ]
        refine tk (i := 5) (.int .u8 pk) hS rfl (by kernel_rfl) (by kernel_rfl) (by kernel_rfl) (fun _ _ _ h => h) (by kernel_rfl) (by intro _ h; exact ex_cell (by exact rfl) Try.underlying5 rfl (by exact rfl) ((h.cell (p := ⟨w3.heap.size, 0, none⟩) hGl).trans e0)) ?_
        simp only [Act.put, List.setIfInBounds_toArray, List.set_cons_zero, List.set_cons_succ]
        refine tk (i := 6) (.bool false) hS rfl (by kernel_rfl) (by kernel_rfl) (by kernel_rfl) (fun _ _ _ h => h) (by kernel_rfl) (by intro _ _; exact eq_int_ne (by exact rfl) (by exact rfl) (by exact rfl) hk3) ?_
        simp only [Act.put, List.setIfInBounds_toArray, List.set_cons_zero, List.set_cons_succ]
        refine tk (i := 7) (.bool false) hS rfl (by kernel_rfl) (by kernel_rfl) (by kernel_rfl) (fun _ _ _ h => h) (by kernel_rfl) (by intro _ _; exact rfl) ?_
        simp only [Act.put, List.setIfInBounds_toArray, List.set_cons_zero, List.set_cons_succ]
        refine tk (i := 8) (.bool false) hS rfl (by kernel_rfl) (by kernel_rfl) (by kernel_rfl) (fun _ _ _ h => h) (by kernel_rfl) (by intro _ _; exact rfl) ?_
        simp only [Act.put, List.setIfInBounds_toArray, List.set_cons_zero, List.set_cons_succ]
        refine tkn (i := 9) hS rfl (by kernel_rfl) (by kernel_rfl) (by kernel_rfl) (fun _ _ _ h => h) (by kernel_rfl) ?_
        simp only [Act.put, List.setIfInBounds_toArray, List.set_cons_zero, List.set_cons_succ]
        refine tkn (i := 10) hS rfl (by kernel_rfl) (by kernel_rfl) (by kernel_rfl) (fun _ _ _ h => h) (by kernel_rfl) ?_
        simp only [Act.put, List.setIfInBounds_toArray, List.set_cons_zero, List.set_cons_succ]
        refine tkn (i := 11) hS rfl (by kernel_rfl) (by kernel_rfl) (by kernel_rfl) (fun _ _ _ h => h) (by kernel_rfl) ?_
        simp only [Act.put, List.setIfInBounds_toArray, List.set_cons_zero, List.set_cons_succ]
        refine tkn (i := 12) hS rfl (by kernel_rfl) (by kernel_rfl) (by kernel_rfl) (fun _ _ _ h => h) (by kernel_rfl) ?_
        simp only [Act.put, List.setIfInBounds_toArray, List.set_cons_zero, List.set_cons_succ]
        refine tk (i := 13) (.bool false) hS rfl (by kernel_rfl) (by kernel_rfl) (by kernel_rfl) (fun _ _ _ h => h) (by kernel_rfl) (by intro _ _; exact rfl) ?_
        simp only [Act.put, List.setIfInBounds_toArray, List.set_cons_zero, List.set_cons_succ]
        refine tk (i := 14) (.bool false) hS rfl (by kernel_rfl) (by kernel_rfl) (by kernel_rfl) (fun _ _ _ h => h) (by kernel_rfl) (by intro _ _; exact rfl) ?_
        simp only [Act.put, List.setIfInBounds_toArray, List.set_cons_zero, List.set_cons_succ]
        refine tkn (i := 15) hS rfl (by kernel_rfl) (by kernel_rfl) (by kernel_rfl) (fun _ _ _ h => h) (by kernel_rfl) ?_
        simp only [Act.put, List.setIfInBounds_toArray, List.set_cons_zero, List.set_cons_succ]
        refine tkn (i := 16) hS rfl (by kernel_rfl) (by kernel_rfl) (by kernel_rfl) (fun _ _ _ h => h) (by kernel_rfl) ?_
        simp only [Act.put, List.setIfInBounds_toArray, List.set_cons_zero, List.set_cons_succ]
        refine tkn (i := 17) hS rfl (by kernel_rfl) (by kernel_rfl) (by kernel_rfl) (fun _ _ _ h => h) (by kernel_rfl) ?_
        simp only [Act.put, List.setIfInBounds_toArray, List.set_cons_zero, List.set_cons_succ]
        refine tkn (i := 18) hS rfl (by kernel_rfl) (by kernel_rfl) (by kernel_rfl) (fun _ _ _ h => h) (by kernel_rfl) ?_
        simp only [Act.put, List.setIfInBounds_toArray, List.set_cons_zero, List.set_cons_succ]
        refine tkn (i := 19) hS rfl (by kernel_rfl) (by kernel_rfl) (by kernel_rfl) (fun _ _ _ h => h) (by kernel_rfl) ?_
        simp only [Act.put, List.setIfInBounds_toArray, List.set_cons_zero, List.set_cons_succ]
        refine tkn (i := 20) hS rfl (by kernel_rfl) (by kernel_rfl) (by kernel_rfl) (fun _ _ _ h => h) (by kernel_rfl) ?_
        simp only [Act.put, List.setIfInBounds_toArray, List.set_cons_zero, List.set_cons_succ]
        refine tkn (i := 21) hS rfl (by kernel_rfl) (by kernel_rfl) (by kernel_rfl) (fun _ _ _ h => h) (by kernel_rfl) ?_
        simp only [Act.put, List.setIfInBounds_toArray, List.set_cons_zero, List.set_cons_succ]
        refine tkn (i := 22) hS rfl (by kernel_rfl) (by kernel_rfl) (by kernel_rfl) (fun _ _ _ h => h) (by kernel_rfl) ?_
        simp only [Act.put, List.setIfInBounds_toArray, List.set_cons_zero, List.set_cons_succ]
        refine tkn (i := 23) hS rfl (by kernel_rfl) (by kernel_rfl) (by kernel_rfl) (fun _ _ _ h => h) (by kernel_rfl) ?_
        simp only [Act.put, List.setIfInBounds_toArray, List.set_cons_zero, List.set_cons_succ]
        refine tkn (i := 24) hS rfl (by kernel_rfl) (by kernel_rfl) (by kernel_rfl) (fun _ _ _ h => h) (by kernel_rfl) ?_
        simp only [Act.put, List.setIfInBounds_toArray, List.set_cons_zero, List.set_cons_succ]
        refine tk (i := 25) (.bool false) hS rfl (by kernel_rfl) (by kernel_rfl) (by kernel_rfl) (fun _ _ _ h => h) (by kernel_rfl) (by intro _ _; exact rfl) ?_
        simp only [Act.put, List.setIfInBounds_toArray, List.set_cons_zero, List.set_cons_succ]
        refine wpAnyH_done (by kernel_rfl) ?_ _
        go_wp2
        go_roundw
        case rel => exact ⟨k + N, f, by omega, by omega, hVn, by go_num, hB4.trans (hS.mono hB4.size)⟩
        case measure => simp [intOf]; omega
      case pos =>
      by_cases hm0 : m = 0
      case pos =>
        have hVn : Hid (routF l f (k + N) = V) := Lib.hid (by rw [← hVH2.out, if_neg (by simp [hm0])])
        clear hV yD hx2 hpl hVH2
        rcases hk1 with rfl | rfl
        · go_wp2_with (refine wpList_store_row rfl 64 (.tmp 4) (.tmp 29) rfl w3.heap.size _ rfl rfl 64 _ hN opt_info rfl (by simp [kdV, Value.oneCell']) ?_)
          refine wp_region_held_drew (S := fun W => Below W4.heap.size W4 W) (by kernel_rfl) (below_drew _ _) (fun hS => ?_)
          refine tk (i := 0) (.pointer (some ⟨w3.heap.size, 0, none⟩)) hS rfl (by kernel_rfl) (by kernel_rfl) (by kernel_rfl) (fun _ _ _ h => h) (by kernel_rfl) (by intro _ _; exact ex_field 0 0 (by exact rfl) Try.underlying64 (by exact rfl) rfl (by kernel_rfl) (by exact rfl)) ?_
          simp only [Act.put, List.setIfInBounds_toArray, List.set_cons_zero, List.set_cons_succ]
          refine tk (i := 1) (.int .u8 131) hS rfl (by kernel_rfl) (by kernel_rfl) (by kernel_rfl) (fun _ _ _ h => h) (by kernel_rfl) (by intro _ h; exact ex_cell (by exact rfl) Try.underlying5 rfl (by exact rfl) ((h.cell (p := ⟨w3.heap.size, 0, none⟩) hGl).trans e0)) ?_
          simp only [Act.put, List.setIfInBounds_toArray, List.set_cons_zero, List.set_cons_succ]
          refine tk (i := 2) (.bool true) hS rfl (by kernel_rfl) (by kernel_rfl) (by kernel_rfl) (fun _ _ _ h => h) (by kernel_rfl) (by intro _ _; exact eq_int_self (m := 131) (by exact rfl) (by exact rfl) (by exact rfl)) ?_
          simp only [Act.put, List.setIfInBounds_toArray, List.set_cons_zero, List.set_cons_succ]
          refine tk (i := 3) (.bool true) hS rfl (by kernel_rfl) (by kernel_rfl) (by kernel_rfl) (fun _ _ _ h => h) (by kernel_rfl) (by intro _ _; exact rfl) ?_
          simp only [Act.put, List.setIfInBounds_toArray, List.set_cons_zero, List.set_cons_succ]
          refine tkn (i := 4) hS rfl (by kernel_rfl) (by kernel_rfl) (by kernel_rfl) (fun _ _ _ h => h) (by kernel_rfl) ?_
          simp only [Act.put, List.setIfInBounds_toArray, List.set_cons_zero, List.set_cons_succ]
          refine tkn (i := 5) hS rfl (by kernel_rfl) (by kernel_rfl) (by kernel_rfl) (fun _ _ _ h => h) (by kernel_rfl) ?_
          simp only [Act.put, List.setIfInBounds_toArray, List.set_cons_zero, List.set_cons_succ]
          refine tkn (i := 6) hS rfl (by kernel_rfl) (by kernel_rfl) (by kernel_rfl) (fun _ _ _ h => h) (by kernel_rfl) ?_
          simp only [Act.put, List.setIfInBounds_toArray, List.set_cons_zero, List.set_cons_succ]
          refine tk (i := 7) (.bool true) hS rfl (by kernel_rfl) (by kernel_rfl) (by kernel_rfl) (fun _ _ _ h => h) (by kernel_rfl) (by intro _ _; exact rfl) ?_
          simp only [Act.put, List.setIfInBounds_toArray, List.set_cons_zero, List.set_cons_succ]
          refine tk (i := 8) (.bool true) hS rfl (by kernel_rfl) (by kernel_rfl) (by kernel_rfl) (fun _ _ _ h => h) (by kernel_rfl) (by intro _ _; exact rfl) ?_
          simp only [Act.put, List.setIfInBounds_toArray, List.set_cons_zero, List.set_cons_succ]
          refine tk (i := 9) (.pointer (some ⟨w3.heap.size, 1, none⟩)) hS rfl (by kernel_rfl) (by kernel_rfl) (by kernel_rfl) (fun _ _ _ h => h) (by kernel_rfl) (by intro _ _; exact ex_field 1 0 (by exact rfl) Try.underlying64 (by exact rfl) rfl (by kernel_rfl) (by exact rfl)) ?_
          simp only [Act.put, List.setIfInBounds_toArray, List.set_cons_zero, List.set_cons_succ]
          refine tk (i := 10) (.slice pA m pc) hS rfl (by kernel_rfl) (by kernel_rfl) (by kernel_rfl) (fun _ _ _ h => h) (by kernel_rfl) (by intro _ h; exact ex_cell (by exact rfl) Try.underlying25 rfl (by exact rfl) ((h.cell (p := ⟨w3.heap.size, 1, none⟩) hGl).trans e1)) ?_
          simp only [Act.put, List.setIfInBounds_toArray, List.set_cons_zero, List.set_cons_succ]
          refine tk (i := 11) (.int .i64 (m : Int)) hS rfl (by kernel_rfl) (by kernel_rfl) (by kernel_rfl) (fun _ _ _ h => h) (by kernel_rfl) (by intro _ _; exact ex_len (by exact rfl) Try.underlying25 (by exact rfl)) ?_
          simp only [Act.put, List.setIfInBounds_toArray, List.set_cons_zero, List.set_cons_succ]
          refine tk (i := 12) (.bool false) hS rfl (by kernel_rfl) (by kernel_rfl) (by kernel_rfl) (fun _ _ _ h => h) (by kernel_rfl) (by intro _ _; exact ex_bin (by exact rfl) (by exact rfl) (by exact rfl) (by decide) (gtr_f _ _ _ (by omega) _)) ?_
          simp only [Act.put, List.setIfInBounds_toArray, List.set_cons_zero, List.set_cons_succ]
          refine tk (i := 13) (.bool false) hS rfl (by kernel_rfl) (by kernel_rfl) (by kernel_rfl) (fun _ _ _ h => h) (by kernel_rfl) (by intro _ _; exact rfl) ?_
          simp only [Act.put, List.setIfInBounds_toArray, List.set_cons_zero, List.set_cons_succ]
          refine tk (i := 14) (.bool false) hS rfl (by kernel_rfl) (by kernel_rfl) (by kernel_rfl) (fun _ _ _ h => h) (by kernel_rfl) (by intro _ _; exact rfl) ?_
          simp only [Act.put, List.setIfInBounds_toArray, List.set_cons_zero, List.set_cons_succ]
          refine tkn (i := 15) hS rfl (by kernel_rfl) (by kernel_rfl) (by kernel_rfl) (fun _ _ _ h => h) (by kernel_rfl) ?_
          simp only [Act.put, List.setIfInBounds_toArray, List.set_cons_zero, List.set_cons_succ]
          refine tkn (i := 16) hS rfl (by kernel_rfl) (by kernel_rfl) (by kernel_rfl) (fun _ _ _ h => h) (by kernel_rfl) ?_
          simp only [Act.put, List.setIfInBounds_toArray, List.set_cons_zero, List.set_cons_succ]
          refine tkn (i := 17) hS rfl (by kernel_rfl) (by kernel_rfl) (by kernel_rfl) (fun _ _ _ h => h) (by kernel_rfl) ?_
          simp only [Act.put, List.setIfInBounds_toArray, List.set_cons_zero, List.set_cons_succ]
          refine tkn (i := 18) hS rfl (by kernel_rfl) (by kernel_rfl) (by kernel_rfl) (fun _ _ _ h => h) (by kernel_rfl) ?_
          simp only [Act.put, List.setIfInBounds_toArray, List.set_cons_zero, List.set_cons_succ]
          refine tkn (i := 19) hS rfl (by kernel_rfl) (by kernel_rfl) (by kernel_rfl) (fun _ _ _ h => h) (by kernel_rfl) ?_
          simp only [Act.put, List.setIfInBounds_toArray, List.set_cons_zero, List.set_cons_succ]
          refine tkn (i := 20) hS rfl (by kernel_rfl) (by kernel_rfl) (by kernel_rfl) (fun _ _ _ h => h) (by kernel_rfl) ?_
          simp only [Act.put, List.setIfInBounds_toArray, List.set_cons_zero, List.set_cons_succ]
          refine tkn (i := 21) hS rfl (by kernel_rfl) (by kernel_rfl) (by kernel_rfl) (fun _ _ _ h => h) (by kernel_rfl) ?_
          simp only [Act.put, List.setIfInBounds_toArray, List.set_cons_zero, List.set_cons_succ]
          refine tkn (i := 22) hS rfl (by kernel_rfl) (by kernel_rfl) (by kernel_rfl) (fun _ _ _ h => h) (by kernel_rfl) ?_
          simp only [Act.put, List.setIfInBounds_toArray, List.set_cons_zero, List.set_cons_succ]
          refine tkn (i := 23) hS rfl (by kernel_rfl) (by kernel_rfl) (by kernel_rfl) (fun _ _ _ h => h) (by kernel_rfl) ?_
          simp only [Act.put, List.setIfInBounds_toArray, List.set_cons_zero, List.set_cons_succ]
          refine tkn (i := 24) hS rfl (by kernel_rfl) (by kernel_rfl) (by kernel_rfl) (fun _ _ _ h => h) (by kernel_rfl) ?_
          simp only [Act.put, List.setIfInBounds_toArray, List.set_cons_zero, List.set_cons_succ]
          refine tk (i := 25) (.bool false) hS rfl (by kernel_rfl) (by kernel_rfl) (by kernel_rfl) (fun _ _ _ h => h) (by kernel_rfl) (by intro _ _; exact rfl) ?_
          simp only [Act.put, List.setIfInBounds_toArray, List.set_cons_zero, List.set_cons_succ]
          refine wpAnyH_done (by kernel_rfl) ?_ _
          go_wp2
          go_roundw
          case rel => exact ⟨k + N, f, by omega, by omega, hVn, by go_num, hB4.trans (hS.mono hB4.size)⟩
          case measure => simp [intOf]; omega
        · go_wp2_with (refine wpList_store_row rfl 64 (.tmp 4) (.tmp 29) rfl w3.heap.size _ rfl rfl 64 _ hN opt_info rfl (by simp [kdV, Value.oneCell']) ?_)
          refine wp_region_held_drew (S := fun W => Below W4.heap.size W4 W) (by kernel_rfl) (below_drew _ _) (fun hS => ?_)
          refine tk (i := 0) (.pointer (some ⟨w3.heap.size, 0, none⟩)) hS rfl (by kernel_rfl) (by kernel_rfl) (by kernel_rfl) (fun _ _ _ h => h) (by kernel_rfl) (by intro _ _; exact ex_field 0 0 (by exact rfl) Try.underlying64 (by exact rfl) rfl (by kernel_rfl) (by exact rfl)) ?_
          simp only [Act.put, List.setIfInBounds_toArray, List.set_cons_zero, List.set_cons_succ]
          refine tk (i := 1) (.int .u8 137) hS rfl (by kernel_rfl) (by kernel_rfl) (by kernel_rfl) (fun _ _ _ h => h) (by kernel_rfl) (by intro _ h; exact ex_cell (by exact rfl) Try.underlying5 rfl (by exact rfl) ((h.cell (p := ⟨w3.heap.size, 0, none⟩) hGl).trans e0)) ?_
          simp only [Act.put, List.setIfInBounds_toArray, List.set_cons_zero, List.set_cons_succ]
          refine tk (i := 2) (.bool false) hS rfl (by kernel_rfl) (by kernel_rfl) (by kernel_rfl) (fun _ _ _ h => h) (by kernel_rfl) (by intro _ _; exact eq_int_ne (by exact rfl) (by exact rfl) (by exact rfl) (by decide)) ?_
          simp only [Act.put, List.setIfInBounds_toArray, List.set_cons_zero, List.set_cons_succ]
          refine tk (i := 3) (.bool false) hS rfl (by kernel_rfl) (by kernel_rfl) (by kernel_rfl) (fun _ _ _ h => h) (by kernel_rfl) (by intro _ _; exact rfl) ?_
          simp only [Act.put, List.setIfInBounds_toArray, List.set_cons_zero, List.set_cons_succ]
          refine tk (i := 4) (.pointer (some ⟨w3.heap.size, 0, none⟩)) hS rfl (by kernel_rfl) (by kernel_rfl) (by kernel_rfl) (fun _ _ _ h => h) (by kernel_rfl) (by intro _ _; exact ex_field 0 0 (by exact rfl) Try.underlying64 (by exact rfl) rfl (by kernel_rfl) (by exact rfl)) ?_
          simp only [Act.put, List.setIfInBounds_toArray, List.set_cons_zero, List.set_cons_succ]
          refine tk (i := 5) (.int .u8 137) hS rfl (by kernel_rfl) (by kernel_rfl) (by kernel_rfl) (fun _ _ _ h => h) (by kernel_rfl) (by intro _ h; exact ex_cell (by exact rfl) Try.underlying5 rfl (by exact rfl) ((h.cell (p := ⟨w3.heap.size, 0, none⟩) hGl).trans e0)) ?_
          simp only [Act.put, List.setIfInBounds_toArray, List.set_cons_zero, List.set_cons_succ]
          refine tk (i := 6) (.bool true) hS rfl (by kernel_rfl) (by kernel_rfl) (by kernel_rfl) (fun _ _ _ h => h) (by kernel_rfl) (by intro _ _; exact eq_int_self (m := 137) (by exact rfl) (by exact rfl) (by exact rfl)) ?_
          simp only [Act.put, List.setIfInBounds_toArray, List.set_cons_zero, List.set_cons_succ]
          refine tk (i := 7) (.bool true) hS rfl (by kernel_rfl) (by kernel_rfl) (by kernel_rfl) (fun _ _ _ h => h) (by kernel_rfl) (by intro _ _; exact rfl) ?_
          simp only [Act.put, List.setIfInBounds_toArray, List.set_cons_zero, List.set_cons_succ]
          refine tk (i := 8) (.bool true) hS rfl (by kernel_rfl) (by kernel_rfl) (by kernel_rfl) (fun _ _ _ h => h) (by kernel_rfl) (by intro _ _; exact rfl) ?_
          simp only [Act.put, List.setIfInBounds_toArray, List.set_cons_zero, List.set_cons_succ]
          refine tk (i := 9) (.pointer (some ⟨w3.heap.size, 1, none⟩)) hS rfl (by kernel_rfl) (by kernel_rfl) (by kernel_rfl) (fun _ _ _ h => h) (by kernel_rfl) (by intro _ _; exact ex_field 1 0 (by exact rfl) Try.underlying64 (by exact rfl) rfl (by kernel_rfl) (by exact rfl)) ?_
          simp only [Act.put, List.setIfInBounds_toArray, List.set_cons_zero, List.set_cons_succ]
          refine tk (i := 10) (.slice pA m pc) hS rfl (by kernel_rfl) (by kernel_rfl) (by kernel_rfl) (fun _ _ _ h => h) (by kernel_rfl) (by intro _ h; exact ex_cell (by exact rfl) Try.underlying25 rfl (by exact rfl) ((h.cell (p := ⟨w3.heap.size, 1, none⟩) hGl).trans e1)) ?_
          simp only [Act.put, List.setIfInBounds_toArray, List.set_cons_zero, List.set_cons_succ]
          refine tk (i := 11) (.int .i64 (m : Int)) hS rfl (by kernel_rfl) (by kernel_rfl) (by kernel_rfl) (fun _ _ _ h => h) (by kernel_rfl) (by intro _ _; exact ex_len (by exact rfl) Try.underlying25 (by exact rfl)) ?_
          simp only [Act.put, List.setIfInBounds_toArray, List.set_cons_zero, List.set_cons_succ]
          refine tk (i := 12) (.bool false) hS rfl (by kernel_rfl) (by kernel_rfl) (by kernel_rfl) (fun _ _ _ h => h) (by kernel_rfl) (by intro _ _; exact ex_bin (by exact rfl) (by exact rfl) (by exact rfl) (by decide) (gtr_f _ _ _ (by omega) _)) ?_
          simp only [Act.put, List.setIfInBounds_toArray, List.set_cons_zero, List.set_cons_succ]
          refine tk (i := 13) (.bool false) hS rfl (by kernel_rfl) (by kernel_rfl) (by kernel_rfl) (fun _ _ _ h => h) (by kernel_rfl) (by intro _ _; exact rfl) ?_
          simp only [Act.put, List.setIfInBounds_toArray, List.set_cons_zero, List.set_cons_succ]
          refine tk (i := 14) (.bool false) hS rfl (by kernel_rfl) (by kernel_rfl) (by kernel_rfl) (fun _ _ _ h => h) (by kernel_rfl) (by intro _ _; exact rfl) ?_
          simp only [Act.put, List.setIfInBounds_toArray, List.set_cons_zero, List.set_cons_succ]
          refine tkn (i := 15) hS rfl (by kernel_rfl) (by kernel_rfl) (by kernel_rfl) (fun _ _ _ h => h) (by kernel_rfl) ?_
          simp only [Act.put, List.setIfInBounds_toArray, List.set_cons_zero, List.set_cons_succ]
          refine tkn (i := 16) hS rfl (by kernel_rfl) (by kernel_rfl) (by kernel_rfl) (fun _ _ _ h => h) (by kernel_rfl) ?_
          simp only [Act.put, List.setIfInBounds_toArray, List.set_cons_zero, List.set_cons_succ]
          refine tkn (i := 17) hS rfl (by kernel_rfl) (by kernel_rfl) (by kernel_rfl) (fun _ _ _ h => h) (by kernel_rfl) ?_
          simp only [Act.put, List.setIfInBounds_toArray, List.set_cons_zero, List.set_cons_succ]
          refine tkn (i := 18) hS rfl (by kernel_rfl) (by kernel_rfl) (by kernel_rfl) (fun _ _ _ h => h) (by kernel_rfl) ?_
          simp only [Act.put, List.setIfInBounds_toArray, List.set_cons_zero, List.set_cons_succ]
          refine tkn (i := 19) hS rfl (by kernel_rfl) (by kernel_rfl) (by kernel_rfl) (fun _ _ _ h => h) (by kernel_rfl) ?_
          simp only [Act.put, List.setIfInBounds_toArray, List.set_cons_zero, List.set_cons_succ]
          refine tkn (i := 20) hS rfl (by kernel_rfl) (by kernel_rfl) (by kernel_rfl) (fun _ _ _ h => h) (by kernel_rfl) ?_
          simp only [Act.put, List.setIfInBounds_toArray, List.set_cons_zero, List.set_cons_succ]
          refine tkn (i := 21) hS rfl (by kernel_rfl) (by kernel_rfl) (by kernel_rfl) (fun _ _ _ h => h) (by kernel_rfl) ?_
          simp only [Act.put, List.setIfInBounds_toArray, List.set_cons_zero, List.set_cons_succ]
          refine tkn (i := 22) hS rfl (by kernel_rfl) (by kernel_rfl) (by kernel_rfl) (fun _ _ _ h => h) (by kernel_rfl) ?_
          simp only [Act.put, List.setIfInBounds_toArray, List.set_cons_zero, List.set_cons_succ]
          refine tkn (i := 23) hS rfl (by kernel_rfl) (by kernel_rfl) (by kernel_rfl) (fun _ _ _ h => h) (by kernel_rfl) ?_
          simp only [Act.put, List.setIfInBounds_toArray, List.set_cons_zero, List.set_cons_succ]
          refine tkn (i := 24) hS rfl (by kernel_rfl) (by kernel_rfl) (by kernel_rfl) (fun _ _ _ h => h) (by kernel_rfl) ?_
          simp only [Act.put, List.setIfInBounds_toArray, List.set_cons_zero, List.set_cons_succ]
          refine tk (i := 25) (.bool false) hS rfl (by kernel_rfl) (by kernel_rfl) (by kernel_rfl) (fun _ _ _ h => h) (by kernel_rfl) (by intro _ _; exact rfl) ?_
          simp only [Act.put, List.setIfInBounds_toArray, List.set_cons_zero, List.set_cons_succ]
          refine wpAnyH_done (by kernel_rfl) ?_ _
          go_wp2
          go_roundw
          case rel => exact ⟨k + N, f, by omega, by omega, hVn, by go_num, hB4.trans (hS.mono hB4.size)⟩
          case measure => simp [intOf]; omega
      case neg =>
      have hm1 : 0 < m := by omega
      obtain ⟨b2, off2, hA2, hb2, -⟩ := yD.row.at_ hm1
      subst hA2
      have d2 := yD.atO (k := 0) hm1
      rw [hx2] at d2
      by_cases hle : x2 ≤ 2 + (m : Int)
      case pos =>
        obtain rfl : V = true := by rw [← hVH2.out, if_pos (by simp [hk1, hm1, hle])]
        clear hV yD hx2 hpl hVH2
        rcases hk1 with rfl | rfl
        · go_wp2_with (refine wpList_store_row rfl 64 (.tmp 4) (.tmp 29) rfl w3.heap.size _ rfl rfl 64 _ hN opt_info rfl (by simp [kdV, Value.oneCell']) ?_)
          refine wp_region_held_drew (S := fun W => Below W4.heap.size W4 W) (by kernel_rfl) (below_drew _ _) (fun hS => ?_)
          refine tk (i := 0) (.pointer (some ⟨w3.heap.size, 0, none⟩)) hS rfl (by kernel_rfl) (by kernel_rfl) (by kernel_rfl) (fun _ _ _ h => h) (by kernel_rfl) (by intro _ _; exact ex_field 0 0 (by exact rfl) Try.underlying64 (by exact rfl) rfl (by kernel_rfl) (by exact rfl)) ?_
          simp only [Act.put, List.setIfInBounds_toArray, List.set_cons_zero, List.set_cons_succ]
          refine tk (i := 1) (.int .u8 131) hS rfl (by kernel_rfl) (by kernel_rfl) (by kernel_rfl) (fun _ _ _ h => h) (by kernel_rfl) (by intro _ h; exact ex_cell (by exact rfl) Try.underlying5 rfl (by exact rfl) ((h.cell (p := ⟨w3.heap.size, 0, none⟩) hGl).trans e0)) ?_
          simp only [Act.put, List.setIfInBounds_toArray, List.set_cons_zero, List.set_cons_succ]
          refine tk (i := 2) (.bool true) hS rfl (by kernel_rfl) (by kernel_rfl) (by kernel_rfl) (fun _ _ _ h => h) (by kernel_rfl) (by intro _ _; exact eq_int_self (m := 131) (by exact rfl) (by exact rfl) (by exact rfl)) ?_
          simp only [Act.put, List.setIfInBounds_toArray, List.set_cons_zero, List.set_cons_succ]
          refine tk (i := 3) (.bool true) hS rfl (by kernel_rfl) (by kernel_rfl) (by kernel_rfl) (fun _ _ _ h => h) (by kernel_rfl) (by intro _ _; exact rfl) ?_
          simp only [Act.put, List.setIfInBounds_toArray, List.set_cons_zero, List.set_cons_succ]
          refine tkn (i := 4) hS rfl (by kernel_rfl) (by kernel_rfl) (by kernel_rfl) (fun _ _ _ h => h) (by kernel_rfl) ?_
          simp only [Act.put, List.setIfInBounds_toArray, List.set_cons_zero, List.set_cons_succ]
          refine tkn (i := 5) hS rfl (by kernel_rfl) (by kernel_rfl) (by kernel_rfl) (fun _ _ _ h => h) (by kernel_rfl) ?_
          simp only [Act.put, List.setIfInBounds_toArray, List.set_cons_zero, List.set_cons_succ]
          refine tkn (i := 6) hS rfl (by kernel_rfl) (by kernel_rfl) (by kernel_rfl) (fun _ _ _ h => h) (by kernel_rfl) ?_
          simp only [Act.put, List.setIfInBounds_toArray, List.set_cons_zero, List.set_cons_succ]
          refine tk (i := 7) (.bool true) hS rfl (by kernel_rfl) (by kernel_rfl) (by kernel_rfl) (fun _ _ _ h => h) (by kernel_rfl) (by intro _ _; exact rfl) ?_
          simp only [Act.put, List.setIfInBounds_toArray, List.set_cons_zero, List.set_cons_succ]
          refine tk (i := 8) (.bool true) hS rfl (by kernel_rfl) (by kernel_rfl) (by kernel_rfl) (fun _ _ _ h => h) (by kernel_rfl) (by intro _ _; exact rfl) ?_
          simp only [Act.put, List.setIfInBounds_toArray, List.set_cons_zero, List.set_cons_succ]
          refine tk (i := 9) (.pointer (some ⟨w3.heap.size, 1, none⟩)) hS rfl (by kernel_rfl) (by kernel_rfl) (by kernel_rfl) (fun _ _ _ h => h) (by kernel_rfl) (by intro _ _; exact ex_field 1 0 (by exact rfl) Try.underlying64 (by exact rfl) rfl (by kernel_rfl) (by exact rfl)) ?_
          simp only [Act.put, List.setIfInBounds_toArray, List.set_cons_zero, List.set_cons_succ]
          refine tk (i := 10) (.slice (some ⟨b2, off2, none⟩) m pc) hS rfl (by kernel_rfl) (by kernel_rfl) (by kernel_rfl) (fun _ _ _ h => h) (by kernel_rfl) (by intro _ h; exact ex_cell (by exact rfl) Try.underlying25 rfl (by exact rfl) ((h.cell (p := ⟨w3.heap.size, 1, none⟩) hGl).trans e1)) ?_
          simp only [Act.put, List.setIfInBounds_toArray, List.set_cons_zero, List.set_cons_succ]
          refine tk (i := 11) (.int .i64 (m : Int)) hS rfl (by kernel_rfl) (by kernel_rfl) (by kernel_rfl) (fun _ _ _ h => h) (by kernel_rfl) (by intro _ _; exact ex_len (by exact rfl) Try.underlying25 (by exact rfl)) ?_
          simp only [Act.put, List.setIfInBounds_toArray, List.set_cons_zero, List.set_cons_succ]
          refine tk (i := 12) (.bool true) hS rfl (by kernel_rfl) (by kernel_rfl) (by kernel_rfl) (fun _ _ _ h => h) (by kernel_rfl) (by intro _ _; exact ex_bin (by exact rfl) (by exact rfl) (by exact rfl) (by decide) (gtr_t _ _ _ (by omega) _)) ?_
          simp only [Act.put, List.setIfInBounds_toArray, List.set_cons_zero, List.set_cons_succ]
          refine tk (i := 13) (.bool true) hS rfl (by kernel_rfl) (by kernel_rfl) (by kernel_rfl) (fun _ _ _ h => h) (by kernel_rfl) (by intro _ _; exact rfl) ?_
          simp only [Act.put, List.setIfInBounds_toArray, List.set_cons_zero, List.set_cons_succ]
          refine tk (i := 14) (.bool true) hS rfl (by kernel_rfl) (by kernel_rfl) (by kernel_rfl) (fun _ _ _ h => h) (by kernel_rfl) (by intro _ _; exact rfl) ?_
          simp only [Act.put, List.setIfInBounds_toArray, List.set_cons_zero, List.set_cons_succ]
          refine tk (i := 15) (.pointer (some ⟨w3.heap.size, 1, none⟩)) hS rfl (by kernel_rfl) (by kernel_rfl) (by kernel_rfl) (fun _ _ _ h => h) (by kernel_rfl) (by intro _ _; exact ex_field 1 0 (by exact rfl) Try.underlying64 (by exact rfl) rfl (by kernel_rfl) (by exact rfl)) ?_
          simp only [Act.put, List.setIfInBounds_toArray, List.set_cons_zero, List.set_cons_succ]
          refine tk (i := 16) (.slice (some ⟨b2, off2, none⟩) m pc) hS rfl (by kernel_rfl) (by kernel_rfl) (by kernel_rfl) (fun _ _ _ h => h) (by kernel_rfl) (by intro _ h; exact ex_cell (by exact rfl) Try.underlying25 rfl (by exact rfl) ((h.cell (p := ⟨w3.heap.size, 1, none⟩) hGl).trans e1)) ?_
          simp only [Act.put, List.setIfInBounds_toArray, List.set_cons_zero, List.set_cons_succ]
          refine tk (i := 17) (.pointer (some ⟨b2, off2 + 0, none⟩)) hS rfl (by kernel_rfl) (by kernel_rfl) (by kernel_rfl) (fun _ _ _ h => h) (by kernel_rfl) (by intro _ _; exact ex_index (by exact rfl) Try.underlying25 (by kernel_rfl) (by exact rfl) (by exact rfl) (by omega)) ?_
          simp only [Act.put, List.setIfInBounds_toArray, List.set_cons_zero, List.set_cons_succ]
          refine tk (i := 18) (.int .u8 x2) hS rfl (by kernel_rfl) (by kernel_rfl) (by kernel_rfl) (fun _ _ _ h => h) (by kernel_rfl) (by intro _ h; exact ex_cell (by exact rfl) Try.underlying5 rfl (by exact rfl) ((h.cell (p := ⟨b2, off2 + 0, none⟩) hb2).trans d2)) ?_
          simp only [Act.put, List.setIfInBounds_toArray, List.set_cons_zero, List.set_cons_succ]
          refine tk (i := 19) (.int .i64 x2) hS rfl (by kernel_rfl) (by kernel_rfl) (by kernel_rfl) (fun _ _ _ h => h) (by kernel_rfl) (by intro _ h; exact ex_conv (by exact rfl) (by exact rfl) (conv_i64 _ _ _ _ rfl rfl (by omega) _)) ?_
          simp only [Act.put, List.setIfInBounds_toArray, List.set_cons_zero, List.set_cons_succ]
          refine tk (i := 20) (.pointer (some ⟨w3.heap.size, 1, none⟩)) hS rfl (by kernel_rfl) (by kernel_rfl) (by kernel_rfl) (fun _ _ _ h => h) (by kernel_rfl) (by intro _ _; exact ex_field 1 0 (by exact rfl) Try.underlying64 (by exact rfl) rfl (by kernel_rfl) (by exact rfl)) ?_
          simp only [Act.put, List.setIfInBounds_toArray, List.set_cons_zero, List.set_cons_succ]
          refine tk (i := 21) (.slice (some ⟨b2, off2, none⟩) m pc) hS rfl (by kernel_rfl) (by kernel_rfl) (by kernel_rfl) (fun _ _ _ h => h) (by kernel_rfl) (by intro _ h; exact ex_cell (by exact rfl) Try.underlying25 rfl (by exact rfl) ((h.cell (p := ⟨w3.heap.size, 1, none⟩) hGl).trans e1)) ?_
          simp only [Act.put, List.setIfInBounds_toArray, List.set_cons_zero, List.set_cons_succ]
          refine tk (i := 22) (.int .i64 (m : Int)) hS rfl (by kernel_rfl) (by kernel_rfl) (by kernel_rfl) (fun _ _ _ h => h) (by kernel_rfl) (by intro _ _; exact ex_len (by exact rfl) Try.underlying25 (by exact rfl)) ?_
          simp only [Act.put, List.setIfInBounds_toArray, List.set_cons_zero, List.set_cons_succ]
          refine tk (i := 23) (.int .i64 (2 + (m : Int))) hS rfl (by kernel_rfl) (by kernel_rfl) (by kernel_rfl) (fun _ _ _ h => h) (by kernel_rfl) (by intro _ _; exact ex_bin (by exact rfl) (by exact rfl) (by exact rfl) (by decide) (add_i64r _ _ _ (by omega) _)) ?_
          simp only [Act.put, List.setIfInBounds_toArray, List.set_cons_zero, List.set_cons_succ]
          refine tk (i := 24) (.bool true) hS rfl (by kernel_rfl) (by kernel_rfl) (by kernel_rfl) (fun _ _ _ h => h) (by kernel_rfl) (by intro _ _; exact ex_bin (by exact rfl) (by exact rfl) (by exact rfl) (by decide) (leq_t _ _ _ (by omega) _)) ?_
          simp only [Act.put, List.setIfInBounds_toArray, List.set_cons_zero, List.set_cons_succ]
          refine tk (i := 25) (.bool true) hS rfl (by kernel_rfl) (by kernel_rfl) (by kernel_rfl) (fun _ _ _ h => h) (by kernel_rfl) (by intro _ _; exact rfl) ?_
          simp only [Act.put, List.setIfInBounds_toArray, List.set_cons_zero, List.set_cons_succ]
          refine wpAnyH_done (by kernel_rfl) ?_ _
          go_wp2
          go_ret
          exact ⟨rfl, hB4.trans (hS.mono hB4.size)⟩
        · go_wp2_with (refine wpList_store_row rfl 64 (.tmp 4) (.tmp 29) rfl w3.heap.size _ rfl rfl 64 _ hN opt_info rfl (by simp [kdV, Value.oneCell']) ?_)
          refine wp_region_held_drew (S := fun W => Below W4.heap.size W4 W) (by kernel_rfl) (below_drew _ _) (fun hS => ?_)
          refine tk (i := 0) (.pointer (some ⟨w3.heap.size, 0, none⟩)) hS rfl (by kernel_rfl) (by kernel_rfl) (by kernel_rfl) (fun _ _ _ h => h) (by kernel_rfl) (by intro _ _; exact ex_field 0 0 (by exact rfl) Try.underlying64 (by exact rfl) rfl (by kernel_rfl) (by exact rfl)) ?_
          simp only [Act.put, List.setIfInBounds_toArray, List.set_cons_zero, List.set_cons_succ]
          refine tk (i := 1) (.int .u8 137) hS rfl (by kernel_rfl) (by kernel_rfl) (by kernel_rfl) (fun _ _ _ h => h) (by kernel_rfl) (by intro _ h; exact ex_cell (by exact rfl) Try.underlying5 rfl (by exact rfl) ((h.cell (p := ⟨w3.heap.size, 0, none⟩) hGl).trans e0)) ?_
          simp only [Act.put, List.setIfInBounds_toArray, List.set_cons_zero, List.set_cons_succ]
          refine tk (i := 2) (.bool false) hS rfl (by kernel_rfl) (by kernel_rfl) (by kernel_rfl) (fun _ _ _ h => h) (by kernel_rfl) (by intro _ _; exact eq_int_ne (by exact rfl) (by exact rfl) (by exact rfl) (by decide)) ?_
          simp only [Act.put, List.setIfInBounds_toArray, List.set_cons_zero, List.set_cons_succ]
          refine tk (i := 3) (.bool false) hS rfl (by kernel_rfl) (by kernel_rfl) (by kernel_rfl) (fun _ _ _ h => h) (by kernel_rfl) (by intro _ _; exact rfl) ?_
          simp only [Act.put, List.setIfInBounds_toArray, List.set_cons_zero, List.set_cons_succ]
          refine tk (i := 4) (.pointer (some ⟨w3.heap.size, 0, none⟩)) hS rfl (by kernel_rfl) (by kernel_rfl) (by kernel_rfl) (fun _ _ _ h => h) (by kernel_rfl) (by intro _ _; exact ex_field 0 0 (by exact rfl) Try.underlying64 (by exact rfl) rfl (by kernel_rfl) (by exact rfl)) ?_
          simp only [Act.put, List.setIfInBounds_toArray, List.set_cons_zero, List.set_cons_succ]
          refine tk (i := 5) (.int .u8 137) hS rfl (by kernel_rfl) (by kernel_rfl) (by kernel_rfl) (fun _ _ _ h => h) (by kernel_rfl) (by intro _ h; exact ex_cell (by exact rfl) Try.underlying5 rfl (by exact rfl) ((h.cell (p := ⟨w3.heap.size, 0, none⟩) hGl).trans e0)) ?_
          simp only [Act.put, List.setIfInBounds_toArray, List.set_cons_zero, List.set_cons_succ]
          refine tk (i := 6) (.bool true) hS rfl (by kernel_rfl) (by kernel_rfl) (by kernel_rfl) (fun _ _ _ h => h) (by kernel_rfl) (by intro _ _; exact eq_int_self (m := 137) (by exact rfl) (by exact rfl) (by exact rfl)) ?_
          simp only [Act.put, List.setIfInBounds_toArray, List.set_cons_zero, List.set_cons_succ]
          refine tk (i := 7) (.bool true) hS rfl (by kernel_rfl) (by kernel_rfl) (by kernel_rfl) (fun _ _ _ h => h) (by kernel_rfl) (by intro _ _; exact rfl) ?_
          simp only [Act.put, List.setIfInBounds_toArray, List.set_cons_zero, List.set_cons_succ]
          refine tk (i := 8) (.bool true) hS rfl (by kernel_rfl) (by kernel_rfl) (by kernel_rfl) (fun _ _ _ h => h) (by kernel_rfl) (by intro _ _; exact rfl) ?_
          simp only [Act.put, List.setIfInBounds_toArray, List.set_cons_zero, List.set_cons_succ]
          refine tk (i := 9) (.pointer (some ⟨w3.heap.size, 1, none⟩)) hS rfl (by kernel_rfl) (by kernel_rfl) (by kernel_rfl) (fun _ _ _ h => h) (by kernel_rfl) (by intro _ _; exact ex_field 1 0 (by exact rfl) Try.underlying64 (by exact rfl) rfl (by kernel_rfl) (by exact rfl)) ?_
          simp only [Act.put, List.setIfInBounds_toArray, List.set_cons_zero, List.set_cons_succ]
          refine tk (i := 10) (.slice (some ⟨b2, off2, none⟩) m pc) hS rfl (by kernel_rfl) (by kernel_rfl) (by kernel_rfl) (fun _ _ _ h => h) (by kernel_rfl) (by intro _ h; exact ex_cell (by exact rfl) Try.underlying25 rfl (by exact rfl) ((h.cell (p := ⟨w3.heap.size, 1, none⟩) hGl).trans e1)) ?_
          simp only [Act.put, List.setIfInBounds_toArray, List.set_cons_zero, List.set_cons_succ]
          refine tk (i := 11) (.int .i64 (m : Int)) hS rfl (by kernel_rfl) (by kernel_rfl) (by kernel_rfl) (fun _ _ _ h => h) (by kernel_rfl) (by intro _ _; exact ex_len (by exact rfl) Try.underlying25 (by exact rfl)) ?_
          simp only [Act.put, List.setIfInBounds_toArray, List.set_cons_zero, List.set_cons_succ]
          refine tk (i := 12) (.bool true) hS rfl (by kernel_rfl) (by kernel_rfl) (by kernel_rfl) (fun _ _ _ h => h) (by kernel_rfl) (by intro _ _; exact ex_bin (by exact rfl) (by exact rfl) (by exact rfl) (by decide) (gtr_t _ _ _ (by omega) _)) ?_
          simp only [Act.put, List.setIfInBounds_toArray, List.set_cons_zero, List.set_cons_succ]
          refine tk (i := 13) (.bool true) hS rfl (by kernel_rfl) (by kernel_rfl) (by kernel_rfl) (fun _ _ _ h => h) (by kernel_rfl) (by intro _ _; exact rfl) ?_
          simp only [Act.put, List.setIfInBounds_toArray, List.set_cons_zero, List.set_cons_succ]
          refine tk (i := 14) (.bool true) hS rfl (by kernel_rfl) (by kernel_rfl) (by kernel_rfl) (fun _ _ _ h => h) (by kernel_rfl) (by intro _ _; exact rfl) ?_
          simp only [Act.put, List.setIfInBounds_toArray, List.set_cons_zero, List.set_cons_succ]
          refine tk (i := 15) (.pointer (some ⟨w3.heap.size, 1, none⟩)) hS rfl (by kernel_rfl) (by kernel_rfl) (by kernel_rfl) (fun _ _ _ h => h) (by kernel_rfl) (by intro _ _; exact ex_field 1 0 (by exact rfl) Try.underlying64 (by exact rfl) rfl (by kernel_rfl) (by exact rfl)) ?_
          simp only [Act.put, List.setIfInBounds_toArray, List.set_cons_zero, List.set_cons_succ]
          refine tk (i := 16) (.slice (some ⟨b2, off2, none⟩) m pc) hS rfl (by kernel_rfl) (by kernel_rfl) (by kernel_rfl) (fun _ _ _ h => h) (by kernel_rfl) (by intro _ h; exact ex_cell (by exact rfl) Try.underlying25 rfl (by exact rfl) ((h.cell (p := ⟨w3.heap.size, 1, none⟩) hGl).trans e1)) ?_
          simp only [Act.put, List.setIfInBounds_toArray, List.set_cons_zero, List.set_cons_succ]
          refine tk (i := 17) (.pointer (some ⟨b2, off2 + 0, none⟩)) hS rfl (by kernel_rfl) (by kernel_rfl) (by kernel_rfl) (fun _ _ _ h => h) (by kernel_rfl) (by intro _ _; exact ex_index (by exact rfl) Try.underlying25 (by kernel_rfl) (by exact rfl) (by exact rfl) (by omega)) ?_
          simp only [Act.put, List.setIfInBounds_toArray, List.set_cons_zero, List.set_cons_succ]
          refine tk (i := 18) (.int .u8 x2) hS rfl (by kernel_rfl) (by kernel_rfl) (by kernel_rfl) (fun _ _ _ h => h) (by kernel_rfl) (by intro _ h; exact ex_cell (by exact rfl) Try.underlying5 rfl (by exact rfl) ((h.cell (p := ⟨b2, off2 + 0, none⟩) hb2).trans d2)) ?_
          simp only [Act.put, List.setIfInBounds_toArray, List.set_cons_zero, List.set_cons_succ]
          refine tk (i := 19) (.int .i64 x2) hS rfl (by kernel_rfl) (by kernel_rfl) (by kernel_rfl) (fun _ _ _ h => h) (by kernel_rfl) (by intro _ h; exact ex_conv (by exact rfl) (by exact rfl) (conv_i64 _ _ _ _ rfl rfl (by omega) _)) ?_
          simp only [Act.put, List.setIfInBounds_toArray, List.set_cons_zero, List.set_cons_succ]
          refine tk (i := 20) (.pointer (some ⟨w3.heap.size, 1, none⟩)) hS rfl (by kernel_rfl) (by kernel_rfl) (by kernel_rfl) (fun _ _ _ h => h) (by kernel_rfl) (by intro _ _; exact ex_field 1 0 (by exact rfl) Try.underlying64 (by exact rfl) rfl (by kernel_rfl) (by exact rfl)) ?_
          simp only [Act.put, List.setIfInBounds_toArray, List.set_cons_zero, List.set_cons_succ]
          refine tk (i := 21) (.slice (some ⟨b2, off2, none⟩) m pc) hS rfl (by kernel_rfl) (by kernel_rfl) (by kernel_rfl) (fun _ _ _ h => h) (by kernel_rfl) (by intro _ h; exact ex_cell (by exact rfl) Try.underlying25 rfl (by exact rfl) ((h.cell (p := ⟨w3.heap.size, 1, none⟩) hGl).trans e1)) ?_
          simp only [Act.put, List.setIfInBounds_toArray, List.set_cons_zero, List.set_cons_succ]
          refine tk (i := 22) (.int .i64 (m : Int)) hS rfl (by kernel_rfl) (by kernel_rfl) (by kernel_rfl) (fun _ _ _ h => h) (by kernel_rfl) (by intro _ _; exact ex_len (by exact rfl) Try.underlying25 (by exact rfl)) ?_
          simp only [Act.put, List.setIfInBounds_toArray, List.set_cons_zero, List.set_cons_succ]
          refine tk (i := 23) (.int .i64 (2 + (m : Int))) hS rfl (by kernel_rfl) (by kernel_rfl) (by kernel_rfl) (fun _ _ _ h => h) (by kernel_rfl) (by intro _ _; exact ex_bin (by exact rfl) (by exact rfl) (by exact rfl) (by decide) (add_i64r _ _ _ (by omega) _)) ?_
          simp only [Act.put, List.setIfInBounds_toArray, List.set_cons_zero, List.set_cons_succ]
          refine tk (i := 24) (.bool true) hS rfl (by kernel_rfl) (by kernel_rfl) (by kernel_rfl) (fun _ _ _ h => h) (by kernel_rfl) (by intro _ _; exact ex_bin (by exact rfl) (by exact rfl) (by exact rfl) (by decide) (leq_t _ _ _ (by omega) _)) ?_
          simp only [Act.put, List.setIfInBounds_toArray, List.set_cons_zero, List.set_cons_succ]
          refine tk (i := 25) (.bool true) hS rfl (by kernel_rfl) (by kernel_rfl) (by kernel_rfl) (fun _ _ _ h => h) (by kernel_rfl) (by intro _ _; exact rfl) ?_
          simp only [Act.put, List.setIfInBounds_toArray, List.set_cons_zero, List.set_cons_succ]
          refine wpAnyH_done (by kernel_rfl) ?_ _
          go_wp2
          go_ret
          exact ⟨rfl, hB4.trans (hS.mono hB4.size)⟩
      case neg =>
        have hVn : Hid (routF l f (k + N) = V) := Lib.hid (by rw [← hVH2.out, if_neg (by simp [hle])])
        clear hV yD hx2 hpl hVH2
        rcases hk1 with rfl | rfl
        · go_wp2_with (refine wpList_store_row rfl 64 (.tmp 4) (.tmp 29) rfl w3.heap.size _ rfl rfl 64 _ hN opt_info rfl (by simp [kdV, Value.oneCell']) ?_)
          refine wp_region_held_drew (S := fun W => Below W4.heap.size W4 W) (by kernel_rfl) (below_drew _ _) (fun hS => ?_)
          refine tk (i := 0) (.pointer (some ⟨w3.heap.size, 0, none⟩)) hS rfl (by kernel_rfl) (by kernel_rfl) (by kernel_rfl) (fun _ _ _ h => h) (by kernel_rfl) (by intro _ _; exact ex_field 0 0 (by exact rfl) Try.underlying64 (by exact rfl) rfl (by kernel_rfl) (by exact rfl)) ?_
          simp only [Act.put, List.setIfInBounds_toArray, List.set_cons_zero, List.set_cons_succ]
          refine tk (i := 1) (.int .u8 131) hS rfl (by kernel_rfl) (by kernel_rfl) (by kernel_rfl) (fun _ _ _ h => h) (by kernel_rfl) (by intro _ h; exact ex_cell (by exact rfl) Try.underlying5 rfl (by exact rfl) ((h.cell (p := ⟨w3.heap.size, 0, none⟩) hGl).trans e0)) ?_
          simp only [Act.put, List.setIfInBounds_toArray, List.set_cons_zero, List.set_cons_succ]
          refine tk (i := 2) (.bool true) hS rfl (by kernel_rfl) (by kernel_rfl) (by kernel_rfl) (fun _ _ _ h => h) (by kernel_rfl) (by intro _ _; exact eq_int_self (m := 131) (by exact rfl) (by exact rfl) (by exact rfl)) ?_
          simp only [Act.put, List.setIfInBounds_toArray, List.set_cons_zero, List.set_cons_succ]
          refine tk (i := 3) (.bool true) hS rfl (by kernel_rfl) (by kernel_rfl) (by kernel_rfl) (fun _ _ _ h => h) (by kernel_rfl) (by intro _ _; exact rfl) ?_
          simp only [Act.put, List.setIfInBounds_toArray, List.set_cons_zero, List.set_cons_succ]
          refine tkn (i := 4) hS rfl (by kernel_rfl) (by kernel_rfl) (by kernel_rfl) (fun _ _ _ h => h) (by kernel_rfl) ?_
          simp only [Act.put, List.setIfInBounds_toArray, List.set_cons_zero, List.set_cons_succ]
          refine tkn (i := 5) hS rfl (by kernel_rfl) (by kernel_rfl) (by kernel_rfl) (fun _ _ _ h => h) (by kernel_rfl) ?_
          simp only [Act.put, List.setIfInBounds_toArray, List.set_cons_zero, List.set_cons_succ]
          refine tkn (i := 6) hS rfl (by kernel_rfl) (by kernel_rfl) (by kernel_rfl) (fun _ _ _ h => h) (by kernel_rfl) ?_
          simp only [Act.put, List.setIfInBounds_toArray, List.set_cons_zero, List.set_cons_succ]
          refine tk (i := 7) (.bool true) hS rfl (by kernel_rfl) (by kernel_rfl) (by kernel_rfl) (fun _ _ _ h => h) (by kernel_rfl) (by intro _ _; exact rfl) ?_
          simp only [Act.put, List.setIfInBounds_toArray, List.set_cons_zero, List.set_cons_succ]
          refine tk (i := 8) (.bool true) hS rfl (by kernel_rfl) (by kernel_rfl) (by kernel_rfl) (fun _ _ _ h => h) (by kernel_rfl) (by intro _ _; exact rfl) ?_
          simp only [Act.put, List.setIfInBounds_toArray, List.set_cons_zero, List.set_cons_succ]
          refine tk (i := 9) (.pointer (some ⟨w3.heap.size, 1, none⟩)) hS rfl (by kernel_rfl) (by kernel_rfl) (by kernel_rfl) (fun _ _ _ h => h) (by kernel_rfl) (by intro _ _; exact ex_field 1 0 (by exact rfl) Try.underlying64 (by exact rfl) rfl (by kernel_rfl) (by exact rfl)) ?_
          simp only [Act.put, List.setIfInBounds_toArray, List.set_cons_zero, List.set_cons_succ]
          refine tk (i := 10) (.slice (some ⟨b2, off2, none⟩) m pc) hS rfl (by kernel_rfl) (by kernel_rfl) (by kernel_rfl) (fun _ _ _ h => h) (by kernel_rfl) (by intro _ h; exact ex_cell (by exact rfl) Try.underlying25 rfl (by exact rfl) ((h.cell (p := ⟨w3.heap.size, 1, none⟩) hGl).trans e1)) ?_
          simp only [Act.put, List.setIfInBounds_toArray, List.set_cons_zero, List.set_cons_succ]
          refine tk (i := 11) (.int .i64 (m : Int)) hS rfl (by kernel_rfl) (by kernel_rfl) (by kernel_rfl) (fun _ _ _ h => h) (by kernel_rfl) (by intro _ _; exact ex_len (by exact rfl) Try.underlying25 (by exact rfl)) ?_
          simp only [Act.put, List.setIfInBounds_toArray, List.set_cons_zero, List.set_cons_succ]
          refine tk (i := 12) (.bool true) hS rfl (by kernel_rfl) (by kernel_rfl) (by kernel_rfl) (fun _ _ _ h => h) (by kernel_rfl) (by intro _ _; exact ex_bin (by exact rfl) (by exact rfl) (by exact rfl) (by decide) (gtr_t _ _ _ (by omega) _)) ?_
          simp only [Act.put, List.setIfInBounds_toArray, List.set_cons_zero, List.set_cons_succ]
          refine tk (i := 13) (.bool true) hS rfl (by kernel_rfl) (by kernel_rfl) (by kernel_rfl) (fun _ _ _ h => h) (by kernel_rfl) (by intro _ _; exact rfl) ?_
          simp only [Act.put, List.setIfInBounds_toArray, List.set_cons_zero, List.set_cons_succ]
          refine tk (i := 14) (.bool true) hS rfl (by kernel_rfl) (by kernel_rfl) (by kernel_rfl) (fun _ _ _ h => h) (by kernel_rfl) (by intro _ _; exact rfl) ?_
          simp only [Act.put, List.setIfInBounds_toArray, List.set_cons_zero, List.set_cons_succ]
          refine tk (i := 15) (.pointer (some ⟨w3.heap.size, 1, none⟩)) hS rfl (by kernel_rfl) (by kernel_rfl) (by kernel_rfl) (fun _ _ _ h => h) (by kernel_rfl) (by intro _ _; exact ex_field 1 0 (by exact rfl) Try.underlying64 (by exact rfl) rfl (by kernel_rfl) (by exact rfl)) ?_
          simp only [Act.put, List.setIfInBounds_toArray, List.set_cons_zero, List.set_cons_succ]
          refine tk (i := 16) (.slice (some ⟨b2, off2, none⟩) m pc) hS rfl (by kernel_rfl) (by kernel_rfl) (by kernel_rfl) (fun _ _ _ h => h) (by kernel_rfl) (by intro _ h; exact ex_cell (by exact rfl) Try.underlying25 rfl (by exact rfl) ((h.cell (p := ⟨w3.heap.size, 1, none⟩) hGl).trans e1)) ?_
          simp only [Act.put, List.setIfInBounds_toArray, List.set_cons_zero, List.set_cons_succ]
          refine tk (i := 17) (.pointer (some ⟨b2, off2 + 0, none⟩)) hS rfl (by kernel_rfl) (by kernel_rfl) (by kernel_rfl) (fun _ _ _ h => h) (by kernel_rfl) (by intro _ _; exact ex_index (by exact rfl) Try.underlying25 (by kernel_rfl) (by exact rfl) (by exact rfl) (by omega)) ?_
          simp only [Act.put, List.setIfInBounds_toArray, List.set_cons_zero, List.set_cons_succ]
          refine tk (i := 18) (.int .u8 x2) hS rfl (by kernel_rfl) (by kernel_rfl) (by kernel_rfl) (fun _ _ _ h => h) (by kernel_rfl) (by intro _ h; exact ex_cell (by exact rfl) Try.underlying5 rfl (by exact rfl) ((h.cell (p := ⟨b2, off2 + 0, none⟩) hb2).trans d2)) ?_
          simp only [Act.put, List.setIfInBounds_toArray, List.set_cons_zero, List.set_cons_succ]
          refine tk (i := 19) (.int .i64 x2) hS rfl (by kernel_rfl) (by kernel_rfl) (by kernel_rfl) (fun _ _ _ h => h) (by kernel_rfl) (by intro _ h; exact ex_conv (by exact rfl) (by exact rfl) (conv_i64 _ _ _ _ rfl rfl (by omega) _)) ?_
          simp only [Act.put, List.setIfInBounds_toArray, List.set_cons_zero, List.set_cons_succ]
          refine tk (i := 20) (.pointer (some ⟨w3.heap.size, 1, none⟩)) hS rfl (by kernel_rfl) (by kernel_rfl) (by kernel_rfl) (fun _ _ _ h => h) (by kernel_rfl) (by intro _ _; exact ex_field 1 0 (by exact rfl) Try.underlying64 (by exact rfl) rfl (by kernel_rfl) (by exact rfl)) ?_
          simp only [Act.put, List.setIfInBounds_toArray, List.set_cons_zero, List.set_cons_succ]
          refine tk (i := 21) (.slice (some ⟨b2, off2, none⟩) m pc) hS rfl (by kernel_rfl) (by kernel_rfl) (by kernel_rfl) (fun _ _ _ h => h) (by kernel_rfl) (by intro _ h; exact ex_cell (by exact rfl) Try.underlying25 rfl (by exact rfl) ((h.cell (p := ⟨w3.heap.size, 1, none⟩) hGl).trans e1)) ?_
          simp only [Act.put, List.setIfInBounds_toArray, List.set_cons_zero, List.set_cons_succ]
          refine tk (i := 22) (.int .i64 (m : Int)) hS rfl (by kernel_rfl) (by kernel_rfl) (by kernel_rfl) (fun _ _ _ h => h) (by kernel_rfl) (by intro _ _; exact ex_len (by exact rfl) Try.underlying25 (by exact rfl)) ?_
          simp only [Act.put, List.setIfInBounds_toArray, List.set_cons_zero, List.set_cons_succ]
          refine tk (i := 23) (.int .i64 (2 + (m : Int))) hS rfl (by kernel_rfl) (by kernel_rfl) (by kernel_rfl) (fun _ _ _ h => h) (by kernel_rfl) (by intro _ _; exact ex_bin (by exact rfl) (by exact rfl) (by exact rfl) (by decide) (add_i64r _ _ _ (by omega) _)) ?_
          simp only [Act.put, List.setIfInBounds_toArray, List.set_cons_zero, List.set_cons_succ]
          refine tk (i := 24) (.bool false) hS rfl (by kernel_rfl) (by kernel_rfl) (by kernel_rfl) (fun _ _ _ h => h) (by kernel_rfl) (by intro _ _; exact ex_bin (by exact rfl) (by exact rfl) (by exact rfl) (by decide) (leq_f _ _ _ (by omega) _)) ?_
          simp only [Act.put, List.setIfInBounds_toArray, List.set_cons_zero, List.set_cons_succ]
          refine tk (i := 25) (.bool false) hS rfl (by kernel_rfl) (by kernel_rfl) (by kernel_rfl) (fun _ _ _ h => h) (by kernel_rfl) (by intro _ _; exact rfl) ?_
          simp only [Act.put, List.setIfInBounds_toArray, List.set_cons_zero, List.set_cons_succ]
          refine wpAnyH_done (by kernel_rfl) ?_ _
          go_wp2
          go_roundw
          case rel => exact ⟨k + N, f, by omega, by omega, hVn, by go_num, hB4.trans (hS.mono hB4.size)⟩
          case measure => simp [intOf]; omega
        · go_wp2_with (refine wpList_store_row rfl 64 (.tmp 4) (.tmp 29) rfl w3.heap.size _ rfl rfl 64 _ hN opt_info rfl (by simp [kdV, Value.oneCell']) ?_)
          refine wp_region_held_drew (S := fun W => Below W4.heap.size W4 W) (by kernel_rfl) (below_drew _ _) (fun hS => ?_)
          refine tk (i := 0) (.pointer (some ⟨w3.heap.size, 0, none⟩)) hS rfl (by kernel_rfl) (by kernel_rfl) (by kernel_rfl) (fun _ _ _ h => h) (by kernel_rfl) (by intro _ _; exact ex_field 0 0 (by exact rfl) Try.underlying64 (by exact rfl) rfl (by kernel_rfl) (by exact rfl)) ?_
          simp only [Act.put, List.setIfInBounds_toArray, List.set_cons_zero, List.set_cons_succ]
          refine tk (i := 1) (.int .u8 137) hS rfl (by kernel_rfl) (by kernel_rfl) (by kernel_rfl) (fun _ _ _ h => h) (by kernel_rfl) (by intro _ h; exact ex_cell (by exact rfl) Try.underlying5 rfl (by exact rfl) ((h.cell (p := ⟨w3.heap.size, 0, none⟩) hGl).trans e0)) ?_
          simp only [Act.put, List.setIfInBounds_toArray, List.set_cons_zero, List.set_cons_succ]
          refine tk (i := 2) (.bool false) hS rfl (by kernel_rfl) (by kernel_rfl) (by kernel_rfl) (fun _ _ _ h => h) (by kernel_rfl) (by intro _ _; exact eq_int_ne (by exact rfl) (by exact rfl) (by exact rfl) (by decide)) ?_
          simp only [Act.put, List.setIfInBounds_toArray, List.set_cons_zero, List.set_cons_succ]
          refine tk (i := 3) (.bool false) hS rfl (by kernel_rfl) (by kernel_rfl) (by kernel_rfl) (fun _ _ _ h => h) (by kernel_rfl) (by intro _ _; exact rfl) ?_
          simp only [Act.put, List.setIfInBounds_toArray, List.set_cons_zero, List.set_cons_succ]
          refine tk (i := 4) (.pointer (some ⟨w3.heap.size, 0, none⟩)) hS rfl (by kernel_rfl) (by kernel_rfl) (by kernel_rfl) (fun _ _ _ h => h) (by kernel_rfl) (by intro _ _; exact ex_field 0 0 (by exact rfl) Try.underlying64 (by exact rfl) rfl (by kernel_rfl) (by exact rfl)) ?_
          simp only [Act.put, List.setIfInBounds_toArray, List.set_cons_zero, List.set_cons_succ]
          refine tk (i := 5) (.int .u8 137) hS rfl (by kernel_rfl) (by kernel_rfl) (by kernel_rfl) (fun _ _ _ h => h) (by kernel_rfl) (by intro _ h; exact ex_cell (by exact rfl) Try.underlying5 rfl (by exact rfl) ((h.cell (p := ⟨w3.heap.size, 0, none⟩) hGl).trans e0)) ?_
          simp only [Act.put, List.setIfInBounds_toArray, List.set_cons_zero, List.set_cons_succ]
          refine tk (i := 6) (.bool true) hS rfl (by kernel_rfl) (by kernel_rfl) (by kernel_rfl) (fun _ _ _ h => h) (by kernel_rfl) (by intro _ _; exact eq_int_self (m := 137) (by exact rfl) (by exact rfl) (by exact rfl)) ?_
          simp only [Act.put, List.setIfInBounds_toArray, List.set_cons_zero, List.set_cons_succ]
          refine tk (i := 7) (.bool true) hS rfl (by kernel_rfl) (by kernel_rfl) (by kernel_rfl) (fun _ _ _ h => h) (by kernel_rfl) (by intro _ _; exact rfl) ?_
          simp only [Act.put, List.setIfInBounds_toArray, List.set_cons_zero, List.set_cons_succ]
          refine tk (i := 8) (.bool true) hS rfl (by kernel_rfl) (by kernel_rfl) (by kernel_rfl) (fun _ _ _ h => h) (by kernel_rfl) (by intro _ _; exact rfl) ?_
          simp only [Act.put, List.setIfInBounds_toArray, List.set_cons_zero, List.set_cons_succ]
          refine tk (i := 9) (.pointer (some ⟨w3.heap.size, 1, none⟩)) hS rfl (by kernel_rfl) (by kernel_rfl) (by kernel_rfl) (fun _ _ _ h => h) (by kernel_rfl) (by intro _ _; exact ex_field 1 0 (by exact rfl) Try.underlying64 (by exact rfl) rfl (by kernel_rfl) (by exact rfl)) ?_
          simp only [Act.put, List.setIfInBounds_toArray, List.set_cons_zero, List.set_cons_succ]
          refine tk (i := 10) (.slice (some ⟨b2, off2, none⟩) m pc) hS rfl (by kernel_rfl) (by kernel_rfl) (by kernel_rfl) (fun _ _ _ h => h) (by kernel_rfl) (by intro _ h; exact ex_cell (by exact rfl) Try.underlying25 rfl (by exact rfl) ((h.cell (p := ⟨w3.heap.size, 1, none⟩) hGl).trans e1)) ?_
          simp only [Act.put, List.setIfInBounds_toArray, List.set_cons_zero, List.set_cons_succ]
          refine tk (i := 11) (.int .i64 (m : Int)) hS rfl (by kernel_rfl) (by kernel_rfl) (by kernel_rfl) (fun _ _ _ h => h) (by kernel_rfl) (by intro _ _; exact ex_len (by exact rfl) Try.underlying25 (by exact rfl)) ?_
          simp only [Act.put, List.setIfInBounds_toArray, List.set_cons_zero, List.set_cons_succ]
          refine tk (i := 12) (.bool true) hS rfl (by kernel_rfl) (by kernel_rfl) (by kernel_rfl) (fun _ _ _ h => h) (by kernel_rfl) (by intro _ _; exact ex_bin (by exact rfl) (by exact rfl) (by exact rfl) (by decide) (gtr_t _ _ _ (by omega) _)) ?_
          simp only [Act.put, List.setIfInBounds_toArray, List.set_cons_zero, List.set_cons_succ]
          refine tk (i := 13) (.bool true) hS rfl (by kernel_rfl) (by kernel_rfl) (by kernel_rfl) (fun _ _ _ h => h) (by kernel_rfl) (by intro _ _; exact rfl) ?_
          simp only [Act.put, List.setIfInBounds_toArray, List.set_cons_zero, List.set_cons_succ]
          refine tk (i := 14) (.bool true) hS rfl (by kernel_rfl) (by kernel_rfl) (by kernel_rfl) (fun _ _ _ h => h) (by kernel_rfl) (by intro _ _; exact rfl) ?_
          simp only [Act.put, List.setIfInBounds_toArray, List.set_cons_zero, List.set_cons_succ]
          refine tk (i := 15) (.pointer (some ⟨w3.heap.size, 1, none⟩)) hS rfl (by kernel_rfl) (by kernel_rfl) (by kernel_rfl) (fun _ _ _ h => h) (by kernel_rfl) (by intro _ _; exact ex_field 1 0 (by exact rfl) Try.underlying64 (by exact rfl) rfl (by kernel_rfl) (by exact rfl)) ?_
          simp only [Act.put, List.setIfInBounds_toArray, List.set_cons_zero, List.set_cons_succ]
          refine tk (i := 16) (.slice (some ⟨b2, off2, none⟩) m pc) hS rfl (by kernel_rfl) (by kernel_rfl) (by kernel_rfl) (fun _ _ _ h => h) (by kernel_rfl) (by intro _ h; exact ex_cell (by exact rfl) Try.underlying25 rfl (by exact rfl) ((h.cell (p := ⟨w3.heap.size, 1, none⟩) hGl).trans e1)) ?_
          simp only [Act.put, List.setIfInBounds_toArray, List.set_cons_zero, List.set_cons_succ]
          refine tk (i := 17) (.pointer (some ⟨b2, off2 + 0, none⟩)) hS rfl (by kernel_rfl) (by kernel_rfl) (by kernel_rfl) (fun _ _ _ h => h) (by kernel_rfl) (by intro _ _; exact ex_index (by exact rfl) Try.underlying25 (by kernel_rfl) (by exact rfl) (by exact rfl) (by omega)) ?_
          simp only [Act.put, List.setIfInBounds_toArray, List.set_cons_zero, List.set_cons_succ]
          refine tk (i := 18) (.int .u8 x2) hS rfl (by kernel_rfl) (by kernel_rfl) (by kernel_rfl) (fun _ _ _ h => h) (by kernel_rfl) (by intro _ h; exact ex_cell (by exact rfl) Try.underlying5 rfl (by exact rfl) ((h.cell (p := ⟨b2, off2 + 0, none⟩) hb2).trans d2)) ?_
          simp only [Act.put, List.setIfInBounds_toArray, List.set_cons_zero, List.set_cons_succ]
          refine tk (i := 19) (.int .i64 x2) hS rfl (by kernel_rfl) (by kernel_rfl) (by kernel_rfl) (fun _ _ _ h => h) (by kernel_rfl) (by intro _ h; exact ex_conv (by exact rfl) (by exact rfl) (conv_i64 _ _ _ _ rfl rfl (by omega) _)) ?_
          simp only [Act.put, List.setIfInBounds_toArray, List.set_cons_zero, List.set_cons_succ]
          refine tk (i := 20) (.pointer (some ⟨w3.heap.size, 1, none⟩)) hS rfl (by kernel_rfl) (by kernel_rfl) (by kernel_rfl) (fun _ _ _ h => h) (by kernel_rfl) (by intro _ _; exact ex_field 1 0 (by exact rfl) Try.underlying64 (by exact rfl) rfl (by kernel_rfl) (by exact rfl)) ?_
          simp only [Act.put, List.setIfInBounds_toArray, List.set_cons_zero, List.set_cons_succ]
          refine tk (i := 21) (.slice (some ⟨b2, off2, none⟩) m pc) hS rfl (by kernel_rfl) (by kernel_rfl) (by kernel_rfl) (fun _ _ _ h => h) (by kernel_rfl) (by intro _ h; exact ex_cell (by exact rfl) Try.underlying25 rfl (by exact rfl) ((h.cell (p := ⟨w3.heap.size, 1, none⟩) hGl).trans e1)) ?_
          simp only [Act.put, List.setIfInBounds_toArray, List.set_cons_zero, List.set_cons_succ]
          refine tk (i := 22) (.int .i64 (m : Int)) hS rfl (by kernel_rfl) (by kernel_rfl) (by kernel_rfl) (fun _ _ _ h => h) (by kernel_rfl) (by intro _ _; exact ex_len (by exact rfl) Try.underlying25 (by exact rfl)) ?_
          simp only [Act.put, List.setIfInBounds_toArray, List.set_cons_zero, List.set_cons_succ]
          refine tk (i := 23) (.int .i64 (2 + (m : Int))) hS rfl (by kernel_rfl) (by kernel_rfl) (by kernel_rfl) (fun _ _ _ h => h) (by kernel_rfl) (by intro _ _; exact ex_bin (by exact rfl) (by exact rfl) (by exact rfl) (by decide) (add_i64r _ _ _ (by omega) _)) ?_
          simp only [Act.put, List.setIfInBounds_toArray, List.set_cons_zero, List.set_cons_succ]
          refine tk (i := 24) (.bool false) hS rfl (by kernel_rfl) (by kernel_rfl) (by kernel_rfl) (fun _ _ _ h => h) (by kernel_rfl) (by intro _ _; exact ex_bin (by exact rfl) (by exact rfl) (by exact rfl) (by decide) (leq_f _ _ _ (by omega) _)) ?_
          simp only [Act.put, List.setIfInBounds_toArray, List.set_cons_zero, List.set_cons_succ]
          refine tk (i := 25) (.bool false) hS rfl (by kernel_rfl) (by kernel_rfl) (by kernel_rfl) (fun _ _ _ h => h) (by kernel_rfl) (by intro _ _; exact rfl) ?_
          simp only [Act.put, List.setIfInBounds_toArray, List.set_cons_zero, List.set_cons_succ]
          refine wpAnyH_done (by kernel_rfl) ?_ _
          go_wp2
          go_roundw
          case rel => exact ⟨k + N, f, by omega, by omega, hVn, by go_num, hB4.trans (hS.mono hB4.size)⟩
          case measure => simp [intOf]; omega
end Go.Proofs.Ytfkcejfjmfliaaa
end

section
/-
  Rows of pairs in a region that draws its order: a literal of one, an append of one.
-/
namespace Go.Proofs.Ytfkcejfjmfliaaa
open Go.RowKit

section
variable {P : Program} {md : Region.Mode} {ops : Array Oper} {Q : Exit → Act → World → Prop} {S : World → Prop}
theorem op_build_kd {i : Nat} {o : Oper} {fuel : Nat} {listed : Array Bool} {a : Act} {w : World} (t e : TypeId) (x : Operand) (hi : ops.toList[i]? = some o) (hw : Region.wanted o (yielded ops a.tmps) = true)
    (ho : o.op = .buildSlice t 1 #[(0, x)]) (hu : P.underlying t = some (.slice e))
    (hinfo : (P.info? e).map (fun i => (i.zero, i.size)) = some (some (.agg #[.int .u8 0, .slice none 0 0]), 2)) (k : Int) (u : Value) (hx : a.eval x = .agg #[.int .u8 k, u])
    (hS : ∀ w', Below w.heap.size w w' → S w')
    (h : ∀ g w', Has w' g (.cells #[.int .u8 k, u] e (0, 0)) → w.heap.size ≤ g → Below w.heap.size w w' → S w' → wpAnyH P md ops Q S fuel (listed.setIfInBounds i true) (a.put o.dst (.slice (some ⟨g, 0, none⟩) 1 1)) w') :
    wpOp P ops Q i (fun a' w' => S w' ∧ wpAnyH P md ops Q S fuel (listed.setIfInBounds i true) a' w') a w := by
  have hi : ops[i]? = some o := by simpa using hi
  unfold wpOp
  rw [hi]
  simp only [hw, if_true]
  left
  cases hie : P.info? e with
  | none => rw [hie] at hinfo; simp at hinfo
  | some ie =>
    rw [hie] at hinfo
    simp only [Option.map_some, Option.some.injEq, Prod.mk.injEq] at hinfo
    obtain ⟨hz, hsz⟩ := hinfo
    have hb : Below w.heap.size w (w.alloc (.cells #[.int .u8 k, u] e)) := (Below.refl _ _).alloc (Nat.le_refl _) _
    refine wp_buildSlice t e 1 #[(0, x)] ho #[.int .u8 k, u] ie _ hu hie hz (by rw [hsz]; decide) (by rw [hsz]; decide) ?_ ⟨hS _ hb, h _ _ (Has.newAt rfl) (Nat.le_refl _) hb (hS _ hb)⟩
    have e1 : ((#[(0, x)] : Array (Nat × Operand)).map fun (i, x) => (i, a.eval x)).toList = [(0, .agg #[.int .u8 k, u])] := by simp [hx]
    rw [e1, hsz]
    obtain ⟨r, hr, hrs, hrk⟩ := Great.fill_dense (s := 2) (by decide) [.agg #[.int .u8 k, u]] 0 ((Array.range (1 * 2)).map fun i => (Value.agg #[.int .u8 0, .slice none 0 0]).cells[i % (Value.agg #[.int .u8 0, .slice none 0 0]).cells.size]!) (all1 rfl) (by simp)
    refine hr.trans (congrArg some (Array.ext_getElem? fun i => ?_))
    rw [hrk]
    match i with
    | 0 => rfl
    | 1 => rfl
    | i + 2 =>
      rw [if_neg (by simp), Array.getElem?_eq_none (by simp), Array.getElem?_eq_none (by simp)]
theorem op_append_kd {i : Nat} {o : Oper} {fuel : Nat} {listed : Array Bool} {a : Act} {w : World} (s x : Operand) (t : TypeId) (hi : ops.toList[i]? = some o) (hw : Region.wanted o (yielded ops a.tmps) = true)
    (ho : o.op = .call { callee := .builtin .append, args := #[s, x], argTypes := #[t, t] })
    (base : Nat) (e : TypeId) (z : Value) (bytes : Nat) (ht : P.underlying t = some (.slice e)) (hinfo : (P.info? e).map (fun i => (i.zero, i.size, i.bytes)) = some (some z, 2, bytes)) (hzs : z.cells.size = 2)
    (v : Value) (ps : List Kd) (hs : a.eval s = v) (hown : OwnK w base e v ps)
    (g c : Nat) (p : Kd) (hx : a.eval x = .slice (some ⟨g, 0, none⟩) 1 c) (h0 : w.cell? ⟨g, 0, none⟩ = some (.int .u8 p.1)) (h1 : w.cell? ⟨g, 1, none⟩ = some (kdV p))
    (r0 : 0 ≤ p.1) (r1 : p.1 ≤ 255) (hp : OwnB w base (kdV p) p.2.2.2) (hne : NeB v (kdV p))
    (hbytes : (ps.length + 1) * bytes ≤ 140737488355328) (h63 : ps.length + 1 ≤ maxLen) (hbase : base ≤ w.heap.size)
    (hS : ∀ w', Below base w w' → S w')
    (h : ∀ v' w', OwnK w' base e v' (ps ++ [p]) → Below base w w' → S w' → wpAnyH P md ops Q S fuel (listed.setIfInBounds i true) (a.put o.dst v') w') :
    wpOp P ops Q i (fun a' w' => S w' ∧ wpAnyH P md ops Q S fuel (listed.setIfInBounds i true) a' w') a w := by
  have hi : ops[i]? = some o := by simpa using hi
  unfold wpOp
  rw [hi]
  simp only [hw, if_true]
  left
  exact wp_append_kd w s x t ho base e z bytes ht hinfo hzs v ps hs hown g c p hx h0 h1 r0 r1 hp hne hbytes h63 hbase fun v' w' h2 h3 _ =>
    have hb := below_own hown.own h3 hbase
    ⟨hS _ hb, h v' w' h2 hb (hS _ hb)⟩
/-- an append of bytes: all blocks but the row's own stay -/
theorem op_appS {i : Nat} {o : Oper} {fuel : Nat} {listed : Array Bool} {a : Act} {w : World} (s x : Operand) (t : TypeId) (hi : ops.toList[i]? = some o) (hw : Region.wanted o (yielded ops a.tmps) = true)
    (ho : o.op = .call { callee := .builtin .append, args := #[s, x], argTypes := #[t, t] })
    (ht : P.underlying t = some (.slice 5)) (hinfo : (P.info? 5).map (fun i => (i.zero, i.size, i.bytes)) = some (some (.int .u8 0), 1, 1))
    (base : Nat) (v : Value) (l : List Int) (hs : a.eval s = v) (hown : OwnB w base v l)
    (B : Nat) (A : Option Addr) (m c : Nat) (l' : List Int) (hx : a.eval x = .slice A m c) (hy : By B w A m c l')
    (hbytes : l.length + m ≤ 140737488355328) (hbase : base ≤ w.heap.size)
    (hS : ∀ w', w.grownBy w' v.ownBlock → S w')
    (h : ∀ v' w', OwnB w' base v' (l ++ l') → w.grownBy w' v.ownBlock → (v'.ownBlock = v.ownBlock ∨ v'.ownBlock = some w.heap.size) → S w' → wpAnyH P md ops Q S fuel (listed.setIfInBounds i true) (a.put o.dst v') w') : wpOp P ops Q i (fun a' w' => S w' ∧ wpAnyH P md ops Q S fuel (listed.setIfInBounds i true) a' w') a w := by
  have hi : ops[i]? = some o := by simpa using hi
  unfold wpOp
  rw [hi]
  simp only [hw, if_true]
  left
  exact wp_append_row w s x t ho base _ _ 1 ht hinfo rfl v l.length (u8s l) hs hown.own B A m c (u8s l') hx hy.row (fun u hu => by
      obtain ⟨y, _, rfl⟩ := List.mem_map.1 hu; rfl) (by simp only [maxLen]; omega) (by omega) hbase
      fun v' w' h2 h3 h4 => by
        have ho' : OwnB w' base v' (l ++ l') := ⟨by rw [List.length_append, hy.len, u8s_append]; exact h2, hown.rng.app hy.rng⟩
        exact ⟨hS w' h3, h v' w' ho' h3 h4 (hS w' h3)⟩
end
end Go.Proofs.Ytfkcejfjmfliaaa
end

section
/-
  Rows of pairs: the address of one, of its fields.
-/
namespace Go.Proofs.Ytfkcejfjmfliaaa
open Go.RowKit

section
variable {P : Program}
theorem ex_index2 {ρ : Operand → Value} {o : Oper} {t e : TypeId} {x ix : Operand} {b off n c k : Nat} {w : World} (ho : o.op = .indexAddr t x ix) (ht : P.underlying t = some (.slice e)) (hs : (P.info? e).map (·.size) = some 2) (hx : ρ x = .slice (some ⟨b, off, none⟩) n c) (hi : ρ ix = .int .i64 (k : Int)) (hk : k < n) :
    (execOp ρ o).run P w = .ok (.value (.pointer (some ⟨b, off + k * 2, none⟩))) w := by
  have hsz : (sizeOf e).run P w = .ok 2 w := by
    cases hq : P.info? e with
    | none => simp [hq] at hs
    | some i => simp [hq] at hs; simp [sizeOf, typeInfo, hq, hs]
  unfold execOp
  simp [ho, hx, hi, Instr.indexAt, run_underlying ht, hsz, hk, Go.WideShapes.add_plain, asIntOf]
theorem ex_field0 {ρ : Operand → Value} {o : Oper} {s : TypeId} {x : Operand} {k g q : Nat} {fs : Array Field} {f : Field} {w : World} (ho : o.op = .fieldAddr s x k) (hs : P.underlying s = some (.struct fs)) (hf : fs[k]? = some f) (hoff : f.offset = 0) (hz : (P.info? f.type).map (·.size) = some 1) (hx : ρ x = .pointer (some ⟨g, q, none⟩)) :
    (execOp ρ o).run P w = .ok (.value (.pointer (some ⟨g, q, none⟩))) w := by
  have hsz : (sizeOf f.type).run P w = .ok 1 w := by
    cases hq : P.info? f.type with
    | none => simp [hq] at hz
    | some i => simp [hq] at hz; simp [sizeOf, typeInfo, hq, hz]
  unfold execOp
  simp [ho, hx, Instr.fieldAt, run_underlying hs, hf, Instr.sureAddr, fieldPlace, hsz, Go.WideShapes.add_plain, hoff]
theorem ex_field1 {ρ : Operand → Value} {o : Oper} {s : TypeId} {x : Operand} {k g q : Nat} {fs : Array Field} {f : Field} {w : World} (ho : o.op = .fieldAddr s x k) (hs : P.underlying s = some (.struct fs)) (hf : fs[k]? = some f) (hoff : f.offset = 1) (hz : (P.info? f.type).map (·.size) = some 1) (hx : ρ x = .pointer (some ⟨g, q, none⟩)) :
    (execOp ρ o).run P w = .ok (.value (.pointer (some ⟨g, q + 1, none⟩))) w := by
  have hsz : (sizeOf f.type).run P w = .ok 1 w := by
    cases hq : P.info? f.type with
    | none => simp [hq] at hz
    | some i => simp [hq] at hz; simp [sizeOf, typeInfo, hq, hz]
  unfold execOp
  simp [ho, hx, Instr.fieldAt, run_underlying hs, hf, Instr.sureAddr, fieldPlace, hsz, Go.WideShapes.add_plain, hoff]
end
theorem kdL_any {f : Int × List Int → Bool} {ps : List Kd} {k : Nat} {p : Kd} (h : ps[k]? = some p) : (kdL (ps.drop k)).any f = (f (p.1, p.2.2.2) || (kdL (ps.drop (k + 1))).any f) := by
  obtain ⟨hk, rfl⟩ := List.getElem?_eq_some_iff.1 h
  rw [List.drop_eq_getElem_cons hk]
  simp only [kdL, List.map_cons, List.any_cons]
theorem kdL_take {ps : List Kd} {k : Nat} {p : Kd} (h : ps[k]? = some p) : kdL (ps.take (k + 1)) = kdL (ps.take k) ++ [(p.1, p.2.2.2)] := by
  obtain ⟨hk, rfl⟩ := List.getElem?_eq_some_iff.1 h
  rw [List.take_succ_eq_append_getElem hk, kdL_append]
  rfl
end Go.Proofs.Ytfkcejfjmfliaaa
end

section
/-
  The walk of the reference's SameOptions.
-/
namespace Go.Proofs.Ytfkcejfjmfliaaa
open Go.RowKit Go.Shelf

section
variable {P : Program}
theorem ex_neq_str {ρ : Operand → Value} {o : Oper} {t z : TypeId} {x y : Operand} {s s' : ByteArray} {w : World} (ho : o.op = .binOp .neq t x y z) (hx : ρ x = .string s) (hy : ρ y = .string s') : (execOp ρ o).run P w = .ok (.value (.bool (s.toList != s'.toList))) w := by
  unfold execOp
  simp [ho, hx, hy, eqGuard, binOp, Op.stringOp, bne]
theorem neq_str_t {ρ : Operand → Value} {o : Oper} {t z : TypeId} {x y : Operand} {s s' : ByteArray} {w : World} (ho : o.op = .binOp .neq t x y z) (hx : ρ x = .string s) (hy : ρ y = .string s') (h : (s.toList == s'.toList) = false) : (execOp ρ o).run P w = .ok (.value (.bool true)) w := by
  rw [ex_neq_str ho hx hy, bne, h]; rfl
theorem neq_str_f {ρ : Operand → Value} {o : Oper} {t z : TypeId} {x y : Operand} {s s' : ByteArray} {w : World} (ho : o.op = .binOp .neq t x y z) (hx : ρ x = .string s) (hy : ρ y = .string s') (h : (s.toList == s'.toList) = true) : (execOp ρ o).run P w = .ok (.value (.bool false)) w := by
  rw [ex_neq_str ho hx hy, bne, h]; rfl
end
theorem kdL_drop {ps : List Kd} {k : Nat} {p : Kd} (h : ps[k]? = some p) : kdL (ps.drop k) = (p.1, p.2.2.2) :: kdL (ps.drop (k + 1)) := by
  obtain ⟨hk, rfl⟩ := List.getElem?_eq_some_iff.1 h
  rw [List.drop_eq_getElem_cons hk]
  rfl

set_option maxRecDepth 100000 in
set_option maxHeartbeats 2000000 in
theorem rsameo_any (A1 A2 : Option Addr) (M1 M2 c1 c2 : Nat) (ps qs : List Kd) (w : World) (K1 : Kds w.heap.size w A1 M1 c1 ps) (K2 : Kds w.heap.size w A2 M2 c2 qs) :
    Calls Try.prog 30 #[.slice A1 M1 c1, .slice A2 M2 c2] w fun e w' => e = .returned (.bool (decide (kdL ps = kdL qs))) ∧ Below w.heap.size w w' := by
  obtain ⟨V, hV⟩ : ∃ V, decide (kdL ps = kdL qs) = V := ⟨_, rfl⟩
  rw [hV]
  have hM1 := K1.len
  have hM2 := K2.len
  have hb1 := Nat.le_trans K1.cap K1.big
  have hb2 := Nat.le_trans K2.cap K2.big
  by_cases hM : M1 = M2
  case neg =>
    obtain rfl : V = false := by
      rw [← hV, decide_eq_false_iff_not]
      intro h
      have := congrArg List.length h
      rw [kdL_len, kdL_len] at this
      omega
    have hMi : ((M1 : Int) == (M2 : Int)) = false := by simp; omega
    clear K1 K2 hV hM1 hM2
    go_enter Try.func30, Try.ntmps30
    go_wp2
    go_ret
    exact ⟨rfl, Below.refl _ _⟩
  case pos =>
  subst hM
  obtain ⟨M, rfl⟩ : ∃ M, M = M1 := ⟨_, rfl⟩
  have hV0 : Hid (decide (kdL (ps.drop 0) = kdL (qs.drop 0)) = V) := Lib.hid (by rw [List.drop_zero, List.drop_zero]; exact hV)
  have hM1H := Lib.hid hM1
  have hM2H := Lib.hid hM2
  clear hV hM1 hM2
  go_enter Try.func30, Try.ntmps30
  go_wp2
  go_loopw [5] (fun i wr => ∃ k : Nat, k ≤ M ∧ i = .int .i64 k ∧ Hid (decide (kdL (ps.drop k) = kdL (qs.drop k)) = V) ∧ Below w.heap.size w wr) (fun i _ => M - (intOf i).toNat)
  case atStart => exact ⟨0, Nat.zero_le _, rfl, hV0, Below.refl _ _⟩
  case round =>
    obtain ⟨k, hk, rfl, hV, hBr⟩ := hrel
    rename_i wr _
    by_cases hkM : k < M
    case neg =>
      have hge : ¬ ((k : Int) < (M : Int)) := by omega
      obtain rfl : V = true := by
        rw [← hV.out, List.drop_of_length_le (by rw [hM1H.out]; omega), List.drop_of_length_le (by rw [hM2H.out]; omega)]
        simp
      clear K1 K2 hV hV0
      go_wp2
      go_ret
      exact ⟨rfl, hBr⟩
    case pos =>
    have hkz : (k : Int) < (M : Int) := by omega
    obtain ⟨⟨pk, pA, pc, pl⟩, hp⟩ : ∃ p, ps[k]? = some p := ⟨ps[k]'(by rw [hM1H.out]; exact hkM), List.getElem?_eq_getElem _⟩
    obtain ⟨⟨qk, qA, qc, ql⟩, hq⟩ : ∃ q, qs[k]? = some q := ⟨qs[k]'(by rw [hM2H.out]; exact hkM), List.getElem?_eq_getElem _⟩
    obtain ⟨b1, o1, hA1, hb1, e0, e1, hr1, hr2, yP⟩ := K1.at_ k _ hp
    obtain ⟨b2, o2, hA2, hb2, g0, g1, hr3, hr4, yQ⟩ := K2.at_ k _ hq
    subst hA1 hA2
    have hV2 := hV.out
    rw [kdL_drop hp, kdL_drop hq] at hV2
    dsimp only at e0 e1 yP g0 g1 yQ hr1 hr2 hr3 hr4 hV2
    unfold kdV at e1 g1
    dsimp only at e1 g1
    have hbq := strOfNums_beq yP.rng yQ.rng
    obtain ⟨pn, hpn⟩ : ∃ m, pl.length = m := ⟨_, rfl⟩
    obtain ⟨qn, hqn⟩ : ∃ m, ql.length = m := ⟨_, rfl⟩
    rw [hpn] at e1 yP
    rw [hqn] at g1 yQ
    have hVH2 := Lib.hid hV2
    clear hV hV2 K1 K2 hp hq hpn hqn hV0
    by_cases hne : pk = qk
    case neg =>
      obtain rfl : V = false := by rw [← hVH2.out]; simp [hne]
      clear hbq hVH2
      go_wp2
      refine wp_region_held_drew (S := fun W => Below w.heap.size w W) (by kernel_rfl) (hBr.trans (below_drew _ _)) (fun hS => ?_)
      refine tk (i := 0) (.slice (some ⟨b1, o1, none⟩) M c1) hS rfl (by kernel_rfl) (by kernel_rfl) (by kernel_rfl) (fun _ _ _ h => h) (by kernel_rfl) (by intro _ _; exact rfl) ?_
      simp only [Act.put, List.setIfInBounds_toArray, List.set_cons_zero, List.set_cons_succ]
      refine tk (i := 1) (.int .i64 (k : Int)) hS rfl (by kernel_rfl) (by kernel_rfl) (by kernel_rfl) (fun _ _ _ h => h) (by kernel_rfl) (by intro _ _; exact rfl) ?_
      simp only [Act.put, List.setIfInBounds_toArray, List.set_cons_zero, List.set_cons_succ]
      refine tk (i := 2) (.pointer (some ⟨b1, o1 + k * 2, none⟩)) hS rfl (by kernel_rfl) (by kernel_rfl) (by kernel_rfl) (fun _ _ _ h => h) (by kernel_rfl) (by intro _ _; exact ex_index2 (by exact rfl) Try.underlying45 (by kernel_rfl) (by exact rfl) (by exact rfl) hkM) ?_
      simp only [Act.put, List.setIfInBounds_toArray, List.set_cons_zero, List.set_cons_succ]
      refine tk (i := 3) (.pointer (some ⟨b1, o1 + k * 2, none⟩)) hS rfl (by kernel_rfl) (by kernel_rfl) (by kernel_rfl) (fun _ _ _ h => h) (by kernel_rfl) (by intro _ _; exact ex_field0 (by exact rfl) Try.underlying64 (by exact rfl) rfl (by kernel_rfl) (by exact rfl)) ?_
      simp only [Act.put, List.setIfInBounds_toArray, List.set_cons_zero, List.set_cons_succ]
      refine tk (i := 4) (.int .u8 pk) hS rfl (by kernel_rfl) (by kernel_rfl) (by kernel_rfl) (fun _ _ _ h => h) (by kernel_rfl) (by intro _ h; exact ex_cell (by exact rfl) Try.underlying5 rfl (by exact rfl) ((h.cell (p := ⟨b1, o1 + k * 2, none⟩) hb1).trans e0)) ?_
      simp only [Act.put, List.setIfInBounds_toArray, List.set_cons_zero, List.set_cons_succ]
      refine tk (i := 5) (.slice (some ⟨b2, o2, none⟩) M c2) hS rfl (by kernel_rfl) (by kernel_rfl) (by kernel_rfl) (fun _ _ _ h => h) (by kernel_rfl) (by intro _ _; exact rfl) ?_
      simp only [Act.put, List.setIfInBounds_toArray, List.set_cons_zero, List.set_cons_succ]
      refine tk (i := 6) (.int .i64 (k : Int)) hS rfl (by kernel_rfl) (by kernel_rfl) (by kernel_rfl) (fun _ _ _ h => h) (by kernel_rfl) (by intro _ _; exact rfl) ?_
      simp only [Act.put, List.setIfInBounds_toArray, List.set_cons_zero, List.set_cons_succ]
      refine tk (i := 7) (.pointer (some ⟨b2, o2 + k * 2, none⟩)) hS rfl (by kernel_rfl) (by kernel_rfl) (by kernel_rfl) (fun _ _ _ h => h) (by kernel_rfl) (by intro _ _; exact ex_index2 (by exact rfl) Try.underlying45 (by kernel_rfl) (by exact rfl) (by exact rfl) hkM) ?_
      simp only [Act.put, List.setIfInBounds_toArray, List.set_cons_zero, List.set_cons_succ]
      refine tk (i := 8) (.pointer (some ⟨b2, o2 + k * 2, none⟩)) hS rfl (by kernel_rfl) (by kernel_rfl) (by kernel_rfl) (fun _ _ _ h => h) (by kernel_rfl) (by intro _ _; exact ex_field0 (by exact rfl) Try.underlying64 (by exact rfl) rfl (by kernel_rfl) (by exact rfl)) ?_
      simp only [Act.put, List.setIfInBounds_toArray, List.set_cons_zero, List.set_cons_succ]
      refine tk (i := 9) (.int .u8 qk) hS rfl (by kernel_rfl) (by kernel_rfl) (by kernel_rfl) (fun _ _ _ h => h) (by kernel_rfl) (by intro _ h; exact ex_cell (by exact rfl) Try.underlying5 rfl (by exact rfl) ((h.cell (p := ⟨b2, o2 + k * 2, none⟩) hb2).trans g0)) ?_
      simp only [Act.put, List.setIfInBounds_toArray, List.set_cons_zero, List.set_cons_succ]
      refine tk (i := 10) (.bool true) hS rfl (by kernel_rfl) (by kernel_rfl) (by kernel_rfl) (fun _ _ _ h => h) (by kernel_rfl) (by intro _ _; exact neq_int_ne (by exact rfl) (by exact rfl) (by exact rfl) hne) ?_
      simp only [Act.put, List.setIfInBounds_toArray, List.set_cons_zero, List.set_cons_succ]
      refine tk (i := 11) (.bool true) hS rfl (by kernel_rfl) (by kernel_rfl) (by kernel_rfl) (fun _ _ _ h => h) (by kernel_rfl) (by intro _ _; exact rfl) ?_
      simp only [Act.put, List.setIfInBounds_toArray, List.set_cons_zero, List.set_cons_succ]
      refine tkn (i := 12) hS rfl (by kernel_rfl) (by kernel_rfl) (by kernel_rfl) (fun _ _ _ h => h) (by kernel_rfl) ?_
      simp only [Act.put, List.setIfInBounds_toArray, List.set_cons_zero, List.set_cons_succ]
      refine tkn (i := 13) hS rfl (by kernel_rfl) (by kernel_rfl) (by kernel_rfl) (fun _ _ _ h => h) (by kernel_rfl) ?_
      simp only [Act.put, List.setIfInBounds_toArray, List.set_cons_zero, List.set_cons_succ]
      refine tkn (i := 14) hS rfl (by kernel_rfl) (by kernel_rfl) (by kernel_rfl) (fun _ _ _ h => h) (by kernel_rfl) ?_
      simp only [Act.put, List.setIfInBounds_toArray, List.set_cons_zero, List.set_cons_succ]
      refine tkn (i := 15) hS rfl (by kernel_rfl) (by kernel_rfl) (by kernel_rfl) (fun _ _ _ h => h) (by kernel_rfl) ?_
      simp only [Act.put, List.setIfInBounds_toArray, List.set_cons_zero, List.set_cons_succ]
      refine tkn (i := 16) hS rfl (by kernel_rfl) (by kernel_rfl) (by kernel_rfl) (fun _ _ _ h => h) (by kernel_rfl) ?_
      simp only [Act.put, List.setIfInBounds_toArray, List.set_cons_zero, List.set_cons_succ]
      refine tkn (i := 17) hS rfl (by kernel_rfl) (by kernel_rfl) (by kernel_rfl) (fun _ _ _ h => h) (by kernel_rfl) ?_
      simp only [Act.put, List.setIfInBounds_toArray, List.set_cons_zero, List.set_cons_succ]
      refine tkn (i := 18) hS rfl (by kernel_rfl) (by kernel_rfl) (by kernel_rfl) (fun _ _ _ h => h) (by kernel_rfl) ?_
      simp only [Act.put, List.setIfInBounds_toArray, List.set_cons_zero, List.set_cons_succ]
      refine tkn (i := 19) hS rfl (by kernel_rfl) (by kernel_rfl) (by kernel_rfl) (fun _ _ _ h => h) (by kernel_rfl) ?_
      simp only [Act.put, List.setIfInBounds_toArray, List.set_cons_zero, List.set_cons_succ]
      refine tkn (i := 20) hS rfl (by kernel_rfl) (by kernel_rfl) (by kernel_rfl) (fun _ _ _ h => h) (by kernel_rfl) ?_
      simp only [Act.put, List.setIfInBounds_toArray, List.set_cons_zero, List.set_cons_succ]
      refine tkn (i := 21) hS rfl (by kernel_rfl) (by kernel_rfl) (by kernel_rfl) (fun _ _ _ h => h) (by kernel_rfl) ?_
      simp only [Act.put, List.setIfInBounds_toArray, List.set_cons_zero, List.set_cons_succ]
      refine tkn (i := 22) hS rfl (by kernel_rfl) (by kernel_rfl) (by kernel_rfl) (fun _ _ _ h => h) (by kernel_rfl) ?_
      simp only [Act.put, List.setIfInBounds_toArray, List.set_cons_zero, List.set_cons_succ]
      refine tkn (i := 23) hS rfl (by kernel_rfl) (by kernel_rfl) (by kernel_rfl) (fun _ _ _ h => h) (by kernel_rfl) ?_
      simp only [Act.put, List.setIfInBounds_toArray, List.set_cons_zero, List.set_cons_succ]
      refine tkn (i := 24) hS rfl (by kernel_rfl) (by kernel_rfl) (by kernel_rfl) (fun _ _ _ h => h) (by kernel_rfl) ?_
      simp only [Act.put, List.setIfInBounds_toArray, List.set_cons_zero, List.set_cons_succ]
      refine tk (i := 25) (.bool true) hS rfl (by kernel_rfl) (by kernel_rfl) (by kernel_rfl) (fun _ _ _ h => h) (by kernel_rfl) (by intro _ _; exact rfl) ?_
      simp only [Act.put, List.setIfInBounds_toArray, List.set_cons_zero, List.set_cons_succ]
      refine wpAnyH_done (by kernel_rfl) ?_ _
      go_wp2
      go_ret
      exact ⟨rfl, hS⟩
    case pos =>
    subst hne
    by_cases hpq : pl = ql
    case neg =>
      obtain rfl : V = false := by rw [← hVH2.out]; simp [hpq]
      have hs1 : ((strOfNums pl).toList == (strOfNums ql).toList) = false := by rw [hbq]; simp [hpq]
      clear hbq hVH2 hpq
      go_wp2
      refine wp_region_held_drew (S := fun W => Below w.heap.size w W) (by kernel_rfl) (hBr.trans (below_drew _ _)) (fun hS => ?_)
      refine tk (i := 0) (.slice (some ⟨b1, o1, none⟩) M c1) hS rfl (by kernel_rfl) (by kernel_rfl) (by kernel_rfl) (fun _ _ _ h => h) (by kernel_rfl) (by intro _ _; exact rfl) ?_
      simp only [Act.put, List.setIfInBounds_toArray, List.set_cons_zero, List.set_cons_succ]
      refine tk (i := 1) (.int .i64 (k : Int)) hS rfl (by kernel_rfl) (by kernel_rfl) (by kernel_rfl) (fun _ _ _ h => h) (by kernel_rfl) (by intro _ _; exact rfl) ?_
      simp only [Act.put, List.setIfInBounds_toArray, List.set_cons_zero, List.set_cons_succ]
      refine tk (i := 2) (.pointer (some ⟨b1, o1 + k * 2, none⟩)) hS rfl (by kernel_rfl) (by kernel_rfl) (by kernel_rfl) (fun _ _ _ h => h) (by kernel_rfl) (by intro _ _; exact ex_index2 (by exact rfl) Try.underlying45 (by kernel_rfl) (by exact rfl) (by exact rfl) hkM) ?_
      simp only [Act.put, List.setIfInBounds_toArray, List.set_cons_zero, List.set_cons_succ]
      refine tk (i := 3) (.pointer (some ⟨b1, o1 + k * 2, none⟩)) hS rfl (by kernel_rfl) (by kernel_rfl) (by kernel_rfl) (fun _ _ _ h => h) (by kernel_rfl) (by intro _ _; exact ex_field0 (by exact rfl) Try.underlying64 (by exact rfl) rfl (by kernel_rfl) (by exact rfl)) ?_
      simp only [Act.put, List.setIfInBounds_toArray, List.set_cons_zero, List.set_cons_succ]
      refine tk (i := 4) (.int .u8 pk) hS rfl (by kernel_rfl) (by kernel_rfl) (by kernel_rfl) (fun _ _ _ h => h) (by kernel_rfl) (by intro _ h; exact ex_cell (by exact rfl) Try.underlying5 rfl (by exact rfl) ((h.cell (p := ⟨b1, o1 + k * 2, none⟩) hb1).trans e0)) ?_
      simp only [Act.put, List.setIfInBounds_toArray, List.set_cons_zero, List.set_cons_succ]
      refine tk (i := 5) (.slice (some ⟨b2, o2, none⟩) M c2) hS rfl (by kernel_rfl) (by kernel_rfl) (by kernel_rfl) (fun _ _ _ h => h) (by kernel_rfl) (by intro _ _; exact rfl) ?_
      simp only [Act.put, List.setIfInBounds_toArray, List.set_cons_zero, List.set_cons_succ]
      refine tk (i := 6) (.int .i64 (k : Int)) hS rfl (by kernel_rfl) (by kernel_rfl) (by kernel_rfl) (fun _ _ _ h => h) (by kernel_rfl) (by intro _ _; exact rfl) ?_
      simp only [Act.put, List.setIfInBounds_toArray, List.set_cons_zero, List.set_cons_succ]
      refine tk (i := 7) (.pointer (some ⟨b2, o2 + k * 2, none⟩)) hS rfl (by kernel_rfl) (by kernel_rfl) (by kernel_rfl) (fun _ _ _ h => h) (by kernel_rfl) (by intro _ _; exact ex_index2 (by exact rfl) Try.underlying45 (by kernel_rfl) (by exact rfl) (by exact rfl) hkM) ?_
      simp only [Act.put, List.setIfInBounds_toArray, List.set_cons_zero, List.set_cons_succ]
      refine tk (i := 8) (.pointer (some ⟨b2, o2 + k * 2, none⟩)) hS rfl (by kernel_rfl) (by kernel_rfl) (by kernel_rfl) (fun _ _ _ h => h) (by kernel_rfl) (by intro _ _; exact ex_field0 (by exact rfl) Try.underlying64 (by exact rfl) rfl (by kernel_rfl) (by exact rfl)) ?_
      simp only [Act.put, List.setIfInBounds_toArray, List.set_cons_zero, List.set_cons_succ]
      refine tk (i := 9) (.int .u8 pk) hS rfl (by kernel_rfl) (by kernel_rfl) (by kernel_rfl) (fun _ _ _ h => h) (by kernel_rfl) (by intro _ h; exact ex_cell (by exact rfl) Try.underlying5 rfl (by exact rfl) ((h.cell (p := ⟨b2, o2 + k * 2, none⟩) hb2).trans g0)) ?_
      simp only [Act.put, List.setIfInBounds_toArray, List.set_cons_zero, List.set_cons_succ]
      refine tk (i := 10) (.bool false) hS rfl (by kernel_rfl) (by kernel_rfl) (by kernel_rfl) (fun _ _ _ h => h) (by kernel_rfl) (by intro _ _; exact neq_int_eq (by exact rfl) (by exact rfl) (by exact rfl) rfl) ?_
      simp only [Act.put, List.setIfInBounds_toArray, List.set_cons_zero, List.set_cons_succ]
      refine tk (i := 11) (.bool false) hS rfl (by kernel_rfl) (by kernel_rfl) (by kernel_rfl) (fun _ _ _ h => h) (by kernel_rfl) (by intro _ _; exact rfl) ?_
      simp only [Act.put, List.setIfInBounds_toArray, List.set_cons_zero, List.set_cons_succ]
      refine tk (i := 12) (.slice (some ⟨b1, o1, none⟩) M c1) hS rfl (by kernel_rfl) (by kernel_rfl) (by kernel_rfl) (fun _ _ _ h => h) (by kernel_rfl) (by intro _ _; exact rfl) ?_
      simp only [Act.put, List.setIfInBounds_toArray, List.set_cons_zero, List.set_cons_succ]
      refine tk (i := 13) (.int .i64 (k : Int)) hS rfl (by kernel_rfl) (by kernel_rfl) (by kernel_rfl) (fun _ _ _ h => h) (by kernel_rfl) (by intro _ _; exact rfl) ?_
      simp only [Act.put, List.setIfInBounds_toArray, List.set_cons_zero, List.set_cons_succ]
      refine tk (i := 14) (.pointer (some ⟨b1, o1 + k * 2, none⟩)) hS rfl (by kernel_rfl) (by kernel_rfl) (by kernel_rfl) (fun _ _ _ h => h) (by kernel_rfl) (by intro _ _; exact ex_index2 (by exact rfl) Try.underlying45 (by kernel_rfl) (by exact rfl) (by exact rfl) hkM) ?_
      simp only [Act.put, List.setIfInBounds_toArray, List.set_cons_zero, List.set_cons_succ]
      refine tk (i := 15) (.pointer (some ⟨b1, o1 + k * 2 + 1, none⟩)) hS rfl (by kernel_rfl) (by kernel_rfl) (by kernel_rfl) (fun _ _ _ h => h) (by kernel_rfl) (by intro _ _; exact ex_field1 (by exact rfl) Try.underlying64 (by exact rfl) rfl (by kernel_rfl) (by exact rfl)) ?_
      simp only [Act.put, List.setIfInBounds_toArray, List.set_cons_zero, List.set_cons_succ]
      refine tk (i := 16) (.slice pA pn pc) hS rfl (by kernel_rfl) (by kernel_rfl) (by kernel_rfl) (fun _ _ _ h => h) (by kernel_rfl) (by intro _ h; exact ex_cell (by exact rfl) Try.underlying25 rfl (by exact rfl) ((h.cell (p := ⟨b1, o1 + k * 2 + 1, none⟩) hb1).trans e1)) ?_
      simp only [Act.put, List.setIfInBounds_toArray, List.set_cons_zero, List.set_cons_succ]
      refine tk (i := 17) (.string (strOfNums pl)) hS rfl (by kernel_rfl) (by kernel_rfl) (by kernel_rfl) (fun _ _ _ h => h) (by kernel_rfl) (by intro _ h; exact ex_conv (by exact rfl) (by exact rfl) ((yP.below h (Nat.le_refl _)).conv _ _ Try.underlying25 Try.underlying5 Try.underlying9)) ?_
      simp only [Act.put, List.setIfInBounds_toArray, List.set_cons_zero, List.set_cons_succ]
      refine tk (i := 18) (.slice (some ⟨b2, o2, none⟩) M c2) hS rfl (by kernel_rfl) (by kernel_rfl) (by kernel_rfl) (fun _ _ _ h => h) (by kernel_rfl) (by intro _ _; exact rfl) ?_
      simp only [Act.put, List.setIfInBounds_toArray, List.set_cons_zero, List.set_cons_succ]
      refine tk (i := 19) (.int .i64 (k : Int)) hS rfl (by kernel_rfl) (by kernel_rfl) (by kernel_rfl) (fun _ _ _ h => h) (by kernel_rfl) (by intro _ _; exact rfl) ?_
      simp only [Act.put, List.setIfInBounds_toArray, List.set_cons_zero, List.set_cons_succ]
      refine tk (i := 20) (.pointer (some ⟨b2, o2 + k * 2, none⟩)) hS rfl (by kernel_rfl) (by kernel_rfl) (by kernel_rfl) (fun _ _ _ h => h) (by kernel_rfl) (by intro _ _; exact ex_index2 (by exact rfl) Try.underlying45 (by kernel_rfl) (by exact rfl) (by exact rfl) hkM) ?_
      simp only [Act.put, List.setIfInBounds_toArray, List.set_cons_zero, List.set_cons_succ]
      refine tk (i := 21) (.pointer (some ⟨b2, o2 + k * 2 + 1, none⟩)) hS rfl (by kernel_rfl) (by kernel_rfl) (by kernel_rfl) (fun _ _ _ h => h) (by kernel_rfl) (by intro _ _; exact ex_field1 (by exact rfl) Try.underlying64 (by exact rfl) rfl (by kernel_rfl) (by exact rfl)) ?_
      simp only [Act.put, List.setIfInBounds_toArray, List.set_cons_zero, List.set_cons_succ]
      refine tk (i := 22) (.slice qA qn qc) hS rfl (by kernel_rfl) (by kernel_rfl) (by kernel_rfl) (fun _ _ _ h => h) (by kernel_rfl) (by intro _ h; exact ex_cell (by exact rfl) Try.underlying25 rfl (by exact rfl) ((h.cell (p := ⟨b2, o2 + k * 2 + 1, none⟩) hb2).trans g1)) ?_
      simp only [Act.put, List.setIfInBounds_toArray, List.set_cons_zero, List.set_cons_succ]
      refine tk (i := 23) (.string (strOfNums ql)) hS rfl (by kernel_rfl) (by kernel_rfl) (by kernel_rfl) (fun _ _ _ h => h) (by kernel_rfl) (by intro _ h; exact ex_conv (by exact rfl) (by exact rfl) ((yQ.below h (Nat.le_refl _)).conv _ _ Try.underlying25 Try.underlying5 Try.underlying9)) ?_
      simp only [Act.put, List.setIfInBounds_toArray, List.set_cons_zero, List.set_cons_succ]
      refine tk (i := 24) (.bool true) hS rfl (by kernel_rfl) (by kernel_rfl) (by kernel_rfl) (fun _ _ _ h => h) (by kernel_rfl) (by intro _ _; exact neq_str_t (by exact rfl) (by exact rfl) (by exact rfl) hs1) ?_
      simp only [Act.put, List.setIfInBounds_toArray, List.set_cons_zero, List.set_cons_succ]
      refine tk (i := 25) (.bool true) hS rfl (by kernel_rfl) (by kernel_rfl) (by kernel_rfl) (fun _ _ _ h => h) (by kernel_rfl) (by intro _ _; exact rfl) ?_
      simp only [Act.put, List.setIfInBounds_toArray, List.set_cons_zero, List.set_cons_succ]
      refine wpAnyH_done (by kernel_rfl) ?_ _
      go_wp2
      go_ret
      exact ⟨rfl, hS⟩
    case pos =>
      have hVn : Hid (decide (kdL (ps.drop (k + 1)) = kdL (qs.drop (k + 1))) = V) := Lib.hid (by rw [← hVH2.out]; simp [hpq])
      have hs1 : ((strOfNums pl).toList == (strOfNums ql).toList) = true := by rw [hbq]; simp [hpq]
      clear hbq hVH2 hpq
      go_wp2
      refine wp_region_held_drew (S := fun W => Below w.heap.size w W) (by kernel_rfl) (hBr.trans (below_drew _ _)) (fun hS => ?_)
      refine tk (i := 0) (.slice (some ⟨b1, o1, none⟩) M c1) hS rfl (by kernel_rfl) (by kernel_rfl) (by kernel_rfl) (fun _ _ _ h => h) (by kernel_rfl) (by intro _ _; exact rfl) ?_
      simp only [Act.put, List.setIfInBounds_toArray, List.set_cons_zero, List.set_cons_succ]
      refine tk (i := 1) (.int .i64 (k : Int)) hS rfl (by kernel_rfl) (by kernel_rfl) (by kernel_rfl) (fun _ _ _ h => h) (by kernel_rfl) (by intro _ _; exact rfl) ?_
      simp only [Act.put, List.setIfInBounds_toArray, List.set_cons_zero, List.set_cons_succ]
      refine tk (i := 2) (.pointer (some ⟨b1, o1 + k * 2, none⟩)) hS rfl (by kernel_rfl) (by kernel_rfl) (by kernel_rfl) (fun _ _ _ h => h) (by kernel_rfl) (by intro _ _; exact ex_index2 (by exact rfl) Try.underlying45 (by kernel_rfl) (by exact rfl) (by exact rfl) hkM) ?_
      simp only [Act.put, List.setIfInBounds_toArray, List.set_cons_zero, List.set_cons_succ]
      refine tk (i := 3) (.pointer (some ⟨b1, o1 + k * 2, none⟩)) hS rfl (by kernel_rfl) (by kernel_rfl) (by kernel_rfl) (fun _ _ _ h => h) (by kernel_rfl) (by intro _ _; exact ex_field0 (by exact rfl) Try.underlying64 (by exact rfl) rfl (by kernel_rfl) (by exact rfl)) ?_
      simp only [Act.put, List.setIfInBounds_toArray, List.set_cons_zero, List.set_cons_succ]
      refine tk (i := 4) (.int .u8 pk) hS rfl (by kernel_rfl) (by kernel_rfl) (by kernel_rfl) (fun _ _ _ h => h) (by kernel_rfl) (by intro _ h; exact ex_cell (by exact rfl) Try.underlying5 rfl (by exact rfl) ((h.cell (p := ⟨b1, o1 + k * 2, none⟩) hb1).trans e0)) ?_
      simp only [Act.put, List.setIfInBounds_toArray, List.set_cons_zero, List.set_cons_succ]
      refine tk (i := 5) (.slice (some ⟨b2, o2, none⟩) M c2) hS rfl (by kernel_rfl) (by kernel_rfl) (by kernel_rfl) (fun _ _ _ h => h) (by kernel_rfl) (by intro _ _; exact rfl) ?_
      simp only [Act.put, List.setIfInBounds_toArray, List.set_cons_zero, List.set_cons_succ]
      refine tk (i := 6) (.int .i64 (k : Int)) hS rfl (by kernel_rfl) (by kernel_rfl) (by kernel_rfl) (fun _ _ _ h => h) (by kernel_rfl) (by intro _ _; exact rfl) ?_
      simp only [Act.put, List.setIfInBounds_toArray, List.set_cons_zero, List.set_cons_succ]
      refine tk (i := 7) (.pointer (some ⟨b2, o2 + k * 2, none⟩)) hS rfl (by kernel_rfl) (by kernel_rfl) (by kernel_rfl) (fun _ _ _ h => h) (by kernel_rfl) (by intro _ _; exact ex_index2 (by exact rfl) Try.underlying45 (by kernel_rfl) (by exact rfl) (by exact rfl) hkM) ?_
      simp only [Act.put, List.setIfInBounds_toArray, List.set_cons_zero, List.set_cons_succ]
      refine tk (i := 8) (.pointer (some ⟨b2, o2 + k * 2, none⟩)) hS rfl (by kernel_rfl) (by kernel_rfl) (by kernel_rfl) (fun _ _ _ h => h) (by kernel_rfl) (by intro _ _; exact ex_field0 (by exact rfl) Try.underlying64 (by exact rfl) rfl (by kernel_rfl) (by exact rfl)) ?_
      simp only [Act.put, List.setIfInBounds_toArray, List.set_cons_zero, List.set_cons_succ]
      refine tk (i := 9) (.int .u8 pk) hS rfl (by kernel_rfl) (by kernel_rfl) (by kernel_rfl) (fun _ _ _ h => h) (by kernel_rfl) (by intro _ h; exact ex_cell (by exact rfl) Try.underlying5 rfl (by exact rfl) ((h.cell (p := ⟨b2, o2 + k * 2, none⟩) hb2).trans g0)) ?_
      simp only [Act.put, List.setIfInBounds_toArray, List.set_cons_zero, List.set_cons_succ]
      refine tk (i := 10) (.bool false) hS rfl (by kernel_rfl) (by kernel_rfl) (by kernel_rfl) (fun _ _ _ h => h) (by kernel_rfl) (by intro _ _; exact neq_int_eq (by exact rfl) (by exact rfl) (by exact rfl) rfl) ?_
      simp only [Act.put, List.setIfInBounds_toArray, List.set_cons_zero, List.set_cons_succ]
      refine tk (i := 11) (.bool false) hS rfl (by kernel_rfl) (by kernel_rfl) (by kernel_rfl) (fun _ _ _ h => h) (by kernel_rfl) (by intro _ _; exact rfl) ?_
      simp only [Act.put, List.setIfInBounds_toArray, List.set_cons_zero, List.set_cons_succ]
      refine tk (i := 12) (.slice (some ⟨b1, o1, none⟩) M c1) hS rfl (by kernel_rfl) (by kernel_rfl) (by kernel_rfl) (fun _ _ _ h => h) (by kernel_rfl) (by intro _ _; exact rfl) ?_
      simp only [Act.put, List.setIfInBounds_toArray, List.set_cons_zero, List.set_cons_succ]
      refine tk (i := 13) (.int .i64 (k : Int)) hS rfl (by kernel_rfl) (by kernel_rfl) (by kernel_rfl) (fun _ _ _ h => h) (by kernel_rfl) (by intro _ _; exact rfl) ?_
      simp only [Act.put, List.setIfInBounds_toArray, List.set_cons_zero, List.set_cons_succ]
      refine tk (i := 14) (.pointer (some ⟨b1, o1 + k * 2, none⟩)) hS rfl (by kernel_rfl) (by kernel_rfl) (by kernel_rfl) (fun _ _ _ h => h) (by kernel_rfl) (by intro _ _; exact ex_index2 (by exact rfl) Try.underlying45 (by kernel_rfl) (by exact rfl) (by exact rfl) hkM) ?_
      simp only [Act.put, List.setIfInBounds_toArray, List.set_cons_zero, List.set_cons_succ]
      refine tk (i := 15) (.pointer (some ⟨b1, o1 + k * 2 + 1, none⟩)) hS rfl (by kernel_rfl) (by kernel_rfl) (by kernel_rfl) (fun _ _ _ h => h) (by kernel_rfl) (by intro _ _; exact ex_field1 (by exact rfl) Try.underlying64 (by exact rfl) rfl (by kernel_rfl) (by exact rfl)) ?_
      simp only [Act.put, List.setIfInBounds_toArray, List.set_cons_zero, List.set_cons_succ]
      refine tk (i := 16) (.slice pA pn pc) hS rfl (by kernel_rfl) (by kernel_rfl) (by kernel_rfl) (fun _ _ _ h => h) (by kernel_rfl) (by intro _ h; exact ex_cell (by exact rfl) Try.underlying25 rfl (by exact rfl) ((h.cell (p := ⟨b1, o1 + k * 2 + 1, none⟩) hb1).trans e1)) ?_
      simp only [Act.put, List.setIfInBounds_toArray, List.set_cons_zero, List.set_cons_succ]
      refine tk (i := 17) (.string (strOfNums pl)) hS rfl (by kernel_rfl) (by kernel_rfl) (by kernel_rfl) (fun _ _ _ h => h) (by kernel_rfl) (by intro _ h; exact ex_conv (by exact rfl) (by exact rfl) ((yP.below h (Nat.le_refl _)).conv _ _ Try.underlying25 Try.underlying5 Try.underlying9)) ?_
      simp only [Act.put, List.setIfInBounds_toArray, List.set_cons_zero, List.set_cons_succ]
      refine tk (i := 18) (.slice (some ⟨b2, o2, none⟩) M c2) hS rfl (by kernel_rfl) (by kernel_rfl) (by kernel_rfl) (fun _ _ _ h => h) (by kernel_rfl) (by intro _ _; exact rfl) ?_
      simp only [Act.put, List.setIfInBounds_toArray, List.set_cons_zero, List.set_cons_succ]
      refine tk (i := 19) (.int .i64 (k : Int)) hS rfl (by kernel_rfl) (by kernel_rfl) (by kernel_rfl) (fun _ _ _ h => h) (by kernel_rfl) (by intro _ _; exact rfl) ?_
      simp only [Act.put, List.setIfInBounds_toArray, List.set_cons_zero, List.set_cons_succ]
      refine tk (i := 20) (.pointer (some ⟨b2, o2 + k * 2, none⟩)) hS rfl (by kernel_rfl) (by kernel_rfl) (by kernel_rfl) (fun _ _ _ h => h) (by kernel_rfl) (by intro _ _; exact ex_index2 (by exact rfl) Try.underlying45 (by kernel_rfl) (by exact rfl) (by exact rfl) hkM) ?_
      simp only [Act.put, List.setIfInBounds_toArray, List.set_cons_zero, List.set_cons_succ]
      refine tk (i := 21) (.pointer (some ⟨b2, o2 + k * 2 + 1, none⟩)) hS rfl (by kernel_rfl) (by kernel_rfl) (by kernel_rfl) (fun _ _ _ h => h) (by kernel_rfl) (by intro _ _; exact ex_field1 (by exact rfl) Try.underlying64 (by exact rfl) rfl (by kernel_rfl) (by exact rfl)) ?_
      simp only [Act.put, List.setIfInBounds_toArray, List.set_cons_zero, List.set_cons_succ]
      refine tk (i := 22) (.slice qA qn qc) hS rfl (by kernel_rfl) (by kernel_rfl) (by kernel_rfl) (fun _ _ _ h => h) (by kernel_rfl) (by intro _ h; exact ex_cell (by exact rfl) Try.underlying25 rfl (by exact rfl) ((h.cell (p := ⟨b2, o2 + k * 2 + 1, none⟩) hb2).trans g1)) ?_
      simp only [Act.put, List.setIfInBounds_toArray, List.set_cons_zero, List.set_cons_succ]
      refine tk (i := 23) (.string (strOfNums ql)) hS rfl (by kernel_rfl) (by kernel_rfl) (by kernel_rfl) (fun _ _ _ h => h) (by kernel_rfl) (by intro _ h; exact ex_conv (by exact rfl) (by exact rfl) ((yQ.below h (Nat.le_refl _)).conv _ _ Try.underlying25 Try.underlying5 Try.underlying9)) ?_
      simp only [Act.put, List.setIfInBounds_toArray, List.set_cons_zero, List.set_cons_succ]
      refine tk (i := 24) (.bool false) hS rfl (by kernel_rfl) (by kernel_rfl) (by kernel_rfl) (fun _ _ _ h => h) (by kernel_rfl) (by intro _ _; exact neq_str_f (by exact rfl) (by exact rfl) (by exact rfl) hs1) ?_
      simp only [Act.put, List.setIfInBounds_toArray, List.set_cons_zero, List.set_cons_succ]
      refine tk (i := 25) (.bool false) hS rfl (by kernel_rfl) (by kernel_rfl) (by kernel_rfl) (fun _ _ _ h => h) (by kernel_rfl) (by intro _ _; exact rfl) ?_
      simp only [Act.put, List.setIfInBounds_toArray, List.set_cons_zero, List.set_cons_succ]
      refine wpAnyH_done (by kernel_rfl) ?_ _
      go_wp2
      go_roundw
      case rel => exact ⟨k + 1, by omega, by go_num, hVn, hS⟩
      case measure => simp [intOf]; omega
end Go.Proofs.Ytfkcejfjmfliaaa
end

section
/-
  Packing options, step by step, in plain numbers.
-/
namespace Go.Proofs.Ytfkcejfjmfliaaa
open Go.RowKit

/-- the bytes of the first k -/
def pkT (ps : List Kd) (k : Nat) : List Int := pkAll (kdL (ps.take k))
theorem pkT_step {ps : List Kd} {k : Nat} {p : Kd} (h : ps[k]? = some p) : pkT ps (k + 1) = pkT ps k ++ (p.1 :: (2 + p.2.2.2.length : Int) :: p.2.2.2) := by
  rw [pkT, kdL_take h, pkAll_append, pkAll_one]; rfl
theorem pkT_all {ps : List Kd} {M : Nat} (h : ps.length = M) : pkT ps M = pkAll (kdL ps) := by rw [pkT, List.take_of_length_le (by omega)]
theorem pkBad_take {ps : List Kd} {k : Nat} {p : Kd} (h : ps[k]? = some p) (hk : (kdL (ps.take k)).any pkBadOne = false) : (kdL (ps.take (k + 1))).any pkBadOne = pkBadOne (p.1, p.2.2.2) := by
  rw [kdL_take h, List.any_append, hk]
  simp
theorem pkErr_bad {ps : List Kd} {k : Nat} {p : Kd} (h : ps[k]? = some p) (hb : pkBadOne (p.1, p.2.2.2) = true) : pkErr (kdL ps) = 47 := by
  unfold pkErr
  rw [if_pos]
  rw [List.any_eq_true]
  exact ⟨(p.1, p.2.2.2), List.mem_map.2 ⟨p, List.mem_of_getElem? h, rfl⟩, hb⟩
theorem pkErr_good {ps : List Kd} {M : Nat} (h : ps.length = M) (hk : (kdL (ps.take M)).any pkBadOne = false) : pkErr (kdL ps) = if 40 < (pkT ps M).length then 2 else 0 := by
  rw [List.take_of_length_le (by omega)] at hk
  rw [pkT_all h, pkErr, if_neg (by rw [hk]; simp)]
theorem pad_step (l : List Int) (j : Nat) : l ++ List.replicate j 0 ++ [0] = l ++ List.replicate (j + 1) (0 : Int) := by rw [List.append_assoc, ← List.replicate_succ']
theorem pad_done {l : List Int} {j : Nat} (hj : j ≤ (4 - l.length % 4) % 4) (h : (l.length + j) % 4 = 0) : l ++ List.replicate j 0 = pad4 l := by
  have : j = (4 - l.length % 4) % 4 := by omega
  rw [pad4, this]
theorem pkT_len_mono (ps : List Kd) (k : Nat) : (pkT ps k).length ≤ (pkAll (kdL ps)).length := by
  have h := congrArg (fun q => (pkAll (kdL q)).length) (List.take_append_drop k ps)
  simp only [kdL_append, pkAll_append, List.length_append] at h
  unfold pkT
  omega
end Go.Proofs.Ytfkcejfjmfliaaa
end

section
/-
  The walk of ipv4.Pack.
-/
namespace Go.Proofs.Ytfkcejfjmfliaaa
open Go.RowKit Go.Shelf

theorem Has.grownN {w w' : World} {g : Nat} {o : Obj} {row : Option Nat} (h : Has w g o) (hg : w.grownBy w' row) (hne : row ≠ some g) : Has w' g o := (hg.block g h.lt (fun e => hne e.symm)).trans h
def lenV : Value → Nat
  | .slice _ n _ => n
  | _ => 0
def ToldPk (os : List (Int × List Int)) (w : World) (e : Ending) (w' : World) : Prop := ∃ v, e = .returned (.tuple #[v, .int .i64 (pkErr os)]) ∧ OwnB w' w.heap.size v (pkBytes os) ∧ Below w.heap.size w w'

set_option maxRecDepth 100000 in
set_option maxHeartbeats 4000000 in
theorem pack_any (A : Option Addr) (M c : Nat) (ps : List Kd) (w : World) (K : Kds w.heap.size w A M c ps) :
    Calls Try.prog 28 #[.slice A M c] w fun e w' => ToldPk (kdL ps) w e w' := by
  have hM := K.len
  have hMc := Nat.le_trans K.cap K.big
  obtain ⟨E, hE⟩ : ∃ E, pkErr (kdL ps) = E := ⟨_, rfl⟩
  obtain ⟨R, hR⟩ : ∃ R, pkBytes (kdL ps) = R := ⟨_, rfl⟩
  unfold ToldPk
  rw [hE, hR]
  have hEH := Lib.hid hE
  have hRH : Hid ((if E = 0 then pad4 (pkAll (kdL ps)) else []) = R) := Lib.hid (by rw [← hR, pkBytes, hE])
  have hMH := Lib.hid hM
  have h00 : Hid ((kdL (ps.take 0)).any pkBadOne = false) := Lib.hid rfl
  have hT0 : pkT ps 0 = [] := rfl
  have hT0H := Lib.hid hT0
  clear hE hR hM hT0
  go_enter Try.func28, Try.ntmps28
  go_wp2
  go_loopw [4, 5, 10] (fun bv lv i wr => ∃ k : Nat, k ≤ M ∧ i = .int .i64 k ∧ Hid ((kdL (ps.take k)).any pkBadOne = false) ∧ lv = .bool (decide (40 < (pkT ps k).length)) ∧ ((pkT ps k).length ≤ 40 → OwnB wr w.heap.size bv (pkT ps k)) ∧ Below w.heap.size w wr) (fun _ _ i _ => M - (intOf i).toNat)
  case atStart => exact ⟨0, Nat.zero_le _, rfl, h00, by rw [hT0H.out]; rfl, fun _ => by rw [hT0H.out]; exact OwnB.nil _ _, Below.refl _ _⟩
  case round =>
    obtain ⟨k, hk, rfl, hbad, rfl, hO, hBr⟩ := hrel
    rename_i wr _
    by_cases hkM : k < M
    case neg =>
      obtain rfl : k = M := by omega
      have hge : ¬ ((k : Int) < (k : Int)) := by omega
      have hEg := pkErr_good hMH.out hbad.out
      rw [hEH.out] at hEg
      have hTa := pkT_all hMH.out
      by_cases hlong : 40 < (pkT ps k).length
      case pos =>
        rw [if_pos hlong] at hEg
        subst hEg
        obtain rfl : R = [] := by rw [← hRH.out]; rfl
        rw [decide_eq_true hlong]
        clear hTa hbad hO K hlong
        go_wp2
        go_ret2
        exact ⟨_, rfl, OwnB.nil _ _, hBr⟩
      case neg =>
        rw [if_neg hlong] at hEg
        subst hEg
        have hRp : Hid (pad4 (pkT ps k) = R) := Lib.hid (by rw [← hRH.out, if_pos rfl, hTa])
        have hO1 := hO (by omega)
        rw [decide_eq_false hlong]
        obtain ⟨T, hT⟩ : ∃ T, pkT ps k = T := ⟨_, rfl⟩
        rw [hT] at hRp hO1 hlong
        have hO0 : OwnB wr w.heap.size u4 (T ++ List.replicate 0 0) := by rw [List.replicate_zero, List.append_nil]; exact hO1
        clear hTa hbad hO K hT hRH hO1
        go_wp2
        go_loopw [4] (fun bv wq => ∃ (W : World) (j : Nat), W = wq ∧ j ≤ (4 - T.length % 4) % 4 ∧ OwnB wq w.heap.size bv (T ++ List.replicate j 0) ∧ Below w.heap.size w wq ∧ (j = 0 ∨ 0 < (4 - T.length % 4) % 4)) (fun bv _ => 3 + T.length - lenV bv)
        case atStart => exact ⟨_, 0, rfl, Nat.zero_le _, hO0, hBr, .inl rfl⟩
        case round =>
          obtain ⟨wq, j, hwq, hj, hOj, hBj, _⟩ := hrel
          subst hwq
          obtain ⟨A6, c6, rfl, y6⟩ := hOj.by_
          obtain ⟨tn, htn⟩ : ∃ n, T.length = n := ⟨_, rfl⟩
          have hlj : (T ++ List.replicate j 0).length = tn + j := by rw [List.length_append, List.length_replicate, htn]
          have hlong' : tn ≤ 40 := by omega
          rw [htn] at hj
          have hdone := fun h => pad_done (l := T) (j := j) (by rw [htn]; exact hj) h
          rw [htn] at hdone
          rw [hlj] at hOj y6 ⊢
          have hcap := Nat.le_trans y6.cap y6.big
          have htnH := Lib.hid htn
          have hdoneH := Lib.hid hdone
          have hljH := Lib.hid hlj
          clear hlj y6 hlong htn hdone
          by_cases hz : (tn + j) % 4 = 0
          case pos =>
            have hzi : ((tn + j : Nat) : Int) % 4 = 0 := by omega
            go_wp2
            go_ret2
            exact ⟨_, rfl, by rw [← hRp.out, ← hdoneH.out hz]; exact hOj, hBj⟩
          case neg =>
            have hzi : ¬ ((tn + j : Nat) : Int) % 4 = 0 := by omega
            have hO5 := hOj.alloc (.cells #[.int .u8 0] 5)
            have yz := By.new wq 5 [0] (fun v hv => by rw [List.mem_singleton] at hv; omega) (by decide)
            have hBz : Below w.heap.size w (wq.alloc (.cells #[.int .u8 0] 5)) := hBj.trans (((Below.refl wq.heap.size wq).alloc (Nat.le_refl _) _).mono hBj.size)
            go_wp2_with (at_builtin; refine wpList_appB _ rfl _ _ 25 rfl Try.underlying25 info8 w.heap.size _ _ rfl hO5 (wq.heap.size + 1) _ 1 1 [0] rfl yz (by rw [hljH.out]; omega) hBz.size ?_; intro v7 w7 o7 hg7 _; have hb7 := below_own hO5.own hg7 hBz.size)
            rw [pad_step] at o7
            obtain ⟨A7, c7, rfl, _⟩ := o7.by_
            have hl7 : (T ++ List.replicate (j + 1) 0).length = tn + (j + 1) := by rw [List.length_append, List.length_replicate, htnH.out]
            go_roundw
            case rel => exact ⟨_, j + 1, rfl, by rw [htnH.out]; omega, o7, hBz.trans hb7, .inr (by rw [htnH.out]; omega)⟩
            case measure => simp only [lenV]; rw [hl7, htnH.out]; omega
    case pos =>
    have hkz : (k : Int) < (M : Int) := by omega
    obtain ⟨⟨pk, pA, pc, pl⟩, hp⟩ : ∃ p, ps[k]? = some p := ⟨ps[k]'(by rw [hMH.out]; exact hkM), List.getElem?_eq_getElem _⟩
    obtain ⟨b1, off1, hA1, hb1, e0, e1, hr1, hr2, yP⟩ := K.at_ k _ hp
    subst hA1
    have hstep := pkT_step hp
    have hbt := pkBad_take hp hbad.out
    have hbe := pkErr_bad hp
    dsimp only at e0 e1 yP hr1 hr2 hstep hbt hbe
    unfold kdV at e1
    dsimp only at e1
    obtain ⟨m, hm⟩ : ∃ m, pl.length = m := ⟨_, rfl⟩
    have hbo : pkBadOne (pk, pl) = decide (pk < 2 ∨ 38 < m) := by rw [← hm]; rfl
    rw [hbo] at hbt hbe
    have hin := yP.rng
    rw [hm] at e1 yP hstep
    have hlenT : (pkT ps (k + 1)).length = (pkT ps k).length + 2 + m := by rw [hstep, List.length_append, List.length_cons, List.length_cons, hm]; omega
    have hstep := Lib.hid hstep
    have hbt := Lib.hid hbt
    have hbe := Lib.hid hbe
    clear hp hm hbo
    have hld : ∀ W, Below w.heap.size w W → (loadVar 64 ⟨b1, off1 + k * 2, none⟩).run Try.prog W = .ok (.agg #[.int .u8 pk, .slice pA m pc]) W := fun W h =>
      run_loadVar_mid (P := Try.prog) W b1 (off1 + k * 2) 64 [.int .u8 pk, .slice pA m pc] _ (fun j v hj => by
        match j, hj with
        | 0, hj => injection hj with hj; subst hj; exact (h.cell (p := ⟨b1, off1 + k * 2, none⟩) hb1).trans e0
        | 1, hj => injection hj with hj; subst hj; exact (h.cell (p := ⟨b1, off1 + k * 2 + 1, none⟩) hb1).trans e1) Try.underlying64 rfl (by kernel_rfl)
    have hld := hld _ hBr
    have hN : Has (wr.alloc (.cells #[.int .u8 0, .slice none 0 0] 64)) wr.heap.size (.cells #[.int .u8 0, .slice none 0 0] 64 (0, 0)) := Has.newAt rfl
    have hH := hN.setRow_same (cs' := #[.int .u8 pk, .slice pA m pc])
    have hX : Below wr.heap.size wr ((wr.alloc (.cells #[.int .u8 0, .slice none 0 0] 64)).setRow wr.heap.size #[.int .u8 pk, .slice pA m pc]) := ((Below.refl wr.heap.size wr).alloc (Nat.le_refl _) (.cells #[.int .u8 0, .slice none 0 0] 64)).trans below_setRow'
    obtain ⟨W4, hW4⟩ : ∃ W, (wr.alloc (.cells #[.int .u8 0, .slice none 0 0] 64)).setRow wr.heap.size #[.int .u8 pk, .slice pA m pc] = W := ⟨_, rfl⟩
    rw [hW4] at hX hH
    have c0 := hH.cell 0 (v := .int .u8 pk) rfl
    have c1 := hH.cell 1 (v := .slice pA m pc) rfl
    have hB4 := hBr.trans (hX.mono hBr.size)
    by_cases hb1' : pk < 2
    case pos =>
      obtain rfl : E = 47 := by rw [← hEH.out]; exact hbe.out (by simp [hb1'])
      obtain rfl : R = [] := by rw [← hRH.out]; rfl
      clear hO hbad hlenT
      go_wp2_with (first | (refine wl (.pointer (some ⟨b1, off1 + k * 2, none⟩)) (by kernel_rfl) (by exact ex_index2 (by exact rfl) Try.underlying45 (by kernel_rfl) (by exact rfl) (by exact rfl) hkM) ?_) | (refine wl (.agg #[.int .u8 pk, .slice pA m pc]) (by kernel_rfl) (by exact ex_loadAt (by exact rfl) (by exact rfl) hld) ?_) | (refine wpList_store_row rfl 64 (.tmp 7) (.tmp 13) rfl wr.heap.size _ rfl rfl 64 _ hN opt_info rfl (by simp [Value.oneCell']) ?_))
      go_ret2
      exact ⟨_, rfl, OwnB.nil _ _, hB4⟩
    case neg =>
    by_cases hb2' : 38 < m
    case pos =>
      obtain rfl : E = 47 := by rw [← hEH.out]; exact hbe.out (by simp [hb2'])
      obtain rfl : R = [] := by rw [← hRH.out]; rfl
      have hb3' : (38 : Int) < (m : Int) := by omega
      clear hO hbad hlenT
      go_wp2_with (first | (refine wl (.pointer (some ⟨b1, off1 + k * 2, none⟩)) (by kernel_rfl) (by exact ex_index2 (by exact rfl) Try.underlying45 (by kernel_rfl) (by exact rfl) (by exact rfl) hkM) ?_) | (refine wl (.agg #[.int .u8 pk, .slice pA m pc]) (by kernel_rfl) (by exact ex_loadAt (by exact rfl) (by exact rfl) hld) ?_) | (refine wpList_store_row rfl 64 (.tmp 7) (.tmp 13) rfl wr.heap.size _ rfl rfl 64 _ hN opt_info rfl (by simp [Value.oneCell']) ?_))
      go_ret2
      exact ⟨_, rfl, OwnB.nil _ _, hB4⟩
    case neg =>
    have hgood : Hid ((kdL (ps.take (k + 1))).any pkBadOne = false) := Lib.hid (by rw [hbt.out, decide_eq_false_iff_not]; omega)
    have hb3' : ¬ ((38 : Int) < (m : Int)) := by omega
    obtain ⟨T, hT⟩ : ∃ T, pkT ps k = T := ⟨_, rfl⟩
    rw [hT] at hO hlenT hstep ⊢
    obtain ⟨T2, hT2⟩ : ∃ T2, pkT ps (k + 1) = T2 := ⟨_, rfl⟩
    rw [hT2] at hlenT hstep
    have hT2H := Lib.hid hT2
    clear hT hT2 hbad hbt hbe
    by_cases hlong : 40 < T.length
    case pos =>
      rw [decide_eq_true hlong]
      have hnl : Hid (decide (40 < T2.length) = true) := Lib.hid (decide_eq_true (by omega))
      have hno : ¬ T2.length ≤ 40 := by omega
      clear hO hlong hlenT
      go_wp2_with (first | (refine wl (.pointer (some ⟨b1, off1 + k * 2, none⟩)) (by kernel_rfl) (by exact ex_index2 (by exact rfl) Try.underlying45 (by kernel_rfl) (by exact rfl) (by exact rfl) hkM) ?_) | (refine wl (.agg #[.int .u8 pk, .slice pA m pc]) (by kernel_rfl) (by exact ex_loadAt (by exact rfl) (by exact rfl) hld) ?_) | (refine wpList_store_row rfl 64 (.tmp 7) (.tmp 13) rfl wr.heap.size _ rfl rfl 64 _ hN opt_info rfl (by simp [Value.oneCell']) ?_))
      go_roundw
      case rel => exact ⟨k + 1, by omega, by go_num, hgood, by rw [hT2H.out, hnl.out], fun h => by rw [hT2H.out] at h; exact absurd h hno, hB4⟩
      case measure => simp [intOf]; omega
    case neg =>
      rw [decide_eq_false hlong]
      have hO1 := hO (by omega)
      obtain ⟨A5, c5, rfl, y5⟩ := hO1.by_
      obtain ⟨tn, htn⟩ : ∃ n, T.length = n := ⟨_, rfl⟩
      have hcap := Nat.le_trans y5.cap y5.big
      rw [htn] at hO hO1 hlong hlenT hcap ⊢
      clear y5 hO
      by_cases hover : 40 < tn + 2 + m
      case pos =>
        have hnl : Hid (decide (40 < T2.length) = true) := Lib.hid (decide_eq_true (by omega))
        have hno : ¬ T2.length ≤ 40 := by omega
        have hoi : (40 : Int) < (tn : Int) + 2 + (m : Int) := by omega
        clear hlenT hO1 htn
        go_wp2_with (first | (refine wl (.pointer (some ⟨b1, off1 + k * 2, none⟩)) (by kernel_rfl) (by exact ex_index2 (by exact rfl) Try.underlying45 (by kernel_rfl) (by exact rfl) (by exact rfl) hkM) ?_) | (refine wl (.agg #[.int .u8 pk, .slice pA m pc]) (by kernel_rfl) (by exact ex_loadAt (by exact rfl) (by exact rfl) hld) ?_) | (refine wpList_store_row rfl 64 (.tmp 7) (.tmp 13) rfl wr.heap.size _ rfl rfl 64 _ hN opt_info rfl (by simp [Value.oneCell']) ?_))
        go_roundw
        case rel => exact ⟨k + 1, by omega, by go_num, hgood, by rw [hT2H.out, hnl.out], fun h => by rw [hT2H.out] at h; exact absurd h hno, hB4⟩
        case measure => simp [intOf]; omega
      case neg =>
        have hnl : Hid (decide (40 < T2.length) = false) := Lib.hid (decide_eq_false (by omega))
        have hoi : ¬ ((40 : Int) < (tn : Int) + 2 + (m : Int)) := by omega
        have ho4 := hO1.below hX
        have hne0 : (Value.slice A5 tn c5).ownBlock ≠ some wr.heap.size := fun e => absurd (hO1.base _ e).2 (Nat.lt_irrefl _)
        have hin2 : InB [pk, 2 + (m : Int)] := fun v hv => by
          rcases List.mem_cons.1 hv with rfl | hv
          · omega
          · rw [List.mem_singleton] at hv; omega
        have hTn := Lib.hid htn
        clear hlenT hO1 htn
        go_wp2_with (first | (refine wl (.pointer (some ⟨b1, off1 + k * 2, none⟩)) (by kernel_rfl) (by exact ex_index2 (by exact rfl) Try.underlying45 (by kernel_rfl) (by exact rfl) (by exact rfl) hkM) ?_) | (refine wl (.agg #[.int .u8 pk, .slice pA m pc]) (by kernel_rfl) (by exact ex_loadAt (by exact rfl) (by exact rfl) hld) ?_) | (refine wpList_store_row rfl 64 (.tmp 7) (.tmp 13) rfl wr.heap.size _ rfl rfl 64 _ hN opt_info rfl (by simp [Value.oneCell']) ?_))
        refine wp_region_held_drew (S := fun W => Below w.heap.size w W ∧ Has W wr.heap.size (.cells #[.int .u8 pk, .slice pA m pc] 64 (0, 0))) (by kernel_rfl) ⟨hB4.trans (below_drew _ _), hH.drew⟩ (fun hS => ?_)
        have o1 := ho4.drew
        generalize W4.drew = W1 at hS o1 ⊢
        -- REGION 10
        refine tk (i := 0) (.slice A5 tn c5) hS rfl (by kernel_rfl) (by kernel_rfl) (by kernel_rfl) (fun _ _ _ h => h) (by kernel_rfl) (by intro _ _; exact rfl) ?_
        simp only [Act.put, List.setIfInBounds_toArray, List.set_cons_zero, List.set_cons_succ]
        refine tk (i := 1) (.pointer (some ⟨wr.heap.size, 0, none⟩)) hS rfl (by kernel_rfl) (by kernel_rfl) (by kernel_rfl) (fun _ _ _ h => h) (by kernel_rfl) (by intro _ _; exact ex_field 0 0 (by exact rfl) Try.underlying64 (by exact rfl) rfl (by kernel_rfl) (by exact rfl)) ?_
        simp only [Act.put, List.setIfInBounds_toArray, List.set_cons_zero, List.set_cons_succ]
        refine tk (i := 2) (.int .u8 pk) hS rfl (by kernel_rfl) (by kernel_rfl) (by kernel_rfl) (fun _ _ _ h => h) (by kernel_rfl) (by intro _ h; exact ex_cell (by exact rfl) Try.underlying5 rfl (by exact rfl) (h.2.cell 0 rfl)) ?_
        simp only [Act.put, List.setIfInBounds_toArray, List.set_cons_zero, List.set_cons_succ]
        refine tk (i := 3) (.pointer (some ⟨wr.heap.size, 1, none⟩)) hS rfl (by kernel_rfl) (by kernel_rfl) (by kernel_rfl) (fun _ _ _ h => h) (by kernel_rfl) (by intro _ _; exact ex_field 1 0 (by exact rfl) Try.underlying64 (by exact rfl) rfl (by kernel_rfl) (by exact rfl)) ?_
        simp only [Act.put, List.setIfInBounds_toArray, List.set_cons_zero, List.set_cons_succ]
        refine tk (i := 4) (.slice pA m pc) hS rfl (by kernel_rfl) (by kernel_rfl) (by kernel_rfl) (fun _ _ _ h => h) (by kernel_rfl) (by intro _ h; exact ex_cell (by exact rfl) Try.underlying25 rfl (by exact rfl) (h.2.cell 1 rfl)) ?_
        simp only [Act.put, List.setIfInBounds_toArray, List.set_cons_zero, List.set_cons_succ]
        refine tk (i := 5) (.int .i64 (m : Int)) hS rfl (by kernel_rfl) (by kernel_rfl) (by kernel_rfl) (fun _ _ _ h => h) (by kernel_rfl) (by intro _ _; exact ex_len (by exact rfl) Try.underlying25 (by exact rfl)) ?_
        simp only [Act.put, List.setIfInBounds_toArray, List.set_cons_zero, List.set_cons_succ]
        refine tk (i := 6) (.int .i64 (2 + (m : Int))) hS rfl (by kernel_rfl) (by kernel_rfl) (by kernel_rfl) (fun _ _ _ h => h) (by kernel_rfl) (by intro _ _; exact ex_bin (by exact rfl) (by exact rfl) (by exact rfl) (by decide) (add_i64r _ _ _ (by omega) _)) ?_
        simp only [Act.put, List.setIfInBounds_toArray, List.set_cons_zero, List.set_cons_succ]
        refine tk (i := 7) (.int .u8 (2 + (m : Int))) hS rfl (by kernel_rfl) (by kernel_rfl) (by kernel_rfl) (fun _ _ _ h => h) (by kernel_rfl) (by intro _ h; exact ex_conv (by exact rfl) (by exact rfl) (conv_u8' _ _ _ _ rfl rfl (by omega) _)) ?_
        simp only [Act.put, List.setIfInBounds_toArray, List.set_cons_zero, List.set_cons_succ]
        refine tk (i := 10) (.pointer (some ⟨wr.heap.size, 1, none⟩)) hS rfl (by kernel_rfl) (by kernel_rfl) (by kernel_rfl) (fun _ _ _ h => h) (by kernel_rfl) (by intro _ _; exact ex_field 1 0 (by exact rfl) Try.underlying64 (by exact rfl) rfl (by kernel_rfl) (by exact rfl)) ?_
        simp only [Act.put, List.setIfInBounds_toArray, List.set_cons_zero, List.set_cons_succ]
        refine tk (i := 11) (.slice pA m pc) hS rfl (by kernel_rfl) (by kernel_rfl) (by kernel_rfl) (fun _ _ _ h => h) (by kernel_rfl) (by intro _ h; exact ex_cell (by exact rfl) Try.underlying25 rfl (by exact rfl) (h.2.cell 1 rfl)) ?_
        simp only [Act.put, List.setIfInBounds_toArray, List.set_cons_zero, List.set_cons_succ]
        refine tk_one (by kernel_rfl) (op_build (i := 8) [.int .u8 pk, .int .u8 (2 + (m : Int))] rfl (by kernel_rfl) rfl Try.underlying25 (by kernel_rfl) (by kernel_rfl) rfl (by decide) (by decide) (by first | rfl | (simp only [List.map_toArray, List.map_cons, List.map_nil] <;> rfl)) (all2 rfl rfl) (fun _ hb => ⟨hS.1.trans (hb.mono (Below.size hS.1)), hS.2.below hb hS.2.lt⟩) ?_)
        intro g5 W2 hQ hge _ hb2 hS2
        have o2 := o1.below hb2
        have yq : By (g5 + 1) W2 (some ⟨g5, 0, none⟩) 2 2 [pk, 2 + (m : Int)] := By.blk' (t := 5) (fz := (0, 0)) hQ (Nat.lt_succ_self _) hin2 (show 2 ≤ 9223372036854775807 by decide) rfl rfl
        have ne2 : (Value.slice A5 tn c5).ownBlock ≠ some wr.heap.size := hne0
        simp only [Act.put, List.setIfInBounds_toArray, List.set_cons_zero, List.set_cons_succ]
        refine tk_one (by kernel_rfl) (op_appS (i := 9) (.tmp 36) (.tmp 44) _ rfl (by kernel_rfl) rfl Try.underlying25 info8 w.heap.size _ _ rfl o2 _ _ _ _ _ rfl (yq) (by rw [hTn.out]; omega) (Below.size hS2.1) (fun _ hg => ⟨hS2.1.trans (below_app o2 hg (Below.size hS2.1)), hS2.2.grownN hg ne2⟩) ?_)
        intro v4 W3 o3 hg3 hat3 hS3
        have ne3 : v4.ownBlock ≠ some wr.heap.size := by
          rcases hat3 with e | e
          · rw [e]; exact ne2
          · rw [e]; intro e'; injection e' with e'; have := hS2.2.lt; omega
        simp only [Act.put, List.setIfInBounds_toArray, List.set_cons_zero, List.set_cons_succ]
        refine tk_one (by kernel_rfl) (op_appS (i := 12) (.tmp 45) (.tmp 47) _ rfl (by kernel_rfl) rfl Try.underlying25 info8 w.heap.size _ _ rfl o3 _ _ _ _ _ rfl (yP.below hS3.1 (Nat.le_refl _)) (by rw [List.length_append, hTn.out, List.length_cons, List.length_singleton]; omega) (Below.size hS3.1) (fun _ hg => ⟨hS3.1.trans (below_app o3 hg (Below.size hS3.1)), hS3.2.grownN hg ne3⟩) ?_)
        intro v5 W4 o4 hg4 _ hS4
        simp only [Act.put, List.setIfInBounds_toArray, List.set_cons_zero, List.set_cons_succ]
        refine tk (i := 13) (v5) hS4 rfl (by kernel_rfl) (by kernel_rfl) (by kernel_rfl) (fun _ _ _ h => h) (by kernel_rfl) (by intro _ _; exact rfl) ?_
        simp only [Act.put, List.setIfInBounds_toArray, List.set_cons_zero, List.set_cons_succ]
        refine wpAnyH_done (by kernel_rfl) ?_ _
        go_wp2
        go_roundw
        case rel => exact ⟨k + 1, by omega, by go_num, hgood, by rw [hT2H.out, hnl.out], fun _ => by have h := o4; rw [List.append_assoc] at h; rw [hT2H.out, hstep.out]; exact h, hS4.1⟩
        case measure => simp [intOf]; omega
        -- END 10
end Go.Proofs.Ytfkcejfjmfliaaa
end

section
/-
  What is packed is read back: in plain numbers.
-/
namespace Go.Proofs.Ytfkcejfjmfliaaa
open Go.RowKit

theorem getD_right (P X : List Int) (i : Nat) : (P ++ X).getD (P.length + i) 0 = X.getD i 0 := by
  rw [List.getD_eq_getElem?_getD, List.getD_eq_getElem?_getD, List.getElem?_append_right (by omega), Nat.add_sub_cancel_left]
theorem opts_pack : ∀ (os : List (Int × List Int)) (P : List Int) (z f : Nat) (acc : List (Int × List Int)), (∀ o ∈ os, 2 ≤ o.1) → os.length < f →
    optsF (P ++ (pkAll os ++ List.replicate z 0)) f P.length acc = (acc ++ os, 0, 0)
  | [], P, z, 0, acc, _, hf => by simp at hf
  | [], P, z, f + 1, acc, _, _ => by
    rw [optsF, if_pos, List.append_nil]
    rw [show pkAll [] = [] from rfl, List.nil_append]
    have h := getD_right P (List.replicate z 0) 0
    rw [Nat.add_zero] at h
    cases z with
    | zero => left; simp
    | succ z => right; rw [h]; rfl
  | o :: os, P, z, 0, acc, _, hf => by simp at hf
  | o :: os, P, z, f + 1, acc, ho, hf => by
    have h2 := ho o List.mem_cons_self
    have e : pkAll (o :: os) = pkOne o ++ pkAll os := by simp [pkAll]
    obtain ⟨L, hL⟩ : ∃ L, P ++ (pkAll (o :: os) ++ List.replicate z 0) = L := ⟨_, rfl⟩
    have hL1 : L = P ++ (o.1 :: (2 + o.2.length : Int) :: (o.2 ++ (pkAll os ++ List.replicate z 0))) := by rw [← hL, e]; simp [pkOne]
    have hL2 : L = (P ++ pkOne o) ++ (pkAll os ++ List.replicate z 0) := by rw [← hL, e]; simp
    have g0 : L.getD P.length 0 = o.1 := by
      have h := getD_right P (o.1 :: (2 + o.2.length : Int) :: (o.2 ++ (pkAll os ++ List.replicate z 0))) 0
      rw [← hL1, Nat.add_zero] at h
      exact h
    have g1 : L.getD (P.length + 1) 0 = 2 + o.2.length := by
      have h := getD_right P (o.1 :: (2 + o.2.length : Int) :: (o.2 ++ (pkAll os ++ List.replicate z 0))) 1
      rw [← hL1] at h
      exact h
    have hlen : L.length = P.length + (2 + o.2.length) + ((pkAll os).length + z) := by rw [hL1]; simp; omega
    have hbad : ¬ optBad L P.length := by unfold optBad; rw [g1, hlen]; omega
    have hN : optN L P.length = 2 + o.2.length := by unfold optN; rw [g1]; omega
    have hD : optD L P.length = o.2 := by
      unfold optD
      rw [hN, hL1, List.take_append, List.drop_append, List.take_of_length_le (by omega), List.drop_of_length_le (by omega), List.nil_append, show P.length + (2 + o.2.length) - P.length = o.2.length + 1 + 1 from by omega, List.take_succ_cons, List.take_succ_cons, show P.length + 2 - P.length = 2 from by omega, List.take_append_of_le_length (Nat.le_refl _), List.take_length]
      rfl
    rw [hL, optsF, if_neg (by rw [g0, hlen]; omega), if_neg (by rw [g0]; omega), if_neg hbad, hN, hD, g0]
    have hr := opts_pack os (P ++ pkOne o) z f (acc ++ [(o.1, o.2)]) (fun q hq => ho q (List.mem_cons_of_mem _ hq)) (by simp at hf; omega)
    rw [← hL2, List.length_append, pkOne_len] at hr
    rw [hr, List.append_assoc]
    rfl
theorem opts_back (os : List (Int × List Int)) (h : pkErr os = 0) : optsOf (pkBytes os) = (os, 0, 0) := by
  have hb : os.any pkBadOne = false := by
    unfold pkErr at h
    split at h
    · cases h
    · rename_i h1; simpa using h1
  have ho : ∀ o ∈ os, 2 ≤ o.1 := fun o hm => by
    rw [List.any_eq_false] at hb
    have := hb o hm
    simp only [pkBadOne, decide_eq_true_eq] at this
    omega
  have hn : os.length ≤ (pkAll os).length := by
    clear h hb ho
    induction os with
    | nil => simp
    | cons o os ih =>
      have e : pkAll (o :: os) = pkOne o ++ pkAll os := by simp [pkAll]
      rw [e, List.length_append, pkOne_len, List.length_cons]
      omega
  have hp : pkBytes os = [] ++ (pkAll os ++ List.replicate ((4 - (pkAll os).length % 4) % 4) 0) := by rw [pkBytes, if_pos h]; rfl
  have hr := opts_pack os [] ((4 - (pkAll os).length % 4) % 4) ((pkBytes os).length + 1) [] ho (by rw [hp]; simp; omega)
  rw [← hp] at hr
  exact hr
end Go.Proofs.Ytfkcejfjmfliaaa
end

section
/-
  What is parsed is written as the same bytes, but for its checksum: in plain numbers.
-/
namespace Go.Proofs.Ytfkcejfjmfliaaa
open Go.RowKit

theorem len20 {l : List Int} (h : l.length = 20) : ∃ x0 x1 x2 x3 x4 x5 x6 x7 x8 x9 x10 x11 x12 x13 x14 x15 x16 x17 x18 x19, l = [x0, x1, x2, x3, x4, x5, x6, x7, x8, x9, x10, x11, x12, x13, x14, x15, x16, x17, x18, x19] := by
  match l, h with
  | [x0, x1, x2, x3, x4, x5, x6, x7, x8, x9, x10, x11, x12, x13, x14, x15, x16, x17, x18, x19], _ => exact ⟨x0, x1, x2, x3, x4, x5, x6, x7, x8, x9, x10, x11, x12, x13, x14, x15, x16, x17, x18, x19, rfl⟩
theorem head20 {l : List Int} (h : 20 ≤ l.length) : ∃ x0 x1 x2 x3 x4 x5 x6 x7 x8 x9 x10 x11 x12 x13 x14 x15 x16 x17 x18 x19, ∃ r : List Int, l = [x0, x1, x2, x3, x4, x5, x6, x7, x8, x9, x10, x11, x12, x13, x14, x15, x16, x17, x18, x19] ++ r := by
  obtain ⟨x0, x1, x2, x3, x4, x5, x6, x7, x8, x9, x10, x11, x12, x13, x14, x15, x16, x17, x18, x19, hl⟩ := len20 (l := l.take 20) (by rw [List.length_take]; omega)
  exact ⟨x0, x1, x2, x3, x4, x5, x6, x7, x8, x9, x10, x11, x12, x13, x14, x15, x16, x17, x18, x19, l.drop 20, by rw [← hl, List.take_append_drop]⟩
set_option maxHeartbeats 1000000 in
theorem D4.again {l : List Int} (hin : InB l) (hz : pe4 false l = 0) (h6 : l.getD 6 0 < 128) :
    (of4 l).check = 0 ∧ (of4 l).bytes.length = l.length ∧ (of4 l).bytes.take 10 = l.take 10 ∧ (of4 l).bytes.drop 12 = l.drop 12 := by
  unfold pe4 at hz
  split at hz
  · cases hz
  split at hz
  · cases hz
  split at hz
  · cases hz
  split at hz
  · cases hz
  rename_i h1 h2 h3 h4
  clear hz
  obtain ⟨x0, x1, x2, x3, x4, x5, x6, x7, x8, x9, x10, x11, x12, x13, x14, x15, x16, x17, x18, x19, r, rfl⟩ := head20 (l := l) (by omega)
  have rr := fun i => getD_rng4 hin i
  have r0 : 0 ≤ x0 ∧ x0 ≤ 255 := rr 0
  have r1 : 0 ≤ x1 ∧ x1 ≤ 255 := rr 1
  have r2 : 0 ≤ x2 ∧ x2 ≤ 255 := rr 2
  have r3 : 0 ≤ x3 ∧ x3 ≤ 255 := rr 3
  have r4 : 0 ≤ x4 ∧ x4 ≤ 255 := rr 4
  have r5 : 0 ≤ x5 ∧ x5 ≤ 255 := rr 5
  have r6 : 0 ≤ x6 ∧ x6 ≤ 255 := rr 6
  have r7 : 0 ≤ x7 ∧ x7 ≤ 255 := rr 7
  have r8 : 0 ≤ x8 ∧ x8 ≤ 255 := rr 8
  have r9 : 0 ≤ x9 ∧ x9 ≤ 255 := rr 9
  have hlen : ([x0, x1, x2, x3, x4, x5, x6, x7, x8, x9, x10, x11, x12, x13, x14, x15, x16, x17, x18, x19] ++ r).length = 20 + r.length := by simp; omega
  have h2' : x0 / 16 = 4 := Decidable.not_not.1 h2
  have h6' : x6 < 128 := h6
  obtain ⟨H, hH⟩ : ∃ H : Nat, (hl4 ([x0, x1, x2, x3, x4, x5, x6, x7, x8, x9, x10, x11, x12, x13, x14, x15, x16, x17, x18, x19] ++ r)).toNat = H := ⟨_, rfl⟩
  have hHx : hl4 ([x0, x1, x2, x3, x4, x5, x6, x7, x8, x9, x10, x11, x12, x13, x14, x15, x16, x17, x18, x19] ++ r) = x0 % 16 * 4 := rfl
  rw [hHx] at h3 hH
  have htot : x2 * 256 + x3 = 20 + (r.length : Int) := by
    have h : ¬ (tot4 ([x0, x1, x2, x3, x4, x5, x6, x7, x8, x9, x10, x11, x12, x13, x14, x15, x16, x17, x18, x19] ++ r) ≠ (([x0, x1, x2, x3, x4, x5, x6, x7, x8, x9, x10, x11, x12, x13, x14, x15, x16, x17, x18, x19] ++ r).length : Int)) := fun h => h4 (.inl ⟨rfl, h⟩)
    have h := Decidable.not_not.1 h
    rw [hlen] at h
    have e : tot4 ([x0, x1, x2, x3, x4, x5, x6, x7, x8, x9, x10, x11, x12, x13, x14, x15, x16, x17, x18, x19] ++ r) = x2 * 256 + x3 := rfl
    omega
  rw [hlen] at h3
  clear h1 h2 h4 h6 rr hin
  have hof : of4 ([x0, x1, x2, x3, x4, x5, x6, x7, x8, x9, x10, x11, x12, x13, x14, x15, x16, x17, x18, x19] ++ r) = ⟨x1, x4 * 256 + x5, decide (x6 / 64 % 2 = 1), decide (x6 / 32 % 2 = 1), x6 % 32 * 256 + x7, x8, x9, x12, x13, x14, x15, x16, x17, x18, x19, r.take (H - 20), r.drop (H - 20)⟩ := by
    unfold of4
    rw [hHx, hH]
    have e : ([x0, x1, x2, x3, x4, x5, x6, x7, x8, x9, x10, x11, x12, x13, x14, x15, x16, x17, x18, x19] ++ r).drop H = r.drop (H - 20) := by rw [List.drop_append, List.drop_of_length_le (by simp; omega), List.nil_append]; rfl
    rw [e]
    rfl
  rw [hof]
  have hol : (r.take (H - 20)).length = H - 20 := by rw [List.length_take]; omega
  have hbl : (r.drop (H - 20)).length = r.length - (H - 20) := by rw [List.length_drop]
  generalize hO : r.take (H - 20) = O at hol
  generalize hB : r.drop (H - 20) = B at hbl
  have hr : O ++ B = r := by rw [← hO, ← hB, List.take_append_drop]
  obtain ⟨d, hd⟩ : ∃ d : D4, (⟨x1, x4 * 256 + x5, decide (x6 / 64 % 2 = 1), decide (x6 / 32 % 2 = 1), x6 % 32 * 256 + x7, x8, x9, x12, x13, x14, x15, x16, x17, x18, x19, O, B⟩ : D4) = d := ⟨_, rfl⟩
  have hoffw : d.offw = x6 * 256 + x7 := by
    rw [← hd]
    unfold D4.offw
    simp only [decide_eq_true_eq]
    split <;> split <;> omega
  have hhl : (d.hl : Int) = x0 % 16 * 4 := by
    rw [← hd]
    show ((20 + O.length : Nat) : Int) = _
    omega
  have hdt : (d.hl + d.bl.length : Int) = x2 * 256 + x3 := by
    rw [hhl, ← hd]
    show x0 % 16 * 4 + (B.length : Int) = _
    omega
  have hck : d.check = 0 := by
    unfold D4.check
    rw [if_neg, if_neg]
    · rw [← hd]; show ¬ (B.length > 65515 - O.length); omega
    · rw [← hd]; show ¬ (x6 % 32 * 256 + x7 < 0 ∨ x6 % 32 * 256 + x7 > 8191 ∨ O.length > 40 ∨ O.length % 4 ≠ 0); omega
  have hol' : d.ol = O := by rw [← hd]
  have hbl' : d.bl = B := by rw [← hd]
  have hfirst : ∃ a b, d.first d.sum = [x0, x1, x2, x3, x4, x5, x6, x7, x8, x9, a, b, x12, x13, x14, x15, x16, x17, x18, x19] := by
    refine ⟨d.sum / 256, d.sum % 256, ?_⟩
    unfold D4.first
    rw [hdt, hoffw, hhl]
    have f1 : d.tos = x1 := by rw [← hd]
    have f2 : d.id = x4 * 256 + x5 := by rw [← hd]
    have f3 : d.ttl = x8 ∧ d.proto = x9 ∧ d.s0 = x12 ∧ d.s1 = x13 ∧ d.s2 = x14 ∧ d.s3 = x15 ∧ d.d0 = x16 ∧ d.d1 = x17 ∧ d.d2 = x18 ∧ d.d3 = x19 := by rw [← hd]; exact ⟨rfl, rfl, rfl, rfl, rfl, rfl, rfl, rfl, rfl, rfl⟩
    obtain ⟨g1, g2, g3, g4, g5, g6, g7, g8, g9, g10⟩ := f3
    rw [f1, f2, g1, g2, g3, g4, g5, g6, g7, g8, g9, g10]
    rw [show 64 + x0 % 16 * 4 / 4 = x0 from by omega, show (x2 * 256 + x3) / 256 = x2 from by omega, show (x2 * 256 + x3) % 256 = x3 from by omega, show (x4 * 256 + x5) / 256 = x4 from by omega, show (x4 * 256 + x5) % 256 = x5 from by omega, show (x6 * 256 + x7) / 256 = x6 from by omega, show (x6 * 256 + x7) % 256 = x7 from by omega]
  obtain ⟨a, b, hf⟩ := hfirst
  rw [hd]
  have hby : d.bytes = [x0, x1, x2, x3, x4, x5, x6, x7, x8, x9, a, b, x12, x13, x14, x15, x16, x17, x18, x19] ++ r := by
    rw [D4.bytes, hf, hol', hbl', List.append_assoc, hr]
  rw [hby]
  exact ⟨hck, by simp, rfl, rfl⟩
end Go.Proofs.Ytfkcejfjmfliaaa
end
