/-
  Lemmas and walks for the row of TosixLong (part 23 of 37).
-/
import Derived.Test.YtijnifbpbgckgaaTlAD
import Derived.Test.YtijnifbpbgckgaaTlAG
import Derived.Test.YtijnifbpbgckgaaTlAJ
import Derived.Test.YtijnifbpbgckgaaTlAL
set_option linter.unusedVariables false
set_option linter.unusedSimpArgs false
namespace Go.Proofs.Ytijnifbpbgckgaa
open Go.RowKit Go.Shelf

theorem opt_info : (Try.prog.info? 114).map (·.size) = some 2 := by kernel_rfl

set_option maxRecDepth 100000 in
theorem option_bad (A : Option Addr) (c : Nat) (l : List Int) (k : Nat) (w : World) (y : By w.heap.size w A l.length c l) (hk : k ≤ l.length) (hs : l.length ≤ 140737488355328) (hb : optBad l k) :
    Calls Try.prog 65 #[.slice A l.length c, .int .i64 (k : Int)] w fun e w' => e = .returned (.tuple #[.agg #[.int .u8 0, .slice none 0 0], .int .i64 0, .bool false]) ∧ Below w.heap.size w w' := by
  have hN : Has (w.alloc (.cells #[.int .u8 0, .slice none 0 0] 114)) w.heap.size (.cells #[.int .u8 0, .slice none 0 0] 114 (0, 0)) := Has.newAt rfl
  have hB : Below w.heap.size w ((w.alloc (.cells #[.int .u8 0, .slice none 0 0] 114)).setRow w.heap.size #[.int .u8 0, .slice none 0 0]) := ((Below.refl _ _).alloc (Nat.le_refl _) _).trans below_setRow'
  have y' := y.below ((Below.refl w.heap.size w).alloc (Nat.le_refl _) (.cells #[.int .u8 0, .slice none 0 0] 114)) (Nat.le_refl _)
  obtain ⟨n, hn⟩ : ∃ n, l.length = n := ⟨_, rfl⟩
  unfold optBad at hb
  rw [hn] at hb hk hs y y' ⊢
  have hin := y.rng
  by_cases h2 : n < k + 2
  case pos =>
    have h2' : (n : Int) - (k : Int) < 2 := by omega
    clear hb y y' hn
    go_enter Try.func65, Try.ntmps65
    go_wp2_with (refine wpList_store_row rfl 114 (.tmp 4) (.tmp 34) rfl w.heap.size _ rfl rfl 114 _ hN opt_info rfl (by simp [Value.oneCell']) ?_)
    exact bodyPost_ret (res_cell3 Try.results65 rfl (hN.setRow_same.load (P := Try.prog) 114 Try.underlying114 rfl opt_info) rfl rfl) rfl ⟨rfl, hB⟩
  case neg =>
  obtain ⟨b, off, hA, hbl, -⟩ := y.row.at_ (by omega)
  subst hA
  have d1 := y'.atO (k := k + 1) (by omega)
  have r1 := getD_rng4 hin (k + 1)
  obtain ⟨x1, hx1⟩ : ∃ x, l.getD (k + 1) 0 = x := ⟨_, rfl⟩
  rw [hx1] at d1 r1 hb
  have z1 : (k : Int) + 1 < (n : Int) := by omega
  have z2 : ¬ ((n : Int) - (k : Int) < 2) := by omega
  clear y y' hn
  by_cases h3 : x1 < 2
  case pos =>
    clear hb
    go_enter Try.func65, Try.ntmps65
    go_wp2_with (refine wpList_store_row rfl 114 (.tmp 4) (.tmp 34) rfl w.heap.size _ rfl rfl 114 _ hN opt_info rfl (by simp [Value.oneCell']) ?_)
    exact bodyPost_ret (res_cell3 Try.results65 rfl (hN.setRow_same.load (P := Try.prog) 114 Try.underlying114 rfl opt_info) rfl rfl) rfl ⟨rfl, hB⟩
  case neg =>
    have h4' : (n : Int) - (k : Int) < x1 := by omega
    clear hb
    go_enter Try.func65, Try.ntmps65
    go_wp2_with (refine wpList_store_row rfl 114 (.tmp 4) (.tmp 34) rfl w.heap.size _ rfl rfl 114 _ hN opt_info rfl (by simp [Value.oneCell']) ?_)
    exact bodyPost_ret (res_cell3 Try.results65 rfl (hN.setRow_same.load (P := Try.prog) 114 Try.underlying114 rfl opt_info) rfl rfl) rfl ⟨rfl, hB⟩

theorem add2_i64 {P : Program} (t : TypeId) (k : Nat) (h : k < 4611686018427387904) (w : World) : (binOp .add t (.int .i64 (k : Int)) (.int .i64 2)).run P w = .ok (.int .i64 ((k + 2 : Nat) : Int)) w := by
  go_simp
  exact IntWalk.i64_in _ (by omega)
/-- what the last region of option leans on -/
structure SO (w w' : World) : Prop where
  has : ∃ old, Has w' w.heap.size (.cells old 114 (0, 0)) ∧ old.size = 2
  bel : Below w.heap.size w w'
theorem SO.gt {w w' : World} (h : SO w w') : w.heap.size + 1 ≤ w'.heap.size := by
  obtain ⟨old, ho, _⟩ := h.has
  exact ho.lt
theorem SO.keep {w w' w'' : World} (h : SO w w') (hb : Below w'.heap.size w' w'') : SO w w'' := by
  obtain ⟨old, ho, hs⟩ := h.has
  exact ⟨⟨old, ho.below hb ho.lt, hs⟩, h.bel.trans (hb.mono h.bel.size)⟩
theorem SO.store {w w' w'' : World} {cs : Array Value} (h : SO w w') (hh : Has w'' w.heap.size (.cells cs 114 (0, 0))) (hb : Below w.heap.size w' w'') (hs : cs.size = 2) : SO w w'' := ⟨⟨cs, hh, hs⟩, h.bel.trans hb⟩

set_option maxRecDepth 100000 in
theorem option_ok (A : Option Addr) (c : Nat) (l : List Int) (k : Nat) (w : World) (y : By w.heap.size w A l.length c l) (hs : l.length ≤ 140737488355328) (hb : ¬ optBad l k) :
    Calls Try.prog 65 #[.slice A l.length c, .int .i64 (k : Int)] w fun e w' => (∃ p : Kd, e = .returned (.tuple #[.agg #[.int .u8 p.1, kdV p], .int .i64 ((k + optN l k : Nat) : Int), .bool true]) ∧ Hid ((p.1, p.2.2.2) = (l.getD k 0, optD l k)) ∧ OwnB w' w.heap.size (kdV p) p.2.2.2) ∧ Below w.heap.size w w' := by
  have hN : Has (w.alloc (.cells #[.int .u8 0, .slice none 0 0] 114)) w.heap.size (.cells #[.int .u8 0, .slice none 0 0] 114 (0, 0)) := Has.newAt rfl
  have hB : Below w.heap.size w (w.alloc (.cells #[.int .u8 0, .slice none 0 0] 114)) := (Below.refl _ _).alloc (Nat.le_refl _) _
  have y' := y.below hB (Nat.le_refl _)
  obtain ⟨n, hn⟩ : ∃ n, l.length = n := ⟨_, rfl⟩
  have hlen := (optD_len hb).1
  unfold optBad at hb
  rw [hn] at hb hs y y' ⊢
  have hin := y.rng
  obtain ⟨b, off, hA, hbl, -⟩ := y.row.at_ (by omega)
  subst hA
  have d0 := y'.atO (k := k) (by omega)
  have d0w := y.atO (k := k) (by omega)
  have d1 := y'.atO (k := k + 1) (by omega)
  have r0 := getD_rng4 hin k
  have r1 := getD_rng4 hin (k + 1)
  obtain ⟨x0, hx0⟩ : ∃ x, l.getD k 0 = x := ⟨_, rfl⟩
  obtain ⟨x1, hx1⟩ : ∃ x : Nat, l.getD (k + 1) 0 = (x : Int) := ⟨(l.getD (k + 1) 0).toNat, by omega⟩
  have hN' : optN l k = x1 := by unfold optN; rw [hx1]; omega
  rw [hx0] at d0 d0w r0 ⊢
  rw [hx1] at d1 r1 hb
  rw [hN'] at hlen ⊢
  obtain ⟨A', c', hsl, yd⟩ := By.mid y 25 Try.underlying25 (by kernel_rfl) (k := k + 2) (m := k + x1) (by omega) (by omega)
  have hD : (l.take (k + x1)).drop (k + 2) = optD l k := by unfold optD; rw [hN']
  rw [hD] at yd
  generalize optD l k = D at hlen yd ⊢
  have hDl : k + x1 - (k + 2) = D.length := by omega
  rw [hDl] at hsl yd
  have z0 : (k : Int) < (n : Int) := by omega
  have z1 : (k : Int) + 1 < (n : Int) := by omega
  have z2 : ¬ ((n : Int) - (k : Int) < 2) := by omega
  have z3 : ¬ ((x1 : Int) < 2) := by omega
  have z4 : ¬ ((n : Int) - (k : Int) < x1) := by omega
  have hDs : D.length ≤ 140737488355328 := by omega
  clear hb y y' hn hlen hN' hD hDl
  go_enter Try.func65, Try.ntmps65
  go_wp2
  have hS0 : SO w (w.alloc (.cells #[.int .u8 0, .slice none 0 0] 114)) := ⟨⟨_, hN, rfl⟩, hB⟩
  refine wp_region_held_drew (S := SO w) (by kernel_rfl) (hS0.keep (below_drew _ _)) (fun hS => ?_)
  -- REGION 4
  refine te 0 (.slice (some ⟨b, off, none⟩) n c) hS rfl (by intro _ _; exact rfl) ?_
  simp only [lay]
  refine te 1 (.int .i64 (k : Int)) hS rfl (by intro _ _; exact rfl) ?_
  simp only [lay]
  refine te 2 (.pointer (some ⟨b, off + k, none⟩)) hS rfl (by intro _ _; exact ex_index (by exact rfl) Try.underlying25 (by kernel_rfl) (by exact rfl) (by exact rfl) (by omega)) ?_
  simp only [lay]
  refine te 3 (.int .u8 x0) hS rfl (by intro _ h; exact ex_cell (by exact rfl) Try.underlying5 rfl (by exact rfl) (h.bel.cell (p := ⟨b, off + k, none⟩) hbl ▸ d0w)) ?_
  simp only [lay]
  refine te 4 (.slice (some ⟨b, off, none⟩) n c) hS rfl (by intro _ _; exact rfl) ?_
  simp only [lay]
  refine te 5 (.int .i64 (k : Int)) hS rfl (by intro _ _; exact rfl) ?_
  simp only [lay]
  refine te 6 (.int .i64 ((k + 2 : Nat) : Int)) hS rfl (by intro _ _; exact ex_bin (by exact rfl) (by exact rfl) (by exact rfl) (by decide) (add2_i64 _ _ (by omega) _)) ?_
  simp only [lay]
  refine te 7 (.int .i64 ((k + x1 : Nat) : Int)) hS rfl (by intro _ _; exact rfl) ?_
  simp only [lay]
  refine te 8 (.slice A' D.length c') hS rfl (by intro w' _; exact ex_slice (by exact rfl) (by exact rfl) (hsl w')) ?_
  simp only [lay]
  refine te 11 (.int .i64 ((k + x1 : Nat) : Int)) hS rfl (by intro _ _; exact rfl) ?_
  simp only [lay]
  refine tk_callx (i := 9) (fun v w' => OwnB w' (w.heap.size + 1) v D) (by kernel_rfl) rfl (by kernel_rfl) (by exact ex_call (by exact rfl) Try.func51 (by kernel_rfl) (by kernel_rfl) (by simp only [List.map_toArray, List.map_cons, List.map_nil] <;> rfl)) (by refine (clone_any A' c' D _ ((yd.below hS.bel (Nat.le_refl _)).more hS.bel.size) hDs).mono ?_; rintro e w' ⟨v, h1, h2, h3⟩; exact ⟨v, h1, h2.more hS.gt, hS.keep h3⟩) ?_
  rintro v3 W3 ho3 hS3
  obtain ⟨A3, k3, rfl, _⟩ := own_shape ho3.own
  simp only [lay]
  refine te 10 (.agg #[.int .u8 x0, .slice A3 D.length k3]) hS3 rfl (by intro _ _; go_simp) ?_
  simp only [lay]
  obtain ⟨old, hold, hold2⟩ := hS3.has
  refine tk_store (i := 12) (by kernel_rfl) rfl (by kernel_rfl) rfl rfl rfl hold opt_info hold2 (by simp [Value.oneCell']) (hS3.store hold.setRow_same below_setRow' rfl) ?_
  have hS4 := hS3.store hold.setRow_same (cs := #[.int .u8 x0, .slice A3 D.length k3]) below_setRow' rfl
  simp only [lay]
  refine te 13 (.int .i64 ((k + x1 : Nat) : Int)) hS4 rfl (by intro _ _; exact rfl) ?_
  simp only [lay]
  refine te 14 (.bool true) hS4 rfl (by intro _ _; exact rfl) ?_
  simp only [lay]
  refine wpAnyH_done (by kernel_rfl) ?_ _
  have hH4 := hold.setRow_same (cs' := #[.int .u8 x0, .slice A3 D.length k3])
  have ho4 := (ho3.setRow (g := w.heap.size) (cs := #[.int .u8 x0, .slice A3 D.length k3]) (Nat.lt_succ_self _)).more (Nat.le_succ _)
  go_wp2
  exact bodyPost_ret (res_cell3 Try.results65 rfl (hH4.load (P := Try.prog) 114 Try.underlying114 rfl opt_info) rfl rfl) rfl ⟨⟨(x0, A3, k3, D), rfl, Lib.hid rfl, ho4⟩, hS4.bel⟩
  -- END 4
end Go.Proofs.Ytijnifbpbgckgaa
