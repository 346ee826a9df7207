/-
  Lemmas and walks for the row of TosixRight (part 22 of 33).
-/
import Derived.Test.YtijnifbpbgckgaaTrAF
import Derived.Test.YtijnifbpbgckgaaTrAU
set_option linter.unusedVariables false
set_option linter.unusedSimpArgs false
namespace Go.Proofs.Ytijnifbpbgckgaa
open Go.RowKit Go.Shelf

section
variable {P : Program}
theorem gtr_t (t : TypeId) (x y : Int) (h : y < x) (w : World) : (binOp .gtr t (.int .i64 x) (.int .i64 y)).run P w = .ok (.bool true) w := by simp [binOp, Op.intCmp, h]
theorem gtr_f (t : TypeId) (x y : Int) (h : ¬ y < x) (w : World) : (binOp .gtr t (.int .i64 x) (.int .i64 y)).run P w = .ok (.bool false) w := by simp [binOp, Op.intCmp, h]
theorem leq_t (t : TypeId) (x y : Int) (h : x ≤ y) (w : World) : (binOp .leq t (.int .i64 x) (.int .i64 y)).run P w = .ok (.bool true) w := by simp [binOp, Op.intCmp, h]
theorem leq_f (t : TypeId) (x y : Int) (h : ¬ x ≤ y) (w : World) : (binOp .leq t (.int .i64 x) (.int .i64 y)).run P w = .ok (.bool false) w := by simp [binOp, Op.intCmp, h]
theorem add_i64r (t : TypeId) (x y : Int) (h : -9223372036854775808 ≤ x + y ∧ x + y < 9223372036854775808) (w : World) : (binOp .add t (.int .i64 x) (.int .i64 y)).run P w = .ok (.int .i64 (x + y)) w := by
  have h1 := h.1
  have h2 := h.2
  clear h
  go_simp
  exact IntWalk.i64_in _ (by omega)
end

set_option maxRecDepth 100000 in
set_option maxHeartbeats 2000000 in
theorem routed_any (A : Option Addr) (c : Nat) (l : List Int) (w : World) (y : By w.heap.size w A l.length c l) (hs : l.length ≤ 1048576) :
    Calls Try.prog 36 #[.slice A l.length c] w fun e w' => e = .returned (.bool (routOf l)) ∧ Below w.heap.size w w' := by
  obtain ⟨V, hV⟩ : ∃ V, routF l (l.length + 1) 0 = V := ⟨_, rfl⟩
  unfold routOf
  rw [hV]
  obtain ⟨n, hn⟩ : ∃ n, l.length = n := ⟨_, rfl⟩
  have hopt : ∀ (k : Nat) (W : World), By W.heap.size W A n c l → k ≤ n → optBad l k → _ := fun k W yW hk hb => option_bad A c l k W (by rw [hn]; exact yW) (by rw [hn]; exact hk) (by omega) hb
  have hopk : ∀ (k : Nat) (W : World), By W.heap.size W A n c l → ¬ optBad l k → _ := fun k W yW hb => option_ok A c l k W (by rw [hn]; exact yW) (by omega) hb
  rw [hn] at hopt hopk hV hs y ⊢
  have hVH := Lib.hid hV
  have hnH := Lib.hid hn
  have hoptH := Lib.hid hopt
  have hopkH := Lib.hid hopk
  have hin := y.rng
  clear hV hn hopt hopk
  go_enter Try.func36, Try.ntmps36
  go_wp2
  go_loopw [3] (fun i wr => ∃ (k f : Nat), k ≤ n ∧ n - k < f ∧ Hid (routF l f k = V) ∧ i = .int .i64 k ∧ Below w.heap.size w wr) (fun i _ => n - (intOf i).toNat)
  case atStart => exact ⟨0, n + 1, Nat.zero_le _, by omega, hVH, rfl, Below.refl _ _⟩
  case round =>
    obtain ⟨k, f, hk, hf, hV, rfl, hBr⟩ := hrel
    rename_i wr _
    cases f with
    | zero => omega
    | succ f =>
    replace hV := hV.out
    rw [routF, hnH.out] at hV
    by_cases hlt : k < n
    case neg =>
      rw [if_pos (.inl (by omega))] at hV
      have hge : ¬ ((k : Int) < (n : Int)) := by omega
      obtain rfl : V = false := hV.symm
      clear y hV
      go_wp2
      go_ret
      exact ⟨rfl, hBr⟩
    case pos =>
    obtain ⟨b, off, hA, hbl, -⟩ := y.row.at_ (by omega)
    subst hA
    have yr := y.below hBr (Nat.le_refl _)
    have d0 := yr.atO (k := k) hlt
    have r0 := getD_rng4 hin k
    obtain ⟨x0, hx0⟩ : ∃ x, l.getD k 0 = x := ⟨_, rfl⟩
    rw [hx0] at d0 r0 hV
    have z0 : (k : Int) < (n : Int) := by omega
    by_cases h00 : x0 = 0
    case pos =>
      rw [if_pos (.inr h00)] at hV
      subst h00
      obtain rfl : V = false := hV.symm
      clear y yr hV
      go_wp2
      go_ret
      exact ⟨rfl, hBr⟩
    case neg =>
    rw [if_neg (by omega)] at hV
    by_cases h01 : x0 = 1
    case pos =>
      rw [if_pos h01] at hV
      subst h01
      have hVH2 := Lib.hid hV
      clear y yr hV
      go_wp2
      go_roundw
      case rel => exact ⟨k + 1, f, by omega, by omega, hVH2, by go_num, hBr⟩
      case measure => simp [intOf]; omega
    case neg =>
    rw [if_neg h01] at hV
    have yw := yr.more hBr.size
    by_cases hbad : optBad l k
    case pos =>
      rw [if_pos hbad] at hV
      obtain rfl : V = false := hV.symm
      have hcall := Lib.hid (hoptH.out k wr yw (Nat.le_of_lt hlt) hbad)
      clear y yr yw hbad hV
      go_wp2_with fail
      refine hcall.out.mono ?_
      rintro e w3 ⟨rfl, hb⟩
      have hB3 := hBr.trans (hb.mono hBr.size)
      have hN : Has (w3.alloc (.cells #[.int .u8 0, .slice none 0 0] 114)) w3.heap.size (.cells #[.int .u8 0, .slice none 0 0] 114 (0, 0)) := Has.newAt rfl
      go_wp2_with (refine wpList_store_row rfl 114 (.tmp 4) (.tmp 29) rfl w3.heap.size _ rfl rfl 114 _ hN opt_info rfl (by simp [Value.oneCell']) ?_)
      have hB4 := hB3.trans (((Below.refl w3.heap.size w3).alloc (Nat.le_refl _) (.cells #[.int .u8 0, .slice none 0 0] 114)).trans (below_setRow' (cs := #[.int .u8 0, .slice none 0 0])) |>.mono hB3.size)
      go_ret
      exact ⟨rfl, hB4⟩
    case neg =>
      rw [if_neg hbad] at hV
      have hcall := Lib.hid (hopkH.out k wr yw hbad)
      have hlen := optD_len hbad
      rw [hnH.out] at hlen
      have hl2 : 2 ≤ optN l k := by omega
      obtain ⟨N, hN⟩ : ∃ N, optN l k = N := ⟨_, rfl⟩
      rw [hN] at hV hlen hcall hl2
      clear y yr yw hbad hN
      go_wp2_with fail
      refine hcall.out.mono ?_
      rintro e w3 ⟨⟨⟨pk, pA, pc, pl⟩, rfl, hp, ho⟩, hb⟩
      have hB3 := hBr.trans (hb.mono hBr.size)
      have hN : Has (w3.alloc (.cells #[.int .u8 0, .slice none 0 0] 114)) w3.heap.size (.cells #[.int .u8 0, .slice none 0 0] 114 (0, 0)) := Has.newAt rfl
      have hX : Below w3.heap.size w3 ((w3.alloc (.cells #[.int .u8 0, .slice none 0 0] 114)).setRow w3.heap.size #[.int .u8 pk, kdV (pk, pA, pc, pl)]) := ((Below.refl w3.heap.size w3).alloc (Nat.le_refl _) (.cells #[.int .u8 0, .slice none 0 0] 114)).trans below_setRow'
      have hH := hN.setRow_same (cs' := #[.int .u8 pk, kdV (pk, pA, pc, pl)])
      obtain ⟨W4, hW4⟩ : ∃ W, (w3.alloc (.cells #[.int .u8 0, .slice none 0 0] 114)).setRow w3.heap.size #[.int .u8 pk, kdV (pk, pA, pc, pl)] = W := ⟨_, rfl⟩
      have ho4 := ho.below hX
      rw [hW4] at hX hH ho4
      have hGl := hH.lt
      have e0 := hH.cell 0 (v := .int .u8 pk) rfl
      have e1 := hH.cell 1 (v := .slice pA pl.length pc) rfl
      have hB4 := hB3.trans (hX.mono hB3.size)
      have hp1 : pk = x0 := (congrArg Prod.fst hp.out).trans hx0
      have hp2 : pl = optD l k := congrArg Prod.snd hp.out
      rw [← hp1, ← hp2] at hV
      have yD : By W4.heap.size W4 pA pl.length pc pl := by
        obtain ⟨A', c', he, hy⟩ := ho4.by_
        simp only [kdV, Value.slice.injEq] at he
        obtain ⟨rfl, _, rfl⟩ := he
        exact hy
      have hpl := yD.rng
      obtain ⟨m, hm⟩ : ∃ m, pl.length = m := ⟨_, rfl⟩
      obtain ⟨x2, hx2⟩ : ∃ x, pl.getD 0 0 = x := ⟨_, rfl⟩
      have r2 := getD_rng4 hpl 0
      have hroute : routOne (pk, pl) = decide ((pk = 131 ∨ pk = 137) ∧ 0 < m ∧ x2 ≤ 2 + m) := by rw [← hm, ← hx2]; rfl
      rw [hroute] at hV
      rw [hm] at e1 yD
      rw [hx2] at r2
      have hpr : 0 ≤ pk ∧ pk ≤ 255 := by omega
      have hmb : m ≤ 1048576 := by rw [← hm, hp2]; omega
      have hVH2 := Lib.hid hV
      clear hroute hp hp1 hp2 ho ho4 hb d0 hx0
      by_cases hk1 : pk = 131 ∨ pk = 137
      case neg =>
        have hVn : Hid (routF l f (k + N) = V) := Lib.hid (by rw [← hVH2.out, if_neg (by simp [hk1])])
        have hk2 : ¬ pk = 131 := fun h => hk1 (.inl h)
        have hk3 : ¬ pk = 137 := fun h => hk1 (.inr h)
        clear hV hk1 yD hx2 hpl hVH2
        go_wp2_with (refine wpList_store_row rfl 114 (.tmp 4) (.tmp 29) rfl w3.heap.size _ rfl rfl 114 _ hN opt_info rfl (by simp [kdV, Value.oneCell']) ?_)
        refine wp_region_held_drew (S := fun W => Below W4.heap.size W4 W) (by kernel_rfl) (below_drew _ _) (fun hS => ?_)
        refine te 0 (.pointer (some ⟨w3.heap.size, 0, none⟩)) hS rfl (by intro _ _; exact ex_field 0 0 (by exact rfl) Try.underlying114 (by exact rfl) rfl (by kernel_rfl) (by exact rfl)) ?_
        simp only [lay]
        refine te 1 (.int .u8 pk) hS rfl (by intro _ h; exact ex_cell (by exact rfl) Try.underlying5 rfl (by exact rfl) ((h.cell (p := ⟨w3.heap.size, 0, none⟩) hGl).trans e0)) ?_
        simp only [lay]
        refine te 2 (.bool false) hS rfl (by intro _ _; exact eq_int_ne (by exact rfl) (by exact rfl) (by exact rfl) hk2) ?_
        simp only [lay]
        refine te 3 (.bool false) hS rfl (by intro _ _; exact rfl) ?_
        simp only [lay]
        refine te 4 (.pointer (some ⟨w3.heap.size, 0, none⟩)) hS rfl (by intro _ _; exact ex_field 0 0 (by exact rfl) Try.underlying114 (by exact rfl) rfl (by kernel_rfl) (by exact rfl)) ?_
        simp only [lay]
        refine te 5 (.int .u8 pk) hS rfl (by intro _ h; exact ex_cell (by exact rfl) Try.underlying5 rfl (by exact rfl) ((h.cell (p := ⟨w3.heap.size, 0, none⟩) hGl).trans e0)) ?_
        simp only [lay]
        refine te 6 (.bool false) hS rfl (by intro _ _; exact eq_int_ne (by exact rfl) (by exact rfl) (by exact rfl) hk3) ?_
        simp only [lay]
        refine te 7 (.bool false) hS rfl (by intro _ _; exact rfl) ?_
        simp only [lay]
        refine te 8 (.bool false) hS rfl (by intro _ _; exact rfl) ?_
        simp only [lay]
        refine tn 9 hS rfl ?_
        simp only [lay]
        refine tn 10 hS rfl ?_
        simp only [lay]
        refine tn 11 hS rfl ?_
        simp only [lay]
        refine tn 12 hS rfl ?_
        simp only [lay]
        refine te 13 (.bool false) hS rfl (by intro _ _; exact rfl) ?_
        simp only [lay]
        refine te 14 (.bool false) hS rfl (by intro _ _; exact rfl) ?_
        simp only [lay]
        refine tn 15 hS rfl ?_
        simp only [lay]
        refine tn 16 hS rfl ?_
        simp only [lay]
        refine tn 17 hS rfl ?_
        simp only [lay]
        refine tn 18 hS rfl ?_
        simp only [lay]
        refine tn 19 hS rfl ?_
        simp only [lay]
        refine tn 20 hS rfl ?_
        simp only [lay]
        refine tn 21 hS rfl ?_
        simp only [lay]
        refine tn 22 hS rfl ?_
        simp only [lay]
        refine tn 23 hS rfl ?_
        simp only [lay]
        refine tn 24 hS rfl ?_
        simp only [lay]
        refine te 25 (.bool false) hS rfl (by intro _ _; exact rfl) ?_
        simp only [lay]
        refine wpAnyH_done (by kernel_rfl) ?_ _
        go_wp2
        go_roundw
        case rel => exact ⟨k + N, f, by omega, by omega, hVn, by go_num, hB4.trans (hS.mono hB4.size)⟩
        case measure => simp [intOf]; omega
      case pos =>
      by_cases hm0 : m = 0
      case pos =>
        have hVn : Hid (routF l f (k + N) = V) := Lib.hid (by rw [← hVH2.out, if_neg (by simp [hm0])])
        clear hV yD hx2 hpl hVH2
        rcases hk1 with rfl | rfl
        · go_wp2_with (refine wpList_store_row rfl 114 (.tmp 4) (.tmp 29) rfl w3.heap.size _ rfl rfl 114 _ hN opt_info rfl (by simp [kdV, Value.oneCell']) ?_)
          refine wp_region_held_drew (S := fun W => Below W4.heap.size W4 W) (by kernel_rfl) (below_drew _ _) (fun hS => ?_)
          refine te 0 (.pointer (some ⟨w3.heap.size, 0, none⟩)) hS rfl (by intro _ _; exact ex_field 0 0 (by exact rfl) Try.underlying114 (by exact rfl) rfl (by kernel_rfl) (by exact rfl)) ?_
          simp only [lay]
          refine te 1 (.int .u8 131) hS rfl (by intro _ h; exact ex_cell (by exact rfl) Try.underlying5 rfl (by exact rfl) ((h.cell (p := ⟨w3.heap.size, 0, none⟩) hGl).trans e0)) ?_
          simp only [lay]
          refine te 2 (.bool true) hS rfl (by intro _ _; exact eq_int_self (m := 131) (by exact rfl) (by exact rfl) (by exact rfl)) ?_
          simp only [lay]
          refine te 3 (.bool true) hS rfl (by intro _ _; exact rfl) ?_
          simp only [lay]
          refine tn 4 hS rfl ?_
          simp only [lay]
          refine tn 5 hS rfl ?_
          simp only [lay]
          refine tn 6 hS rfl ?_
          simp only [lay]
          refine te 7 (.bool true) hS rfl (by intro _ _; exact rfl) ?_
          simp only [lay]
          refine te 8 (.bool true) hS rfl (by intro _ _; exact rfl) ?_
          simp only [lay]
          refine te 9 (.pointer (some ⟨w3.heap.size, 1, none⟩)) hS rfl (by intro _ _; exact ex_field 1 0 (by exact rfl) Try.underlying114 (by exact rfl) rfl (by kernel_rfl) (by exact rfl)) ?_
          simp only [lay]
          refine te 10 (.slice pA m pc) hS rfl (by intro _ h; exact ex_cell (by exact rfl) Try.underlying25 rfl (by exact rfl) ((h.cell (p := ⟨w3.heap.size, 1, none⟩) hGl).trans e1)) ?_
          simp only [lay]
          refine te 11 (.int .i64 (m : Int)) hS rfl (by intro _ _; exact ex_len (by exact rfl) Try.underlying25 (by exact rfl)) ?_
          simp only [lay]
          refine te 12 (.bool false) hS rfl (by intro _ _; exact ex_bin (by exact rfl) (by exact rfl) (by exact rfl) (by decide) (gtr_f _ _ _ (by omega) _)) ?_
          simp only [lay]
          refine te 13 (.bool false) hS rfl (by intro _ _; exact rfl) ?_
          simp only [lay]
          refine te 14 (.bool false) hS rfl (by intro _ _; exact rfl) ?_
          simp only [lay]
          refine tn 15 hS rfl ?_
          simp only [lay]
          refine tn 16 hS rfl ?_
          simp only [lay]
          refine tn 17 hS rfl ?_
          simp only [lay]
          refine tn 18 hS rfl ?_
          simp only [lay]
          refine tn 19 hS rfl ?_
          simp only [lay]
          refine tn 20 hS rfl ?_
          simp only [lay]
          refine tn 21 hS rfl ?_
          simp only [lay]
          refine tn 22 hS rfl ?_
          simp only [lay]
          refine tn 23 hS rfl ?_
          simp only [lay]
          refine tn 24 hS rfl ?_
          simp only [lay]
          refine te 25 (.bool false) hS rfl (by intro _ _; exact rfl) ?_
          simp only [lay]
          refine wpAnyH_done (by kernel_rfl) ?_ _
          go_wp2
          go_roundw
          case rel => exact ⟨k + N, f, by omega, by omega, hVn, by go_num, hB4.trans (hS.mono hB4.size)⟩
          case measure => simp [intOf]; omega
        · go_wp2_with (refine wpList_store_row rfl 114 (.tmp 4) (.tmp 29) rfl w3.heap.size _ rfl rfl 114 _ hN opt_info rfl (by simp [kdV, Value.oneCell']) ?_)
          refine wp_region_held_drew (S := fun W => Below W4.heap.size W4 W) (by kernel_rfl) (below_drew _ _) (fun hS => ?_)
          refine te 0 (.pointer (some ⟨w3.heap.size, 0, none⟩)) hS rfl (by intro _ _; exact ex_field 0 0 (by exact rfl) Try.underlying114 (by exact rfl) rfl (by kernel_rfl) (by exact rfl)) ?_
          simp only [lay]
          refine te 1 (.int .u8 137) hS rfl (by intro _ h; exact ex_cell (by exact rfl) Try.underlying5 rfl (by exact rfl) ((h.cell (p := ⟨w3.heap.size, 0, none⟩) hGl).trans e0)) ?_
          simp only [lay]
          refine te 2 (.bool false) hS rfl (by intro _ _; exact eq_int_ne (by exact rfl) (by exact rfl) (by exact rfl) (by decide)) ?_
          simp only [lay]
          refine te 3 (.bool false) hS rfl (by intro _ _; exact rfl) ?_
          simp only [lay]
          refine te 4 (.pointer (some ⟨w3.heap.size, 0, none⟩)) hS rfl (by intro _ _; exact ex_field 0 0 (by exact rfl) Try.underlying114 (by exact rfl) rfl (by kernel_rfl) (by exact rfl)) ?_
          simp only [lay]
          refine te 5 (.int .u8 137) hS rfl (by intro _ h; exact ex_cell (by exact rfl) Try.underlying5 rfl (by exact rfl) ((h.cell (p := ⟨w3.heap.size, 0, none⟩) hGl).trans e0)) ?_
          simp only [lay]
          refine te 6 (.bool true) hS rfl (by intro _ _; exact eq_int_self (m := 137) (by exact rfl) (by exact rfl) (by exact rfl)) ?_
          simp only [lay]
          refine te 7 (.bool true) hS rfl (by intro _ _; exact rfl) ?_
          simp only [lay]
          refine te 8 (.bool true) hS rfl (by intro _ _; exact rfl) ?_
          simp only [lay]
          refine te 9 (.pointer (some ⟨w3.heap.size, 1, none⟩)) hS rfl (by intro _ _; exact ex_field 1 0 (by exact rfl) Try.underlying114 (by exact rfl) rfl (by kernel_rfl) (by exact rfl)) ?_
          simp only [lay]
          refine te 10 (.slice pA m pc) hS rfl (by intro _ h; exact ex_cell (by exact rfl) Try.underlying25 rfl (by exact rfl) ((h.cell (p := ⟨w3.heap.size, 1, none⟩) hGl).trans e1)) ?_
          simp only [lay]
          refine te 11 (.int .i64 (m : Int)) hS rfl (by intro _ _; exact ex_len (by exact rfl) Try.underlying25 (by exact rfl)) ?_
          simp only [lay]
          refine te 12 (.bool false) hS rfl (by intro _ _; exact ex_bin (by exact rfl) (by exact rfl) (by exact rfl) (by decide) (gtr_f _ _ _ (by omega) _)) ?_
          simp only [lay]
          refine te 13 (.bool false) hS rfl (by intro _ _; exact rfl) ?_
          simp only [lay]
          refine te 14 (.bool false) hS rfl (by intro _ _; exact rfl) ?_
          simp only [lay]
          refine tn 15 hS rfl ?_
          simp only [lay]
          refine tn 16 hS rfl ?_
          simp only [lay]
          refine tn 17 hS rfl ?_
          simp only [lay]
          refine tn 18 hS rfl ?_
          simp only [lay]
          refine tn 19 hS rfl ?_
          simp only [lay]
          refine tn 20 hS rfl ?_
          simp only [lay]
          refine tn 21 hS rfl ?_
          simp only [lay]
          refine tn 22 hS rfl ?_
          simp only [lay]
          refine tn 23 hS rfl ?_
          simp only [lay]
          refine tn 24 hS rfl ?_
          simp only [lay]
          refine te 25 (.bool false) hS rfl (by intro _ _; exact rfl) ?_
          simp only [lay]
          refine wpAnyH_done (by kernel_rfl) ?_ _
          go_wp2
          go_roundw
          case rel => exact ⟨k + N, f, by omega, by omega, hVn, by go_num, hB4.trans (hS.mono hB4.size)⟩
          case measure => simp [intOf]; omega
      case neg =>
      have hm1 : 0 < m := by omega
      obtain ⟨b2, off2, hA2, hb2, -⟩ := yD.row.at_ hm1
      subst hA2
      have d2 := yD.atO (k := 0) hm1
      rw [hx2] at d2
      by_cases hle : x2 ≤ 2 + (m : Int)
      case pos =>
        obtain rfl : V = true := by rw [← hVH2.out, if_pos (by simp [hk1, hm1, hle])]
        clear hV yD hx2 hpl hVH2
        rcases hk1 with rfl | rfl
        · go_wp2_with (refine wpList_store_row rfl 114 (.tmp 4) (.tmp 29) rfl w3.heap.size _ rfl rfl 114 _ hN opt_info rfl (by simp [kdV, Value.oneCell']) ?_)
          refine wp_region_held_drew (S := fun W => Below W4.heap.size W4 W) (by kernel_rfl) (below_drew _ _) (fun hS => ?_)
          refine te 0 (.pointer (some ⟨w3.heap.size, 0, none⟩)) hS rfl (by intro _ _; exact ex_field 0 0 (by exact rfl) Try.underlying114 (by exact rfl) rfl (by kernel_rfl) (by exact rfl)) ?_
          simp only [lay]
          refine te 1 (.int .u8 131) hS rfl (by intro _ h; exact ex_cell (by exact rfl) Try.underlying5 rfl (by exact rfl) ((h.cell (p := ⟨w3.heap.size, 0, none⟩) hGl).trans e0)) ?_
          simp only [lay]
          refine te 2 (.bool true) hS rfl (by intro _ _; exact eq_int_self (m := 131) (by exact rfl) (by exact rfl) (by exact rfl)) ?_
          simp only [lay]
          refine te 3 (.bool true) hS rfl (by intro _ _; exact rfl) ?_
          simp only [lay]
          refine tn 4 hS rfl ?_
          simp only [lay]
          refine tn 5 hS rfl ?_
          simp only [lay]
          refine tn 6 hS rfl ?_
          simp only [lay]
          refine te 7 (.bool true) hS rfl (by intro _ _; exact rfl) ?_
          simp only [lay]
          refine te 8 (.bool true) hS rfl (by intro _ _; exact rfl) ?_
          simp only [lay]
          refine te 9 (.pointer (some ⟨w3.heap.size, 1, none⟩)) hS rfl (by intro _ _; exact ex_field 1 0 (by exact rfl) Try.underlying114 (by exact rfl) rfl (by kernel_rfl) (by exact rfl)) ?_
          simp only [lay]
          refine te 10 (.slice (some ⟨b2, off2, none⟩) m pc) hS rfl (by intro _ h; exact ex_cell (by exact rfl) Try.underlying25 rfl (by exact rfl) ((h.cell (p := ⟨w3.heap.size, 1, none⟩) hGl).trans e1)) ?_
          simp only [lay]
          refine te 11 (.int .i64 (m : Int)) hS rfl (by intro _ _; exact ex_len (by exact rfl) Try.underlying25 (by exact rfl)) ?_
          simp only [lay]
          refine te 12 (.bool true) hS rfl (by intro _ _; exact ex_bin (by exact rfl) (by exact rfl) (by exact rfl) (by decide) (gtr_t _ _ _ (by omega) _)) ?_
          simp only [lay]
          refine te 13 (.bool true) hS rfl (by intro _ _; exact rfl) ?_
          simp only [lay]
          refine te 14 (.bool true) hS rfl (by intro _ _; exact rfl) ?_
          simp only [lay]
          refine te 15 (.pointer (some ⟨w3.heap.size, 1, none⟩)) hS rfl (by intro _ _; exact ex_field 1 0 (by exact rfl) Try.underlying114 (by exact rfl) rfl (by kernel_rfl) (by exact rfl)) ?_
          simp only [lay]
          refine te 16 (.slice (some ⟨b2, off2, none⟩) m pc) hS rfl (by intro _ h; exact ex_cell (by exact rfl) Try.underlying25 rfl (by exact rfl) ((h.cell (p := ⟨w3.heap.size, 1, none⟩) hGl).trans e1)) ?_
          simp only [lay]
          refine te 17 (.pointer (some ⟨b2, off2 + 0, none⟩)) hS rfl (by intro _ _; exact ex_index (by exact rfl) Try.underlying25 (by kernel_rfl) (by exact rfl) (by exact rfl) (by omega)) ?_
          simp only [lay]
          refine te 18 (.int .u8 x2) hS rfl (by intro _ h; exact ex_cell (by exact rfl) Try.underlying5 rfl (by exact rfl) ((h.cell (p := ⟨b2, off2 + 0, none⟩) hb2).trans d2)) ?_
          simp only [lay]
          refine te 19 (.int .i64 x2) hS rfl (by intro _ h; exact ex_conv (by exact rfl) (by exact rfl) (conv_i64 _ _ _ _ rfl rfl (by omega) _)) ?_
          simp only [lay]
          refine te 20 (.pointer (some ⟨w3.heap.size, 1, none⟩)) hS rfl (by intro _ _; exact ex_field 1 0 (by exact rfl) Try.underlying114 (by exact rfl) rfl (by kernel_rfl) (by exact rfl)) ?_
          simp only [lay]
          refine te 21 (.slice (some ⟨b2, off2, none⟩) m pc) hS rfl (by intro _ h; exact ex_cell (by exact rfl) Try.underlying25 rfl (by exact rfl) ((h.cell (p := ⟨w3.heap.size, 1, none⟩) hGl).trans e1)) ?_
          simp only [lay]
          refine te 22 (.int .i64 (m : Int)) hS rfl (by intro _ _; exact ex_len (by exact rfl) Try.underlying25 (by exact rfl)) ?_
          simp only [lay]
          refine te 23 (.int .i64 (2 + (m : Int))) hS rfl (by intro _ _; exact ex_bin (by exact rfl) (by exact rfl) (by exact rfl) (by decide) (add_i64r _ _ _ (by omega) _)) ?_
          simp only [lay]
          refine te 24 (.bool true) hS rfl (by intro _ _; exact ex_bin (by exact rfl) (by exact rfl) (by exact rfl) (by decide) (leq_t _ _ _ (by omega) _)) ?_
          simp only [lay]
          refine te 25 (.bool true) hS rfl (by intro _ _; exact rfl) ?_
          simp only [lay]
          refine wpAnyH_done (by kernel_rfl) ?_ _
          go_wp2
          go_ret
          exact ⟨rfl, hB4.trans (hS.mono hB4.size)⟩
        · go_wp2_with (refine wpList_store_row rfl 114 (.tmp 4) (.tmp 29) rfl w3.heap.size _ rfl rfl 114 _ hN opt_info rfl (by simp [kdV, Value.oneCell']) ?_)
          refine wp_region_held_drew (S := fun W => Below W4.heap.size W4 W) (by kernel_rfl) (below_drew _ _) (fun hS => ?_)
          refine te 0 (.pointer (some ⟨w3.heap.size, 0, none⟩)) hS rfl (by intro _ _; exact ex_field 0 0 (by exact rfl) Try.underlying114 (by exact rfl) rfl (by kernel_rfl) (by exact rfl)) ?_
          simp only [lay]
          refine te 1 (.int .u8 137) hS rfl (by intro _ h; exact ex_cell (by exact rfl) Try.underlying5 rfl (by exact rfl) ((h.cell (p := ⟨w3.heap.size, 0, none⟩) hGl).trans e0)) ?_
          simp only [lay]
          refine te 2 (.bool false) hS rfl (by intro _ _; exact eq_int_ne (by exact rfl) (by exact rfl) (by exact rfl) (by decide)) ?_
          simp only [lay]
          refine te 3 (.bool false) hS rfl (by intro _ _; exact rfl) ?_
          simp only [lay]
          refine te 4 (.pointer (some ⟨w3.heap.size, 0, none⟩)) hS rfl (by intro _ _; exact ex_field 0 0 (by exact rfl) Try.underlying114 (by exact rfl) rfl (by kernel_rfl) (by exact rfl)) ?_
          simp only [lay]
          refine te 5 (.int .u8 137) hS rfl (by intro _ h; exact ex_cell (by exact rfl) Try.underlying5 rfl (by exact rfl) ((h.cell (p := ⟨w3.heap.size, 0, none⟩) hGl).trans e0)) ?_
          simp only [lay]
          refine te 6 (.bool true) hS rfl (by intro _ _; exact eq_int_self (m := 137) (by exact rfl) (by exact rfl) (by exact rfl)) ?_
          simp only [lay]
          refine te 7 (.bool true) hS rfl (by intro _ _; exact rfl) ?_
          simp only [lay]
          refine te 8 (.bool true) hS rfl (by intro _ _; exact rfl) ?_
          simp only [lay]
          refine te 9 (.pointer (some ⟨w3.heap.size, 1, none⟩)) hS rfl (by intro _ _; exact ex_field 1 0 (by exact rfl) Try.underlying114 (by exact rfl) rfl (by kernel_rfl) (by exact rfl)) ?_
          simp only [lay]
          refine te 10 (.slice (some ⟨b2, off2, none⟩) m pc) hS rfl (by intro _ h; exact ex_cell (by exact rfl) Try.underlying25 rfl (by exact rfl) ((h.cell (p := ⟨w3.heap.size, 1, none⟩) hGl).trans e1)) ?_
          simp only [lay]
          refine te 11 (.int .i64 (m : Int)) hS rfl (by intro _ _; exact ex_len (by exact rfl) Try.underlying25 (by exact rfl)) ?_
          simp only [lay]
          refine te 12 (.bool true) hS rfl (by intro _ _; exact ex_bin (by exact rfl) (by exact rfl) (by exact rfl) (by decide) (gtr_t _ _ _ (by omega) _)) ?_
          simp only [lay]
          refine te 13 (.bool true) hS rfl (by intro _ _; exact rfl) ?_
          simp only [lay]
          refine te 14 (.bool true) hS rfl (by intro _ _; exact rfl) ?_
          simp only [lay]
          refine te 15 (.pointer (some ⟨w3.heap.size, 1, none⟩)) hS rfl (by intro _ _; exact ex_field 1 0 (by exact rfl) Try.underlying114 (by exact rfl) rfl (by kernel_rfl) (by exact rfl)) ?_
          simp only [lay]
          refine te 16 (.slice (some ⟨b2, off2, none⟩) m pc) hS rfl (by intro _ h; exact ex_cell (by exact rfl) Try.underlying25 rfl (by exact rfl) ((h.cell (p := ⟨w3.heap.size, 1, none⟩) hGl).trans e1)) ?_
          simp only [lay]
          refine te 17 (.pointer (some ⟨b2, off2 + 0, none⟩)) hS rfl (by intro _ _; exact ex_index (by exact rfl) Try.underlying25 (by kernel_rfl) (by exact rfl) (by exact rfl) (by omega)) ?_
          simp only [lay]
          refine te 18 (.int .u8 x2) hS rfl (by intro _ h; exact ex_cell (by exact rfl) Try.underlying5 rfl (by exact rfl) ((h.cell (p := ⟨b2, off2 + 0, none⟩) hb2).trans d2)) ?_
          simp only [lay]
          refine te 19 (.int .i64 x2) hS rfl (by intro _ h; exact ex_conv (by exact rfl) (by exact rfl) (conv_i64 _ _ _ _ rfl rfl (by omega) _)) ?_
          simp only [lay]
          refine te 20 (.pointer (some ⟨w3.heap.size, 1, none⟩)) hS rfl (by intro _ _; exact ex_field 1 0 (by exact rfl) Try.underlying114 (by exact rfl) rfl (by kernel_rfl) (by exact rfl)) ?_
          simp only [lay]
          refine te 21 (.slice (some ⟨b2, off2, none⟩) m pc) hS rfl (by intro _ h; exact ex_cell (by exact rfl) Try.underlying25 rfl (by exact rfl) ((h.cell (p := ⟨w3.heap.size, 1, none⟩) hGl).trans e1)) ?_
          simp only [lay]
          refine te 22 (.int .i64 (m : Int)) hS rfl (by intro _ _; exact ex_len (by exact rfl) Try.underlying25 (by exact rfl)) ?_
          simp only [lay]
          refine te 23 (.int .i64 (2 + (m : Int))) hS rfl (by intro _ _; exact ex_bin (by exact rfl) (by exact rfl) (by exact rfl) (by decide) (add_i64r _ _ _ (by omega) _)) ?_
          simp only [lay]
          refine te 24 (.bool true) hS rfl (by intro _ _; exact ex_bin (by exact rfl) (by exact rfl) (by exact rfl) (by decide) (leq_t _ _ _ (by omega) _)) ?_
          simp only [lay]
          refine te 25 (.bool true) hS rfl (by intro _ _; exact rfl) ?_
          simp only [lay]
          refine wpAnyH_done (by kernel_rfl) ?_ _
          go_wp2
          go_ret
          exact ⟨rfl, hB4.trans (hS.mono hB4.size)⟩
      case neg =>
        have hVn : Hid (routF l f (k + N) = V) := Lib.hid (by rw [← hVH2.out, if_neg (by simp [hle])])
        clear hV yD hx2 hpl hVH2
        rcases hk1 with rfl | rfl
        · go_wp2_with (refine wpList_store_row rfl 114 (.tmp 4) (.tmp 29) rfl w3.heap.size _ rfl rfl 114 _ hN opt_info rfl (by simp [kdV, Value.oneCell']) ?_)
          refine wp_region_held_drew (S := fun W => Below W4.heap.size W4 W) (by kernel_rfl) (below_drew _ _) (fun hS => ?_)
          refine te 0 (.pointer (some ⟨w3.heap.size, 0, none⟩)) hS rfl (by intro _ _; exact ex_field 0 0 (by exact rfl) Try.underlying114 (by exact rfl) rfl (by kernel_rfl) (by exact rfl)) ?_
          simp only [lay]
          refine te 1 (.int .u8 131) hS rfl (by intro _ h; exact ex_cell (by exact rfl) Try.underlying5 rfl (by exact rfl) ((h.cell (p := ⟨w3.heap.size, 0, none⟩) hGl).trans e0)) ?_
          simp only [lay]
          refine te 2 (.bool true) hS rfl (by intro _ _; exact eq_int_self (m := 131) (by exact rfl) (by exact rfl) (by exact rfl)) ?_
          simp only [lay]
          refine te 3 (.bool true) hS rfl (by intro _ _; exact rfl) ?_
          simp only [lay]
          refine tn 4 hS rfl ?_
          simp only [lay]
          refine tn 5 hS rfl ?_
          simp only [lay]
          refine tn 6 hS rfl ?_
          simp only [lay]
          refine te 7 (.bool true) hS rfl (by intro _ _; exact rfl) ?_
          simp only [lay]
          refine te 8 (.bool true) hS rfl (by intro _ _; exact rfl) ?_
          simp only [lay]
          refine te 9 (.pointer (some ⟨w3.heap.size, 1, none⟩)) hS rfl (by intro _ _; exact ex_field 1 0 (by exact rfl) Try.underlying114 (by exact rfl) rfl (by kernel_rfl) (by exact rfl)) ?_
          simp only [lay]
          refine te 10 (.slice (some ⟨b2, off2, none⟩) m pc) hS rfl (by intro _ h; exact ex_cell (by exact rfl) Try.underlying25 rfl (by exact rfl) ((h.cell (p := ⟨w3.heap.size, 1, none⟩) hGl).trans e1)) ?_
          simp only [lay]
          refine te 11 (.int .i64 (m : Int)) hS rfl (by intro _ _; exact ex_len (by exact rfl) Try.underlying25 (by exact rfl)) ?_
          simp only [lay]
          refine te 12 (.bool true) hS rfl (by intro _ _; exact ex_bin (by exact rfl) (by exact rfl) (by exact rfl) (by decide) (gtr_t _ _ _ (by omega) _)) ?_
          simp only [lay]
          refine te 13 (.bool true) hS rfl (by intro _ _; exact rfl) ?_
          simp only [lay]
          refine te 14 (.bool true) hS rfl (by intro _ _; exact rfl) ?_
          simp only [lay]
          refine te 15 (.pointer (some ⟨w3.heap.size, 1, none⟩)) hS rfl (by intro _ _; exact ex_field 1 0 (by exact rfl) Try.underlying114 (by exact rfl) rfl (by kernel_rfl) (by exact rfl)) ?_
          simp only [lay]
          refine te 16 (.slice (some ⟨b2, off2, none⟩) m pc) hS rfl (by intro _ h; exact ex_cell (by exact rfl) Try.underlying25 rfl (by exact rfl) ((h.cell (p := ⟨w3.heap.size, 1, none⟩) hGl).trans e1)) ?_
          simp only [lay]
          refine te 17 (.pointer (some ⟨b2, off2 + 0, none⟩)) hS rfl (by intro _ _; exact ex_index (by exact rfl) Try.underlying25 (by kernel_rfl) (by exact rfl) (by exact rfl) (by omega)) ?_
          simp only [lay]
          refine te 18 (.int .u8 x2) hS rfl (by intro _ h; exact ex_cell (by exact rfl) Try.underlying5 rfl (by exact rfl) ((h.cell (p := ⟨b2, off2 + 0, none⟩) hb2).trans d2)) ?_
          simp only [lay]
          refine te 19 (.int .i64 x2) hS rfl (by intro _ h; exact ex_conv (by exact rfl) (by exact rfl) (conv_i64 _ _ _ _ rfl rfl (by omega) _)) ?_
          simp only [lay]
          refine te 20 (.pointer (some ⟨w3.heap.size, 1, none⟩)) hS rfl (by intro _ _; exact ex_field 1 0 (by exact rfl) Try.underlying114 (by exact rfl) rfl (by kernel_rfl) (by exact rfl)) ?_
          simp only [lay]
          refine te 21 (.slice (some ⟨b2, off2, none⟩) m pc) hS rfl (by intro _ h; exact ex_cell (by exact rfl) Try.underlying25 rfl (by exact rfl) ((h.cell (p := ⟨w3.heap.size, 1, none⟩) hGl).trans e1)) ?_
          simp only [lay]
          refine te 22 (.int .i64 (m : Int)) hS rfl (by intro _ _; exact ex_len (by exact rfl) Try.underlying25 (by exact rfl)) ?_
          simp only [lay]
          refine te 23 (.int .i64 (2 + (m : Int))) hS rfl (by intro _ _; exact ex_bin (by exact rfl) (by exact rfl) (by exact rfl) (by decide) (add_i64r _ _ _ (by omega) _)) ?_
          simp only [lay]
          refine te 24 (.bool false) hS rfl (by intro _ _; exact ex_bin (by exact rfl) (by exact rfl) (by exact rfl) (by decide) (leq_f _ _ _ (by omega) _)) ?_
          simp only [lay]
          refine te 25 (.bool false) hS rfl (by intro _ _; exact rfl) ?_
          simp only [lay]
          refine wpAnyH_done (by kernel_rfl) ?_ _
          go_wp2
          go_roundw
          case rel => exact ⟨k + N, f, by omega, by omega, hVn, by go_num, hB4.trans (hS.mono hB4.size)⟩
          case measure => simp [intOf]; omega
        · go_wp2_with (refine wpList_store_row rfl 114 (.tmp 4) (.tmp 29) rfl w3.heap.size _ rfl rfl 114 _ hN opt_info rfl (by simp [kdV, Value.oneCell']) ?_)
          refine wp_region_held_drew (S := fun W => Below W4.heap.size W4 W) (by kernel_rfl) (below_drew _ _) (fun hS => ?_)
          refine te 0 (.pointer (some ⟨w3.heap.size, 0, none⟩)) hS rfl (by intro _ _; exact ex_field 0 0 (by exact rfl) Try.underlying114 (by exact rfl) rfl (by kernel_rfl) (by exact rfl)) ?_
          simp only [lay]
          refine te 1 (.int .u8 137) hS rfl (by intro _ h; exact ex_cell (by exact rfl) Try.underlying5 rfl (by exact rfl) ((h.cell (p := ⟨w3.heap.size, 0, none⟩) hGl).trans e0)) ?_
          simp only [lay]
          refine te 2 (.bool false) hS rfl (by intro _ _; exact eq_int_ne (by exact rfl) (by exact rfl) (by exact rfl) (by decide)) ?_
          simp only [lay]
          refine te 3 (.bool false) hS rfl (by intro _ _; exact rfl) ?_
          simp only [lay]
          refine te 4 (.pointer (some ⟨w3.heap.size, 0, none⟩)) hS rfl (by intro _ _; exact ex_field 0 0 (by exact rfl) Try.underlying114 (by exact rfl) rfl (by kernel_rfl) (by exact rfl)) ?_
          simp only [lay]
          refine te 5 (.int .u8 137) hS rfl (by intro _ h; exact ex_cell (by exact rfl) Try.underlying5 rfl (by exact rfl) ((h.cell (p := ⟨w3.heap.size, 0, none⟩) hGl).trans e0)) ?_
          simp only [lay]
          refine te 6 (.bool true) hS rfl (by intro _ _; exact eq_int_self (m := 137) (by exact rfl) (by exact rfl) (by exact rfl)) ?_
          simp only [lay]
          refine te 7 (.bool true) hS rfl (by intro _ _; exact rfl) ?_
          simp only [lay]
          refine te 8 (.bool true) hS rfl (by intro _ _; exact rfl) ?_
          simp only [lay]
          refine te 9 (.pointer (some ⟨w3.heap.size, 1, none⟩)) hS rfl (by intro _ _; exact ex_field 1 0 (by exact rfl) Try.underlying114 (by exact rfl) rfl (by kernel_rfl) (by exact rfl)) ?_
          simp only [lay]
          refine te 10 (.slice (some ⟨b2, off2, none⟩) m pc) hS rfl (by intro _ h; exact ex_cell (by exact rfl) Try.underlying25 rfl (by exact rfl) ((h.cell (p := ⟨w3.heap.size, 1, none⟩) hGl).trans e1)) ?_
          simp only [lay]
          refine te 11 (.int .i64 (m : Int)) hS rfl (by intro _ _; exact ex_len (by exact rfl) Try.underlying25 (by exact rfl)) ?_
          simp only [lay]
          refine te 12 (.bool true) hS rfl (by intro _ _; exact ex_bin (by exact rfl) (by exact rfl) (by exact rfl) (by decide) (gtr_t _ _ _ (by omega) _)) ?_
          simp only [lay]
          refine te 13 (.bool true) hS rfl (by intro _ _; exact rfl) ?_
          simp only [lay]
          refine te 14 (.bool true) hS rfl (by intro _ _; exact rfl) ?_
          simp only [lay]
          refine te 15 (.pointer (some ⟨w3.heap.size, 1, none⟩)) hS rfl (by intro _ _; exact ex_field 1 0 (by exact rfl) Try.underlying114 (by exact rfl) rfl (by kernel_rfl) (by exact rfl)) ?_
          simp only [lay]
          refine te 16 (.slice (some ⟨b2, off2, none⟩) m pc) hS rfl (by intro _ h; exact ex_cell (by exact rfl) Try.underlying25 rfl (by exact rfl) ((h.cell (p := ⟨w3.heap.size, 1, none⟩) hGl).trans e1)) ?_
          simp only [lay]
          refine te 17 (.pointer (some ⟨b2, off2 + 0, none⟩)) hS rfl (by intro _ _; exact ex_index (by exact rfl) Try.underlying25 (by kernel_rfl) (by exact rfl) (by exact rfl) (by omega)) ?_
          simp only [lay]
          refine te 18 (.int .u8 x2) hS rfl (by intro _ h; exact ex_cell (by exact rfl) Try.underlying5 rfl (by exact rfl) ((h.cell (p := ⟨b2, off2 + 0, none⟩) hb2).trans d2)) ?_
          simp only [lay]
          refine te 19 (.int .i64 x2) hS rfl (by intro _ h; exact ex_conv (by exact rfl) (by exact rfl) (conv_i64 _ _ _ _ rfl rfl (by omega) _)) ?_
          simp only [lay]
          refine te 20 (.pointer (some ⟨w3.heap.size, 1, none⟩)) hS rfl (by intro _ _; exact ex_field 1 0 (by exact rfl) Try.underlying114 (by exact rfl) rfl (by kernel_rfl) (by exact rfl)) ?_
          simp only [lay]
          refine te 21 (.slice (some ⟨b2, off2, none⟩) m pc) hS rfl (by intro _ h; exact ex_cell (by exact rfl) Try.underlying25 rfl (by exact rfl) ((h.cell (p := ⟨w3.heap.size, 1, none⟩) hGl).trans e1)) ?_
          simp only [lay]
          refine te 22 (.int .i64 (m : Int)) hS rfl (by intro _ _; exact ex_len (by exact rfl) Try.underlying25 (by exact rfl)) ?_
          simp only [lay]
          refine te 23 (.int .i64 (2 + (m : Int))) hS rfl (by intro _ _; exact ex_bin (by exact rfl) (by exact rfl) (by exact rfl) (by decide) (add_i64r _ _ _ (by omega) _)) ?_
          simp only [lay]
          refine te 24 (.bool false) hS rfl (by intro _ _; exact ex_bin (by exact rfl) (by exact rfl) (by exact rfl) (by decide) (leq_f _ _ _ (by omega) _)) ?_
          simp only [lay]
          refine te 25 (.bool false) hS rfl (by intro _ _; exact rfl) ?_
          simp only [lay]
          refine wpAnyH_done (by kernel_rfl) ?_ _
          go_wp2
          go_roundw
          case rel => exact ⟨k + N, f, by omega, by omega, hVn, by go_num, hB4.trans (hS.mono hB4.size)⟩
          case measure => simp [intOf]; omega
end Go.Proofs.Ytijnifbpbgckgaa
