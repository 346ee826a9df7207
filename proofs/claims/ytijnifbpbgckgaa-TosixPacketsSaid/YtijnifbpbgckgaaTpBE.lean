/-
  Lemmas and walks for the row of TosixPackets (part 31 of 45).
-/
import Derived.Test.YtijnifbpbgckgaaTpAD
import Derived.Test.YtijnifbpbgckgaaTpAF
import Derived.Test.YtijnifbpbgckgaaTpAV
import Derived.Test.YtijnifbpbgckgaaTpBD
set_option linter.unusedVariables false
set_option linter.unusedSimpArgs false
namespace Go.Proofs.Ytijnifbpbgckgaa
open Go.RowKit Go.Shelf

theorem optsF_small {l : List Int} (hin : InB l) : ∀ (f k : Nat) (acc : List (Int × List Int)), (∀ o ∈ acc, o.2.length ≤ 253) → ∀ o ∈ (optsF l f k acc).1, o.2.length ≤ 253
 | 0, k, acc, h => by simpa [optsF] using h
 | f + 1, k, acc, h => by
  rw [optsF]
  split
  ·exact h
  ·split
   ·exact optsF_small hin f (k + 1) acc h
   ·split
    ·exact h
    ·rename_i hb
     have hl := (optD_len hb).1
     have hr := getD_rng4 hin (k + 1)
     unfold optN at hl
     refine optsF_small hin f _ _ fun o ho => ?_
     rcases List.mem_append.1 ho with ho | ho
     ·exact h o ho
     ·rw [List.mem_singleton] at ho
      subst ho
      show (optD l k).length ≤ 253
      omega
set_option maxRecDepth 100000 in
set_option maxHeartbeats 2000000 in
theorem rrouted_any (A : Option Addr) (c : Nat) (l : List Int) (w : World) (y : By w.heap.size w A l.length c l) (hs : l.length ≤ 1048576) :
  Calls Try.prog 44 #[.slice A l.length c] w fun e w' => e = .returned (.bool (routOf l)) ∧ Below w.heap.size w w' := by
 have hro := Lib.hid (roptions_any A c l w y hs)
 have hVr := rout_of l
 have hsm : ∀ o ∈ (optsOf l).1, o.2.length ≤ 253 := optsF_small y.rng _ _ _ (fun o ho => by cases ho)
 generalize (optsOf l).2.1 = at_ at hro
 generalize (optsOf l).2.2 = err at hro
 generalize (optsOf l).1 = os at hro hVr hsm
 generalize routOf l = V at hVr ⊢
 have hVH := Lib.hid hVr
 have hsmH := Lib.hid hsm
 clear hVr y hs hsm
 go_enter Try.func44, Try.ntmps44
 go_wp2_with fail
 refine hro.out.mono ?_
 rintro e w1 ⟨v, ps, rfl, hps, hO, hb⟩
 obtain ⟨A1, c1, rfl, hK⟩ := hO.kds
 obtain ⟨M, hM⟩ : ∃ M, ps.length = M := ⟨_, rfl⟩
 rw [hM] at hK ⊢
 have hMc := Nat.le_trans hK.cap hK.big
 have hVn0 : Hid ((kdL (ps.drop 0)).any routOne = V) := Lib.hid (by rw [List.drop_zero, hps.out]; exact hVH.out)
 have hMH := Lib.hid hM
 have hsm2 : ∀ q ∈ ps, q.2.2.2.length ≤ 253 := fun q hq => hsmH.out (q.1, q.2.2.2) (by rw [← hps.out]; exact List.mem_map.2 ⟨q, hq, rfl⟩)
 have hsm2H := Lib.hid hsm2
 clear hO hps hM hsm2
 go_wp2
 go_loopw [6] (fun i wr => ∃ k : Nat, k ≤ M ∧ i = .int .i64 k ∧ Hid ((kdL (ps.drop k)).any routOne = V) ∧ Below w1.heap.size w1 wr) (fun i _ => M - (intOf i).toNat)
 case atStart => exact ⟨0, Nat.zero_le _, rfl, hVn0, Below.refl _ _⟩
 case round =>
  obtain ⟨k, hk, rfl, hV, hBr⟩ := hrel
  rename_i wr _
  by_cases hkM : k < M
  case neg =>
   have hge : ¬ ((k : Int) < (M : Int)) := by omega
   obtain rfl : V = false := by
    have := hV.out
    rw [List.drop_of_length_le (by rw [hMH.out]; omega)] at this
    exact this.symm
   clear hK hV
   go_wp2
   go_ret
   exact ⟨rfl, hb.trans (hBr.mono hb.size)⟩
  case pos =>
  have hkz : (k : Int) < (M : Int) := by omega
  obtain ⟨⟨pk, pA, pc, pl⟩, hp⟩ : ∃ p, ps[k]? = some p := ⟨ps[k]'(by rw [hMH.out]; exact hkM), List.getElem?_eq_getElem _⟩
  obtain ⟨b1, off1, hA1, hb1, e0, e1, hr1, hr2, yD⟩ := hK.at_ k _ hp
  subst hA1
  have hV2 := hV.out
  rw [kdL_any hp] at hV2
  dsimp only at e0 e1 yD hr1 hr2 hV2
  obtain ⟨m, hm⟩ : ∃ m, pl.length = m := ⟨_, rfl⟩
  obtain ⟨x2, hx2⟩ : ∃ x, pl.getD 0 0 = x := ⟨_, rfl⟩
  have hpl := yD.rng
  have r2 := getD_rng4 hpl 0
  have hroute : routOne (pk, pl) = decide ((pk = 131 ∨ pk = 137) ∧ 0 < m ∧ x2 ≤ 2 + m) := by rw [← hm, ← hx2]; rfl
  rw [hroute] at hV2
  unfold kdV at e1
  dsimp only at e1
  rw [hm] at e1 yD
  rw [hx2] at r2
  have hmb2 : m ≤ 253 := by rw [← hm]; exact hsm2H.out _ (List.mem_of_getElem? hp)
  have hVH2 := Lib.hid hV2
  clear hroute hm hV hV2 hK hp
  by_cases hk1 : pk = 131 ∨ pk = 137
  case neg =>
   have hVn : Hid ((kdL (ps.drop (k + 1))).any routOne = V) := Lib.hid (by rw [← hVH2.out]; simp [hk1])
   have hk2 : ¬ pk = 131 := fun h => hk1 (.inl h)
   have hk3 : ¬ pk = 137 := fun h => hk1 (.inr h)
   clear hk1 yD hx2 hpl hVH2
   go_wp2
   refine wp_region_held_drew (S := fun W => Below w1.heap.size w1 W) (by kernel_rfl) (hBr.trans (below_drew _ _)) (fun hS => ?_)
   refine te 0 (.slice (some ⟨b1, off1, none⟩) M c1) hS rfl (by intro _ _; exact rfl) ?_
   simp only [lay]
   refine te 1 (.int .i64 (k : Int)) hS rfl (by intro _ _; exact rfl) ?_
   simp only [lay]
   refine te 2 (.pointer (some ⟨b1, off1 + k * 2, none⟩)) hS rfl (by intro _ _; exact ex_index2 (by exact rfl) Try.underlying128 (by kernel_rfl) (by exact rfl) (by exact rfl) hkM) ?_
   simp only [lay]
   refine te 3 (.pointer (some ⟨b1, off1 + k * 2, none⟩)) hS rfl (by intro _ _; exact ex_field0 (by exact rfl) Try.underlying114 (by exact rfl) rfl (by kernel_rfl) (by exact rfl)) ?_
   simp only [lay]
   refine te 4 (.int .u8 pk) hS rfl (by intro _ h; exact ex_cell (by exact rfl) Try.underlying5 rfl (by exact rfl) ((h.cell (p := ⟨b1, off1 + k * 2, none⟩) hb1).trans e0)) ?_
   simp only [lay]
   refine te 5 (.bool false) hS rfl (by intro _ _; exact eq_int_ne (by exact rfl) (by exact rfl) (by exact rfl) hk2) ?_
   simp only [lay]
   refine te 6 (.bool false) hS rfl (by intro _ _; exact rfl) ?_
   simp only [lay]
   refine te 7 (.slice (some ⟨b1, off1, none⟩) M c1) hS rfl (by intro _ _; exact rfl) ?_
   simp only [lay]
   refine te 8 (.int .i64 (k : Int)) hS rfl (by intro _ _; exact rfl) ?_
   simp only [lay]
   refine te 9 (.pointer (some ⟨b1, off1 + k * 2, none⟩)) hS rfl (by intro _ _; exact ex_index2 (by exact rfl) Try.underlying128 (by kernel_rfl) (by exact rfl) (by exact rfl) hkM) ?_
   simp only [lay]
   refine te 10 (.pointer (some ⟨b1, off1 + k * 2, none⟩)) hS rfl (by intro _ _; exact ex_field0 (by exact rfl) Try.underlying114 (by exact rfl) rfl (by kernel_rfl) (by exact rfl)) ?_
   simp only [lay]
   refine te 11 (.int .u8 pk) hS rfl (by intro _ h; exact ex_cell (by exact rfl) Try.underlying5 rfl (by exact rfl) ((h.cell (p := ⟨b1, off1 + k * 2, none⟩) hb1).trans e0)) ?_
   simp only [lay]
   refine te 12 (.bool false) hS rfl (by intro _ _; exact eq_int_ne (by exact rfl) (by exact rfl) (by exact rfl) hk3) ?_
   simp only [lay]
   refine te 13 (.bool false) hS rfl (by intro _ _; exact rfl) ?_
   simp only [lay]
   refine te 14 (.bool false) hS rfl (by intro _ _; exact rfl) ?_
   simp only [lay]
   refine tn 15 hS rfl ?_
   simp only [lay]
   refine tn 16 hS rfl ?_
   simp only [lay]
   refine tn 17 hS rfl ?_
   simp only [lay]
   refine tn 18 hS rfl ?_
   simp only [lay]
   refine tn 19 hS rfl ?_
   simp only [lay]
   refine tn 20 hS rfl ?_
   simp only [lay]
   refine tn 21 hS rfl ?_
   simp only [lay]
   refine te 22 (.bool false) hS rfl (by intro _ _; exact rfl) ?_
   simp only [lay]
   refine te 23 (.bool false) hS rfl (by intro _ _; exact rfl) ?_
   simp only [lay]
   refine tn 24 hS rfl ?_
   simp only [lay]
   refine tn 25 hS rfl ?_
   simp only [lay]
   refine tn 26 hS rfl ?_
   simp only [lay]
   refine tn 27 hS rfl ?_
   simp only [lay]
   refine tn 28 hS rfl ?_
   simp only [lay]
   refine tn 29 hS rfl ?_
   simp only [lay]
   refine tn 30 hS rfl ?_
   simp only [lay]
   refine tn 31 hS rfl ?_
   simp only [lay]
   refine tn 32 hS rfl ?_
   simp only [lay]
   refine tn 33 hS rfl ?_
   simp only [lay]
   refine tn 34 hS rfl ?_
   simp only [lay]
   refine tn 35 hS rfl ?_
   simp only [lay]
   refine tn 36 hS rfl ?_
   simp only [lay]
   refine tn 37 hS rfl ?_
   simp only [lay]
   refine tn 38 hS rfl ?_
   simp only [lay]
   refine tn 39 hS rfl ?_
   simp only [lay]
   refine te 40 (.bool false) hS rfl (by intro _ _; exact rfl) ?_
   simp only [lay]
   refine wpAnyH_done (by kernel_rfl) ?_ _
   go_wp2
   go_roundw
   case rel => exact ⟨k + 1, by omega, by go_num, hVn, hS⟩
   case measure => simp [intOf]; omega
  case pos =>
  by_cases hm0 : m = 0
  case pos =>
   have hVn : Hid ((kdL (ps.drop (k + 1))).any routOne = V) := Lib.hid (by rw [← hVH2.out]; simp [hm0])
   clear yD hx2 hpl hVH2
   rcases hk1 with rfl | rfl
   ·go_wp2
    refine wp_region_held_drew (S := fun W => Below w1.heap.size w1 W) (by kernel_rfl) (hBr.trans (below_drew _ _)) (fun hS => ?_)
    refine te 0 (.slice (some ⟨b1, off1, none⟩) M c1) hS rfl (by intro _ _; exact rfl) ?_
    simp only [lay]
    refine te 1 (.int .i64 (k : Int)) hS rfl (by intro _ _; exact rfl) ?_
    simp only [lay]
    refine te 2 (.pointer (some ⟨b1, off1 + k * 2, none⟩)) hS rfl (by intro _ _; exact ex_index2 (by exact rfl) Try.underlying128 (by kernel_rfl) (by exact rfl) (by exact rfl) hkM) ?_
    simp only [lay]
    refine te 3 (.pointer (some ⟨b1, off1 + k * 2, none⟩)) hS rfl (by intro _ _; exact ex_field0 (by exact rfl) Try.underlying114 (by exact rfl) rfl (by kernel_rfl) (by exact rfl)) ?_
    simp only [lay]
    refine te 4 (.int .u8 131) hS rfl (by intro _ h; exact ex_cell (by exact rfl) Try.underlying5 rfl (by exact rfl) ((h.cell (p := ⟨b1, off1 + k * 2, none⟩) hb1).trans e0)) ?_
    simp only [lay]
    refine te 5 (.bool true) hS rfl (by intro _ _; exact eq_int_self (m := 131) (by exact rfl) (by exact rfl) (by exact rfl)) ?_
    simp only [lay]
    refine te 6 (.bool true) hS rfl (by intro _ _; exact rfl) ?_
    simp only [lay]
    refine tn 7 hS rfl ?_
    simp only [lay]
    refine tn 8 hS rfl ?_
    simp only [lay]
    refine tn 9 hS rfl ?_
    simp only [lay]
    refine tn 10 hS rfl ?_
    simp only [lay]
    refine tn 11 hS rfl ?_
    simp only [lay]
    refine tn 12 hS rfl ?_
    simp only [lay]
    refine te 13 (.bool true) hS rfl (by intro _ _; exact rfl) ?_
    simp only [lay]
    refine te 14 (.bool true) hS rfl (by intro _ _; exact rfl) ?_
    simp only [lay]
    refine te 15 (.slice (some ⟨b1, off1, none⟩) M c1) hS rfl (by intro _ _; exact rfl) ?_
    simp only [lay]
    refine te 16 (.int .i64 (k : Int)) hS rfl (by intro _ _; exact rfl) ?_
    simp only [lay]
    refine te 17 (.pointer (some ⟨b1, off1 + k * 2, none⟩)) hS rfl (by intro _ _; exact ex_index2 (by exact rfl) Try.underlying128 (by kernel_rfl) (by exact rfl) (by exact rfl) hkM) ?_
    simp only [lay]
    refine te 18 (.pointer (some ⟨b1, off1 + k * 2 + 1, none⟩)) hS rfl (by intro _ _; exact ex_field1 (by exact rfl) Try.underlying114 (by exact rfl) rfl (by kernel_rfl) (by exact rfl)) ?_
    simp only [lay]
    refine te 19 (.slice pA m pc) hS rfl (by intro _ h; exact ex_cell (by exact rfl) Try.underlying25 rfl (by exact rfl) ((h.cell (p := ⟨b1, off1 + k * 2 + 1, none⟩) hb1).trans e1)) ?_
    simp only [lay]
    refine te 20 (.int .i64 (m : Int)) hS rfl (by intro _ _; exact ex_len (by exact rfl) Try.underlying25 (by exact rfl)) ?_
    simp only [lay]
    refine te 21 (.bool false) hS rfl (by intro _ _; exact ex_bin (by exact rfl) (by exact rfl) (by exact rfl) (by decide) (gtr_f _ _ _ (by omega) _)) ?_
    simp only [lay]
    refine te 22 (.bool false) hS rfl (by intro _ _; exact rfl) ?_
    simp only [lay]
    refine te 23 (.bool false) hS rfl (by intro _ _; exact rfl) ?_
    simp only [lay]
    refine tn 24 hS rfl ?_
    simp only [lay]
    refine tn 25 hS rfl ?_
    simp only [lay]
    refine tn 26 hS rfl ?_
    simp only [lay]
    refine tn 27 hS rfl ?_
    simp only [lay]
    refine tn 28 hS rfl ?_
    simp only [lay]
    refine tn 29 hS rfl ?_
    simp only [lay]
    refine tn 30 hS rfl ?_
    simp only [lay]
    refine tn 31 hS rfl ?_
    simp only [lay]
    refine tn 32 hS rfl ?_
    simp only [lay]
    refine tn 33 hS rfl ?_
    simp only [lay]
    refine tn 34 hS rfl ?_
    simp only [lay]
    refine tn 35 hS rfl ?_
    simp only [lay]
    refine tn 36 hS rfl ?_
    simp only [lay]
    refine tn 37 hS rfl ?_
    simp only [lay]
    refine tn 38 hS rfl ?_
    simp only [lay]
    refine tn 39 hS rfl ?_
    simp only [lay]
    refine te 40 (.bool false) hS rfl (by intro _ _; exact rfl) ?_
    simp only [lay]
    refine wpAnyH_done (by kernel_rfl) ?_ _
    go_wp2
    go_roundw
    case rel => exact ⟨k + 1, by omega, by go_num, hVn, hS⟩
    case measure => simp [intOf]; omega
   ·go_wp2
    refine wp_region_held_drew (S := fun W => Below w1.heap.size w1 W) (by kernel_rfl) (hBr.trans (below_drew _ _)) (fun hS => ?_)
    refine te 0 (.slice (some ⟨b1, off1, none⟩) M c1) hS rfl (by intro _ _; exact rfl) ?_
    simp only [lay]
    refine te 1 (.int .i64 (k : Int)) hS rfl (by intro _ _; exact rfl) ?_
    simp only [lay]
    refine te 2 (.pointer (some ⟨b1, off1 + k * 2, none⟩)) hS rfl (by intro _ _; exact ex_index2 (by exact rfl) Try.underlying128 (by kernel_rfl) (by exact rfl) (by exact rfl) hkM) ?_
    simp only [lay]
    refine te 3 (.pointer (some ⟨b1, off1 + k * 2, none⟩)) hS rfl (by intro _ _; exact ex_field0 (by exact rfl) Try.underlying114 (by exact rfl) rfl (by kernel_rfl) (by exact rfl)) ?_
    simp only [lay]
    refine te 4 (.int .u8 137) hS rfl (by intro _ h; exact ex_cell (by exact rfl) Try.underlying5 rfl (by exact rfl) ((h.cell (p := ⟨b1, off1 + k * 2, none⟩) hb1).trans e0)) ?_
    simp only [lay]
    refine te 5 (.bool false) hS rfl (by intro _ _; exact eq_int_ne (by exact rfl) (by exact rfl) (by exact rfl) (by decide)) ?_
    simp only [lay]
    refine te 6 (.bool false) hS rfl (by intro _ _; exact rfl) ?_
    simp only [lay]
    refine te 7 (.slice (some ⟨b1, off1, none⟩) M c1) hS rfl (by intro _ _; exact rfl) ?_
    simp only [lay]
    refine te 8 (.int .i64 (k : Int)) hS rfl (by intro _ _; exact rfl) ?_
    simp only [lay]
    refine te 9 (.pointer (some ⟨b1, off1 + k * 2, none⟩)) hS rfl (by intro _ _; exact ex_index2 (by exact rfl) Try.underlying128 (by kernel_rfl) (by exact rfl) (by exact rfl) hkM) ?_
    simp only [lay]
    refine te 10 (.pointer (some ⟨b1, off1 + k * 2, none⟩)) hS rfl (by intro _ _; exact ex_field0 (by exact rfl) Try.underlying114 (by exact rfl) rfl (by kernel_rfl) (by exact rfl)) ?_
    simp only [lay]
    refine te 11 (.int .u8 137) hS rfl (by intro _ h; exact ex_cell (by exact rfl) Try.underlying5 rfl (by exact rfl) ((h.cell (p := ⟨b1, off1 + k * 2, none⟩) hb1).trans e0)) ?_
    simp only [lay]
    refine te 12 (.bool true) hS rfl (by intro _ _; exact eq_int_self (m := 137) (by exact rfl) (by exact rfl) (by exact rfl)) ?_
    simp only [lay]
    refine te 13 (.bool true) hS rfl (by intro _ _; exact rfl) ?_
    simp only [lay]
    refine te 14 (.bool true) hS rfl (by intro _ _; exact rfl) ?_
    simp only [lay]
    refine te 15 (.slice (some ⟨b1, off1, none⟩) M c1) hS rfl (by intro _ _; exact rfl) ?_
    simp only [lay]
    refine te 16 (.int .i64 (k : Int)) hS rfl (by intro _ _; exact rfl) ?_
    simp only [lay]
    refine te 17 (.pointer (some ⟨b1, off1 + k * 2, none⟩)) hS rfl (by intro _ _; exact ex_index2 (by exact rfl) Try.underlying128 (by kernel_rfl) (by exact rfl) (by exact rfl) hkM) ?_
    simp only [lay]
    refine te 18 (.pointer (some ⟨b1, off1 + k * 2 + 1, none⟩)) hS rfl (by intro _ _; exact ex_field1 (by exact rfl) Try.underlying114 (by exact rfl) rfl (by kernel_rfl) (by exact rfl)) ?_
    simp only [lay]
    refine te 19 (.slice pA m pc) hS rfl (by intro _ h; exact ex_cell (by exact rfl) Try.underlying25 rfl (by exact rfl) ((h.cell (p := ⟨b1, off1 + k * 2 + 1, none⟩) hb1).trans e1)) ?_
    simp only [lay]
    refine te 20 (.int .i64 (m : Int)) hS rfl (by intro _ _; exact ex_len (by exact rfl) Try.underlying25 (by exact rfl)) ?_
    simp only [lay]
    refine te 21 (.bool false) hS rfl (by intro _ _; exact ex_bin (by exact rfl) (by exact rfl) (by exact rfl) (by decide) (gtr_f _ _ _ (by omega) _)) ?_
    simp only [lay]
    refine te 22 (.bool false) hS rfl (by intro _ _; exact rfl) ?_
    simp only [lay]
    refine te 23 (.bool false) hS rfl (by intro _ _; exact rfl) ?_
    simp only [lay]
    refine tn 24 hS rfl ?_
    simp only [lay]
    refine tn 25 hS rfl ?_
    simp only [lay]
    refine tn 26 hS rfl ?_
    simp only [lay]
    refine tn 27 hS rfl ?_
    simp only [lay]
    refine tn 28 hS rfl ?_
    simp only [lay]
    refine tn 29 hS rfl ?_
    simp only [lay]
    refine tn 30 hS rfl ?_
    simp only [lay]
    refine tn 31 hS rfl ?_
    simp only [lay]
    refine tn 32 hS rfl ?_
    simp only [lay]
    refine tn 33 hS rfl ?_
    simp only [lay]
    refine tn 34 hS rfl ?_
    simp only [lay]
    refine tn 35 hS rfl ?_
    simp only [lay]
    refine tn 36 hS rfl ?_
    simp only [lay]
    refine tn 37 hS rfl ?_
    simp only [lay]
    refine tn 38 hS rfl ?_
    simp only [lay]
    refine tn 39 hS rfl ?_
    simp only [lay]
    refine te 40 (.bool false) hS rfl (by intro _ _; exact rfl) ?_
    simp only [lay]
    refine wpAnyH_done (by kernel_rfl) ?_ _
    go_wp2
    go_roundw
    case rel => exact ⟨k + 1, by omega, by go_num, hVn, hS⟩
    case measure => simp [intOf]; omega
  have hm1 : 0 < m := by omega
  obtain ⟨b2, off2, hA2, hb2, -⟩ := yD.row.at_ hm1
  subst hA2
  have d2 := yD.atO (k := 0) hm1
  rw [hx2] at d2
  by_cases hle : x2 ≤ 2 + (m : Int)
  case pos =>
   obtain rfl : V = true := by rw [← hVH2.out]; simp [hk1, hm1, hle]
   clear yD hx2 hpl hVH2
   rcases hk1 with rfl | rfl
   ·go_wp2
    refine wp_region_held_drew (S := fun W => Below w1.heap.size w1 W) (by kernel_rfl) (hBr.trans (below_drew _ _)) (fun hS => ?_)
    refine te 0 (.slice (some ⟨b1, off1, none⟩) M c1) hS rfl (by intro _ _; exact rfl) ?_
    simp only [lay]
    refine te 1 (.int .i64 (k : Int)) hS rfl (by intro _ _; exact rfl) ?_
    simp only [lay]
    refine te 2 (.pointer (some ⟨b1, off1 + k * 2, none⟩)) hS rfl (by intro _ _; exact ex_index2 (by exact rfl) Try.underlying128 (by kernel_rfl) (by exact rfl) (by exact rfl) hkM) ?_
    simp only [lay]
    refine te 3 (.pointer (some ⟨b1, off1 + k * 2, none⟩)) hS rfl (by intro _ _; exact ex_field0 (by exact rfl) Try.underlying114 (by exact rfl) rfl (by kernel_rfl) (by exact rfl)) ?_
    simp only [lay]
    refine te 4 (.int .u8 131) hS rfl (by intro _ h; exact ex_cell (by exact rfl) Try.underlying5 rfl (by exact rfl) ((h.cell (p := ⟨b1, off1 + k * 2, none⟩) hb1).trans e0)) ?_
    simp only [lay]
    refine te 5 (.bool true) hS rfl (by intro _ _; exact eq_int_self (m := 131) (by exact rfl) (by exact rfl) (by exact rfl)) ?_
    simp only [lay]
    refine te 6 (.bool true) hS rfl (by intro _ _; exact rfl) ?_
    simp only [lay]
    refine tn 7 hS rfl ?_
    simp only [lay]
    refine tn 8 hS rfl ?_
    simp only [lay]
    refine tn 9 hS rfl ?_
    simp only [lay]
    refine tn 10 hS rfl ?_
    simp only [lay]
    refine tn 11 hS rfl ?_
    simp only [lay]
    refine tn 12 hS rfl ?_
    simp only [lay]
    refine te 13 (.bool true) hS rfl (by intro _ _; exact rfl) ?_
    simp only [lay]
    refine te 14 (.bool true) hS rfl (by intro _ _; exact rfl) ?_
    simp only [lay]
    refine te 15 (.slice (some ⟨b1, off1, none⟩) M c1) hS rfl (by intro _ _; exact rfl) ?_
    simp only [lay]
    refine te 16 (.int .i64 (k : Int)) hS rfl (by intro _ _; exact rfl) ?_
    simp only [lay]
    refine te 17 (.pointer (some ⟨b1, off1 + k * 2, none⟩)) hS rfl (by intro _ _; exact ex_index2 (by exact rfl) Try.underlying128 (by kernel_rfl) (by exact rfl) (by exact rfl) hkM) ?_
    simp only [lay]
    refine te 18 (.pointer (some ⟨b1, off1 + k * 2 + 1, none⟩)) hS rfl (by intro _ _; exact ex_field1 (by exact rfl) Try.underlying114 (by exact rfl) rfl (by kernel_rfl) (by exact rfl)) ?_
    simp only [lay]
    refine te 19 (.slice (some ⟨b2, off2, none⟩) m pc) hS rfl (by intro _ h; exact ex_cell (by exact rfl) Try.underlying25 rfl (by exact rfl) ((h.cell (p := ⟨b1, off1 + k * 2 + 1, none⟩) hb1).trans e1)) ?_
    simp only [lay]
    refine te 20 (.int .i64 (m : Int)) hS rfl (by intro _ _; exact ex_len (by exact rfl) Try.underlying25 (by exact rfl)) ?_
    simp only [lay]
    refine te 21 (.bool true) hS rfl (by intro _ _; exact ex_bin (by exact rfl) (by exact rfl) (by exact rfl) (by decide) (gtr_t _ _ _ (by omega) _)) ?_
    simp only [lay]
    refine te 22 (.bool true) hS rfl (by intro _ _; exact rfl) ?_
    simp only [lay]
    refine te 23 (.bool true) hS rfl (by intro _ _; exact rfl) ?_
    simp only [lay]
    refine te 24 (.slice (some ⟨b1, off1, none⟩) M c1) hS rfl (by intro _ _; exact rfl) ?_
    simp only [lay]
    refine te 25 (.int .i64 (k : Int)) hS rfl (by intro _ _; exact rfl) ?_
    simp only [lay]
    refine te 26 (.pointer (some ⟨b1, off1 + k * 2, none⟩)) hS rfl (by intro _ _; exact ex_index2 (by exact rfl) Try.underlying128 (by kernel_rfl) (by exact rfl) (by exact rfl) hkM) ?_
    simp only [lay]
    refine te 27 (.pointer (some ⟨b1, off1 + k * 2 + 1, none⟩)) hS rfl (by intro _ _; exact ex_field1 (by exact rfl) Try.underlying114 (by exact rfl) rfl (by kernel_rfl) (by exact rfl)) ?_
    simp only [lay]
    refine te 28 (.slice (some ⟨b2, off2, none⟩) m pc) hS rfl (by intro _ h; exact ex_cell (by exact rfl) Try.underlying25 rfl (by exact rfl) ((h.cell (p := ⟨b1, off1 + k * 2 + 1, none⟩) hb1).trans e1)) ?_
    simp only [lay]
    refine te 29 (.pointer (some ⟨b2, off2 + 0, none⟩)) hS rfl (by intro _ _; exact ex_index (by exact rfl) Try.underlying25 (by kernel_rfl) (by exact rfl) (by exact rfl) (by omega)) ?_
    simp only [lay]
    refine te 30 (.int .u8 x2) hS rfl (by intro _ h; exact ex_cell (by exact rfl) Try.underlying5 rfl (by exact rfl) ((h.cell (p := ⟨b2, off2 + 0, none⟩) hb2).trans d2)) ?_
    simp only [lay]
    refine te 31 (.int .i64 x2) hS rfl (by intro _ h; exact ex_conv (by exact rfl) (by exact rfl) (conv_i64 _ _ _ _ rfl rfl (by omega) _)) ?_
    simp only [lay]
    refine te 32 (.slice (some ⟨b1, off1, none⟩) M c1) hS rfl (by intro _ _; exact rfl) ?_
    simp only [lay]
    refine te 33 (.int .i64 (k : Int)) hS rfl (by intro _ _; exact rfl) ?_
    simp only [lay]
    refine te 34 (.pointer (some ⟨b1, off1 + k * 2, none⟩)) hS rfl (by intro _ _; exact ex_index2 (by exact rfl) Try.underlying128 (by kernel_rfl) (by exact rfl) (by exact rfl) hkM) ?_
    simp only [lay]
    refine te 35 (.pointer (some ⟨b1, off1 + k * 2 + 1, none⟩)) hS rfl (by intro _ _; exact ex_field1 (by exact rfl) Try.underlying114 (by exact rfl) rfl (by kernel_rfl) (by exact rfl)) ?_
    simp only [lay]
    refine te 36 (.slice (some ⟨b2, off2, none⟩) m pc) hS rfl (by intro _ h; exact ex_cell (by exact rfl) Try.underlying25 rfl (by exact rfl) ((h.cell (p := ⟨b1, off1 + k * 2 + 1, none⟩) hb1).trans e1)) ?_
    simp only [lay]
    refine te 37 (.int .i64 (m : Int)) hS rfl (by intro _ _; exact ex_len (by exact rfl) Try.underlying25 (by exact rfl)) ?_
    simp only [lay]
    refine te 38 (.int .i64 (2 + (m : Int))) hS rfl (by intro _ _; exact ex_bin (by exact rfl) (by exact rfl) (by exact rfl) (by decide) (add_i64r _ _ _ (by omega) _)) ?_
    simp only [lay]
    refine te 39 (.bool true) hS rfl (by intro _ _; exact ex_bin (by exact rfl) (by exact rfl) (by exact rfl) (by decide) (leq_t _ _ _ (by omega) _)) ?_
    simp only [lay]
    refine te 40 (.bool true) hS rfl (by intro _ _; exact rfl) ?_
    simp only [lay]
    refine wpAnyH_done (by kernel_rfl) ?_ _
    go_wp2
    go_ret
    exact ⟨rfl, hb.trans (hS.mono hb.size)⟩
   ·go_wp2
    refine wp_region_held_drew (S := fun W => Below w1.heap.size w1 W) (by kernel_rfl) (hBr.trans (below_drew _ _)) (fun hS => ?_)
    refine te 0 (.slice (some ⟨b1, off1, none⟩) M c1) hS rfl (by intro _ _; exact rfl) ?_
    simp only [lay]
    refine te 1 (.int .i64 (k : Int)) hS rfl (by intro _ _; exact rfl) ?_
    simp only [lay]
    refine te 2 (.pointer (some ⟨b1, off1 + k * 2, none⟩)) hS rfl (by intro _ _; exact ex_index2 (by exact rfl) Try.underlying128 (by kernel_rfl) (by exact rfl) (by exact rfl) hkM) ?_
    simp only [lay]
    refine te 3 (.pointer (some ⟨b1, off1 + k * 2, none⟩)) hS rfl (by intro _ _; exact ex_field0 (by exact rfl) Try.underlying114 (by exact rfl) rfl (by kernel_rfl) (by exact rfl)) ?_
    simp only [lay]
    refine te 4 (.int .u8 137) hS rfl (by intro _ h; exact ex_cell (by exact rfl) Try.underlying5 rfl (by exact rfl) ((h.cell (p := ⟨b1, off1 + k * 2, none⟩) hb1).trans e0)) ?_
    simp only [lay]
    refine te 5 (.bool false) hS rfl (by intro _ _; exact eq_int_ne (by exact rfl) (by exact rfl) (by exact rfl) (by decide)) ?_
    simp only [lay]
    refine te 6 (.bool false) hS rfl (by intro _ _; exact rfl) ?_
    simp only [lay]
    refine te 7 (.slice (some ⟨b1, off1, none⟩) M c1) hS rfl (by intro _ _; exact rfl) ?_
    simp only [lay]
    refine te 8 (.int .i64 (k : Int)) hS rfl (by intro _ _; exact rfl) ?_
    simp only [lay]
    refine te 9 (.pointer (some ⟨b1, off1 + k * 2, none⟩)) hS rfl (by intro _ _; exact ex_index2 (by exact rfl) Try.underlying128 (by kernel_rfl) (by exact rfl) (by exact rfl) hkM) ?_
    simp only [lay]
    refine te 10 (.pointer (some ⟨b1, off1 + k * 2, none⟩)) hS rfl (by intro _ _; exact ex_field0 (by exact rfl) Try.underlying114 (by exact rfl) rfl (by kernel_rfl) (by exact rfl)) ?_
    simp only [lay]
    refine te 11 (.int .u8 137) hS rfl (by intro _ h; exact ex_cell (by exact rfl) Try.underlying5 rfl (by exact rfl) ((h.cell (p := ⟨b1, off1 + k * 2, none⟩) hb1).trans e0)) ?_
    simp only [lay]
    refine te 12 (.bool true) hS rfl (by intro _ _; exact eq_int_self (m := 137) (by exact rfl) (by exact rfl) (by exact rfl)) ?_
    simp only [lay]
    refine te 13 (.bool true) hS rfl (by intro _ _; exact rfl) ?_
    simp only [lay]
    refine te 14 (.bool true) hS rfl (by intro _ _; exact rfl) ?_
    simp only [lay]
    refine te 15 (.slice (some ⟨b1, off1, none⟩) M c1) hS rfl (by intro _ _; exact rfl) ?_
    simp only [lay]
    refine te 16 (.int .i64 (k : Int)) hS rfl (by intro _ _; exact rfl) ?_
    simp only [lay]
    refine te 17 (.pointer (some ⟨b1, off1 + k * 2, none⟩)) hS rfl (by intro _ _; exact ex_index2 (by exact rfl) Try.underlying128 (by kernel_rfl) (by exact rfl) (by exact rfl) hkM) ?_
    simp only [lay]
    refine te 18 (.pointer (some ⟨b1, off1 + k * 2 + 1, none⟩)) hS rfl (by intro _ _; exact ex_field1 (by exact rfl) Try.underlying114 (by exact rfl) rfl (by kernel_rfl) (by exact rfl)) ?_
    simp only [lay]
    refine te 19 (.slice (some ⟨b2, off2, none⟩) m pc) hS rfl (by intro _ h; exact ex_cell (by exact rfl) Try.underlying25 rfl (by exact rfl) ((h.cell (p := ⟨b1, off1 + k * 2 + 1, none⟩) hb1).trans e1)) ?_
    simp only [lay]
    refine te 20 (.int .i64 (m : Int)) hS rfl (by intro _ _; exact ex_len (by exact rfl) Try.underlying25 (by exact rfl)) ?_
    simp only [lay]
    refine te 21 (.bool true) hS rfl (by intro _ _; exact ex_bin (by exact rfl) (by exact rfl) (by exact rfl) (by decide) (gtr_t _ _ _ (by omega) _)) ?_
    simp only [lay]
    refine te 22 (.bool true) hS rfl (by intro _ _; exact rfl) ?_
    simp only [lay]
    refine te 23 (.bool true) hS rfl (by intro _ _; exact rfl) ?_
    simp only [lay]
    refine te 24 (.slice (some ⟨b1, off1, none⟩) M c1) hS rfl (by intro _ _; exact rfl) ?_
    simp only [lay]
    refine te 25 (.int .i64 (k : Int)) hS rfl (by intro _ _; exact rfl) ?_
    simp only [lay]
    refine te 26 (.pointer (some ⟨b1, off1 + k * 2, none⟩)) hS rfl (by intro _ _; exact ex_index2 (by exact rfl) Try.underlying128 (by kernel_rfl) (by exact rfl) (by exact rfl) hkM) ?_
    simp only [lay]
    refine te 27 (.pointer (some ⟨b1, off1 + k * 2 + 1, none⟩)) hS rfl (by intro _ _; exact ex_field1 (by exact rfl) Try.underlying114 (by exact rfl) rfl (by kernel_rfl) (by exact rfl)) ?_
    simp only [lay]
    refine te 28 (.slice (some ⟨b2, off2, none⟩) m pc) hS rfl (by intro _ h; exact ex_cell (by exact rfl) Try.underlying25 rfl (by exact rfl) ((h.cell (p := ⟨b1, off1 + k * 2 + 1, none⟩) hb1).trans e1)) ?_
    simp only [lay]
    refine te 29 (.pointer (some ⟨b2, off2 + 0, none⟩)) hS rfl (by intro _ _; exact ex_index (by exact rfl) Try.underlying25 (by kernel_rfl) (by exact rfl) (by exact rfl) (by omega)) ?_
    simp only [lay]
    refine te 30 (.int .u8 x2) hS rfl (by intro _ h; exact ex_cell (by exact rfl) Try.underlying5 rfl (by exact rfl) ((h.cell (p := ⟨b2, off2 + 0, none⟩) hb2).trans d2)) ?_
    simp only [lay]
    refine te 31 (.int .i64 x2) hS rfl (by intro _ h; exact ex_conv (by exact rfl) (by exact rfl) (conv_i64 _ _ _ _ rfl rfl (by omega) _)) ?_
    simp only [lay]
    refine te 32 (.slice (some ⟨b1, off1, none⟩) M c1) hS rfl (by intro _ _; exact rfl) ?_
    simp only [lay]
    refine te 33 (.int .i64 (k : Int)) hS rfl (by intro _ _; exact rfl) ?_
    simp only [lay]
    refine te 34 (.pointer (some ⟨b1, off1 + k * 2, none⟩)) hS rfl (by intro _ _; exact ex_index2 (by exact rfl) Try.underlying128 (by kernel_rfl) (by exact rfl) (by exact rfl) hkM) ?_
    simp only [lay]
    refine te 35 (.pointer (some ⟨b1, off1 + k * 2 + 1, none⟩)) hS rfl (by intro _ _; exact ex_field1 (by exact rfl) Try.underlying114 (by exact rfl) rfl (by kernel_rfl) (by exact rfl)) ?_
    simp only [lay]
    refine te 36 (.slice (some ⟨b2, off2, none⟩) m pc) hS rfl (by intro _ h; exact ex_cell (by exact rfl) Try.underlying25 rfl (by exact rfl) ((h.cell (p := ⟨b1, off1 + k * 2 + 1, none⟩) hb1).trans e1)) ?_
    simp only [lay]
    refine te 37 (.int .i64 (m : Int)) hS rfl (by intro _ _; exact ex_len (by exact rfl) Try.underlying25 (by exact rfl)) ?_
    simp only [lay]
    refine te 38 (.int .i64 (2 + (m : Int))) hS rfl (by intro _ _; exact ex_bin (by exact rfl) (by exact rfl) (by exact rfl) (by decide) (add_i64r _ _ _ (by omega) _)) ?_
    simp only [lay]
    refine te 39 (.bool true) hS rfl (by intro _ _; exact ex_bin (by exact rfl) (by exact rfl) (by exact rfl) (by decide) (leq_t _ _ _ (by omega) _)) ?_
    simp only [lay]
    refine te 40 (.bool true) hS rfl (by intro _ _; exact rfl) ?_
    simp only [lay]
    refine wpAnyH_done (by kernel_rfl) ?_ _
    go_wp2
    go_ret
    exact ⟨rfl, hb.trans (hS.mono hb.size)⟩
  have hVn : Hid ((kdL (ps.drop (k + 1))).any routOne = V) := Lib.hid (by rw [← hVH2.out]; simp [hle])
  clear yD hx2 hpl hVH2
  rcases hk1 with rfl | rfl
  ·go_wp2
   refine wp_region_held_drew (S := fun W => Below w1.heap.size w1 W) (by kernel_rfl) (hBr.trans (below_drew _ _)) (fun hS => ?_)
   refine te 0 (.slice (some ⟨b1, off1, none⟩) M c1) hS rfl (by intro _ _; exact rfl) ?_
   simp only [lay]
   refine te 1 (.int .i64 (k : Int)) hS rfl (by intro _ _; exact rfl) ?_
   simp only [lay]
   refine te 2 (.pointer (some ⟨b1, off1 + k * 2, none⟩)) hS rfl (by intro _ _; exact ex_index2 (by exact rfl) Try.underlying128 (by kernel_rfl) (by exact rfl) (by exact rfl) hkM) ?_
   simp only [lay]
   refine te 3 (.pointer (some ⟨b1, off1 + k * 2, none⟩)) hS rfl (by intro _ _; exact ex_field0 (by exact rfl) Try.underlying114 (by exact rfl) rfl (by kernel_rfl) (by exact rfl)) ?_
   simp only [lay]
   refine te 4 (.int .u8 131) hS rfl (by intro _ h; exact ex_cell (by exact rfl) Try.underlying5 rfl (by exact rfl) ((h.cell (p := ⟨b1, off1 + k * 2, none⟩) hb1).trans e0)) ?_
   simp only [lay]
   refine te 5 (.bool true) hS rfl (by intro _ _; exact eq_int_self (m := 131) (by exact rfl) (by exact rfl) (by exact rfl)) ?_
   simp only [lay]
   refine te 6 (.bool true) hS rfl (by intro _ _; exact rfl) ?_
   simp only [lay]
   refine tn 7 hS rfl ?_
   simp only [lay]
   refine tn 8 hS rfl ?_
   simp only [lay]
   refine tn 9 hS rfl ?_
   simp only [lay]
   refine tn 10 hS rfl ?_
   simp only [lay]
   refine tn 11 hS rfl ?_
   simp only [lay]
   refine tn 12 hS rfl ?_
   simp only [lay]
   refine te 13 (.bool true) hS rfl (by intro _ _; exact rfl) ?_
   simp only [lay]
   refine te 14 (.bool true) hS rfl (by intro _ _; exact rfl) ?_
   simp only [lay]
   refine te 15 (.slice (some ⟨b1, off1, none⟩) M c1) hS rfl (by intro _ _; exact rfl) ?_
   simp only [lay]
   refine te 16 (.int .i64 (k : Int)) hS rfl (by intro _ _; exact rfl) ?_
   simp only [lay]
   refine te 17 (.pointer (some ⟨b1, off1 + k * 2, none⟩)) hS rfl (by intro _ _; exact ex_index2 (by exact rfl) Try.underlying128 (by kernel_rfl) (by exact rfl) (by exact rfl) hkM) ?_
   simp only [lay]
   refine te 18 (.pointer (some ⟨b1, off1 + k * 2 + 1, none⟩)) hS rfl (by intro _ _; exact ex_field1 (by exact rfl) Try.underlying114 (by exact rfl) rfl (by kernel_rfl) (by exact rfl)) ?_
   simp only [lay]
   refine te 19 (.slice (some ⟨b2, off2, none⟩) m pc) hS rfl (by intro _ h; exact ex_cell (by exact rfl) Try.underlying25 rfl (by exact rfl) ((h.cell (p := ⟨b1, off1 + k * 2 + 1, none⟩) hb1).trans e1)) ?_
   simp only [lay]
   refine te 20 (.int .i64 (m : Int)) hS rfl (by intro _ _; exact ex_len (by exact rfl) Try.underlying25 (by exact rfl)) ?_
   simp only [lay]
   refine te 21 (.bool true) hS rfl (by intro _ _; exact ex_bin (by exact rfl) (by exact rfl) (by exact rfl) (by decide) (gtr_t _ _ _ (by omega) _)) ?_
   simp only [lay]
   refine te 22 (.bool true) hS rfl (by intro _ _; exact rfl) ?_
   simp only [lay]
   refine te 23 (.bool true) hS rfl (by intro _ _; exact rfl) ?_
   simp only [lay]
   refine te 24 (.slice (some ⟨b1, off1, none⟩) M c1) hS rfl (by intro _ _; exact rfl) ?_
   simp only [lay]
   refine te 25 (.int .i64 (k : Int)) hS rfl (by intro _ _; exact rfl) ?_
   simp only [lay]
   refine te 26 (.pointer (some ⟨b1, off1 + k * 2, none⟩)) hS rfl (by intro _ _; exact ex_index2 (by exact rfl) Try.underlying128 (by kernel_rfl) (by exact rfl) (by exact rfl) hkM) ?_
   simp only [lay]
   refine te 27 (.pointer (some ⟨b1, off1 + k * 2 + 1, none⟩)) hS rfl (by intro _ _; exact ex_field1 (by exact rfl) Try.underlying114 (by exact rfl) rfl (by kernel_rfl) (by exact rfl)) ?_
   simp only [lay]
   refine te 28 (.slice (some ⟨b2, off2, none⟩) m pc) hS rfl (by intro _ h; exact ex_cell (by exact rfl) Try.underlying25 rfl (by exact rfl) ((h.cell (p := ⟨b1, off1 + k * 2 + 1, none⟩) hb1).trans e1)) ?_
   simp only [lay]
   refine te 29 (.pointer (some ⟨b2, off2 + 0, none⟩)) hS rfl (by intro _ _; exact ex_index (by exact rfl) Try.underlying25 (by kernel_rfl) (by exact rfl) (by exact rfl) (by omega)) ?_
   simp only [lay]
   refine te 30 (.int .u8 x2) hS rfl (by intro _ h; exact ex_cell (by exact rfl) Try.underlying5 rfl (by exact rfl) ((h.cell (p := ⟨b2, off2 + 0, none⟩) hb2).trans d2)) ?_
   simp only [lay]
   refine te 31 (.int .i64 x2) hS rfl (by intro _ h; exact ex_conv (by exact rfl) (by exact rfl) (conv_i64 _ _ _ _ rfl rfl (by omega) _)) ?_
   simp only [lay]
   refine te 32 (.slice (some ⟨b1, off1, none⟩) M c1) hS rfl (by intro _ _; exact rfl) ?_
   simp only [lay]
   refine te 33 (.int .i64 (k : Int)) hS rfl (by intro _ _; exact rfl) ?_
   simp only [lay]
   refine te 34 (.pointer (some ⟨b1, off1 + k * 2, none⟩)) hS rfl (by intro _ _; exact ex_index2 (by exact rfl) Try.underlying128 (by kernel_rfl) (by exact rfl) (by exact rfl) hkM) ?_
   simp only [lay]
   refine te 35 (.pointer (some ⟨b1, off1 + k * 2 + 1, none⟩)) hS rfl (by intro _ _; exact ex_field1 (by exact rfl) Try.underlying114 (by exact rfl) rfl (by kernel_rfl) (by exact rfl)) ?_
   simp only [lay]
   refine te 36 (.slice (some ⟨b2, off2, none⟩) m pc) hS rfl (by intro _ h; exact ex_cell (by exact rfl) Try.underlying25 rfl (by exact rfl) ((h.cell (p := ⟨b1, off1 + k * 2 + 1, none⟩) hb1).trans e1)) ?_
   simp only [lay]
   refine te 37 (.int .i64 (m : Int)) hS rfl (by intro _ _; exact ex_len (by exact rfl) Try.underlying25 (by exact rfl)) ?_
   simp only [lay]
   refine te 38 (.int .i64 (2 + (m : Int))) hS rfl (by intro _ _; exact ex_bin (by exact rfl) (by exact rfl) (by exact rfl) (by decide) (add_i64r _ _ _ (by omega) _)) ?_
   simp only [lay]
   refine te 39 (.bool false) hS rfl (by intro _ _; exact ex_bin (by exact rfl) (by exact rfl) (by exact rfl) (by decide) (leq_f _ _ _ (by omega) _)) ?_
   simp only [lay]
   refine te 40 (.bool false) hS rfl (by intro _ _; exact rfl) ?_
   simp only [lay]
   refine wpAnyH_done (by kernel_rfl) ?_ _
   go_wp2
   go_roundw
   case rel => exact ⟨k + 1, by omega, by go_num, hVn, hS⟩
   case measure => simp [intOf]; omega
  ·go_wp2
   refine wp_region_held_drew (S := fun W => Below w1.heap.size w1 W) (by kernel_rfl) (hBr.trans (below_drew _ _)) (fun hS => ?_)
   refine te 0 (.slice (some ⟨b1, off1, none⟩) M c1) hS rfl (by intro _ _; exact rfl) ?_
   simp only [lay]
   refine te 1 (.int .i64 (k : Int)) hS rfl (by intro _ _; exact rfl) ?_
   simp only [lay]
   refine te 2 (.pointer (some ⟨b1, off1 + k * 2, none⟩)) hS rfl (by intro _ _; exact ex_index2 (by exact rfl) Try.underlying128 (by kernel_rfl) (by exact rfl) (by exact rfl) hkM) ?_
   simp only [lay]
   refine te 3 (.pointer (some ⟨b1, off1 + k * 2, none⟩)) hS rfl (by intro _ _; exact ex_field0 (by exact rfl) Try.underlying114 (by exact rfl) rfl (by kernel_rfl) (by exact rfl)) ?_
   simp only [lay]
   refine te 4 (.int .u8 137) hS rfl (by intro _ h; exact ex_cell (by exact rfl) Try.underlying5 rfl (by exact rfl) ((h.cell (p := ⟨b1, off1 + k * 2, none⟩) hb1).trans e0)) ?_
   simp only [lay]
   refine te 5 (.bool false) hS rfl (by intro _ _; exact eq_int_ne (by exact rfl) (by exact rfl) (by exact rfl) (by decide)) ?_
   simp only [lay]
   refine te 6 (.bool false) hS rfl (by intro _ _; exact rfl) ?_
   simp only [lay]
   refine te 7 (.slice (some ⟨b1, off1, none⟩) M c1) hS rfl (by intro _ _; exact rfl) ?_
   simp only [lay]
   refine te 8 (.int .i64 (k : Int)) hS rfl (by intro _ _; exact rfl) ?_
   simp only [lay]
   refine te 9 (.pointer (some ⟨b1, off1 + k * 2, none⟩)) hS rfl (by intro _ _; exact ex_index2 (by exact rfl) Try.underlying128 (by kernel_rfl) (by exact rfl) (by exact rfl) hkM) ?_
   simp only [lay]
   refine te 10 (.pointer (some ⟨b1, off1 + k * 2, none⟩)) hS rfl (by intro _ _; exact ex_field0 (by exact rfl) Try.underlying114 (by exact rfl) rfl (by kernel_rfl) (by exact rfl)) ?_
   simp only [lay]
   refine te 11 (.int .u8 137) hS rfl (by intro _ h; exact ex_cell (by exact rfl) Try.underlying5 rfl (by exact rfl) ((h.cell (p := ⟨b1, off1 + k * 2, none⟩) hb1).trans e0)) ?_
   simp only [lay]
   refine te 12 (.bool true) hS rfl (by intro _ _; exact eq_int_self (m := 137) (by exact rfl) (by exact rfl) (by exact rfl)) ?_
   simp only [lay]
   refine te 13 (.bool true) hS rfl (by intro _ _; exact rfl) ?_
   simp only [lay]
   refine te 14 (.bool true) hS rfl (by intro _ _; exact rfl) ?_
   simp only [lay]
   refine te 15 (.slice (some ⟨b1, off1, none⟩) M c1) hS rfl (by intro _ _; exact rfl) ?_
   simp only [lay]
   refine te 16 (.int .i64 (k : Int)) hS rfl (by intro _ _; exact rfl) ?_
   simp only [lay]
   refine te 17 (.pointer (some ⟨b1, off1 + k * 2, none⟩)) hS rfl (by intro _ _; exact ex_index2 (by exact rfl) Try.underlying128 (by kernel_rfl) (by exact rfl) (by exact rfl) hkM) ?_
   simp only [lay]
   refine te 18 (.pointer (some ⟨b1, off1 + k * 2 + 1, none⟩)) hS rfl (by intro _ _; exact ex_field1 (by exact rfl) Try.underlying114 (by exact rfl) rfl (by kernel_rfl) (by exact rfl)) ?_
   simp only [lay]
   refine te 19 (.slice (some ⟨b2, off2, none⟩) m pc) hS rfl (by intro _ h; exact ex_cell (by exact rfl) Try.underlying25 rfl (by exact rfl) ((h.cell (p := ⟨b1, off1 + k * 2 + 1, none⟩) hb1).trans e1)) ?_
   simp only [lay]
   refine te 20 (.int .i64 (m : Int)) hS rfl (by intro _ _; exact ex_len (by exact rfl) Try.underlying25 (by exact rfl)) ?_
   simp only [lay]
   refine te 21 (.bool true) hS rfl (by intro _ _; exact ex_bin (by exact rfl) (by exact rfl) (by exact rfl) (by decide) (gtr_t _ _ _ (by omega) _)) ?_
   simp only [lay]
   refine te 22 (.bool true) hS rfl (by intro _ _; exact rfl) ?_
   simp only [lay]
   refine te 23 (.bool true) hS rfl (by intro _ _; exact rfl) ?_
   simp only [lay]
   refine te 24 (.slice (some ⟨b1, off1, none⟩) M c1) hS rfl (by intro _ _; exact rfl) ?_
   simp only [lay]
   refine te 25 (.int .i64 (k : Int)) hS rfl (by intro _ _; exact rfl) ?_
   simp only [lay]
   refine te 26 (.pointer (some ⟨b1, off1 + k * 2, none⟩)) hS rfl (by intro _ _; exact ex_index2 (by exact rfl) Try.underlying128 (by kernel_rfl) (by exact rfl) (by exact rfl) hkM) ?_
   simp only [lay]
   refine te 27 (.pointer (some ⟨b1, off1 + k * 2 + 1, none⟩)) hS rfl (by intro _ _; exact ex_field1 (by exact rfl) Try.underlying114 (by exact rfl) rfl (by kernel_rfl) (by exact rfl)) ?_
   simp only [lay]
   refine te 28 (.slice (some ⟨b2, off2, none⟩) m pc) hS rfl (by intro _ h; exact ex_cell (by exact rfl) Try.underlying25 rfl (by exact rfl) ((h.cell (p := ⟨b1, off1 + k * 2 + 1, none⟩) hb1).trans e1)) ?_
   simp only [lay]
   refine te 29 (.pointer (some ⟨b2, off2 + 0, none⟩)) hS rfl (by intro _ _; exact ex_index (by exact rfl) Try.underlying25 (by kernel_rfl) (by exact rfl) (by exact rfl) (by omega)) ?_
   simp only [lay]
   refine te 30 (.int .u8 x2) hS rfl (by intro _ h; exact ex_cell (by exact rfl) Try.underlying5 rfl (by exact rfl) ((h.cell (p := ⟨b2, off2 + 0, none⟩) hb2).trans d2)) ?_
   simp only [lay]
   refine te 31 (.int .i64 x2) hS rfl (by intro _ h; exact ex_conv (by exact rfl) (by exact rfl) (conv_i64 _ _ _ _ rfl rfl (by omega) _)) ?_
   simp only [lay]
   refine te 32 (.slice (some ⟨b1, off1, none⟩) M c1) hS rfl (by intro _ _; exact rfl) ?_
   simp only [lay]
   refine te 33 (.int .i64 (k : Int)) hS rfl (by intro _ _; exact rfl) ?_
   simp only [lay]
   refine te 34 (.pointer (some ⟨b1, off1 + k * 2, none⟩)) hS rfl (by intro _ _; exact ex_index2 (by exact rfl) Try.underlying128 (by kernel_rfl) (by exact rfl) (by exact rfl) hkM) ?_
   simp only [lay]
   refine te 35 (.pointer (some ⟨b1, off1 + k * 2 + 1, none⟩)) hS rfl (by intro _ _; exact ex_field1 (by exact rfl) Try.underlying114 (by exact rfl) rfl (by kernel_rfl) (by exact rfl)) ?_
   simp only [lay]
   refine te 36 (.slice (some ⟨b2, off2, none⟩) m pc) hS rfl (by intro _ h; exact ex_cell (by exact rfl) Try.underlying25 rfl (by exact rfl) ((h.cell (p := ⟨b1, off1 + k * 2 + 1, none⟩) hb1).trans e1)) ?_
   simp only [lay]
   refine te 37 (.int .i64 (m : Int)) hS rfl (by intro _ _; exact ex_len (by exact rfl) Try.underlying25 (by exact rfl)) ?_
   simp only [lay]
   refine te 38 (.int .i64 (2 + (m : Int))) hS rfl (by intro _ _; exact ex_bin (by exact rfl) (by exact rfl) (by exact rfl) (by decide) (add_i64r _ _ _ (by omega) _)) ?_
   simp only [lay]
   refine te 39 (.bool false) hS rfl (by intro _ _; exact ex_bin (by exact rfl) (by exact rfl) (by exact rfl) (by decide) (leq_f _ _ _ (by omega) _)) ?_
   simp only [lay]
   refine te 40 (.bool false) hS rfl (by intro _ _; exact rfl) ?_
   simp only [lay]
   refine wpAnyH_done (by kernel_rfl) ?_ _
   go_wp2
   go_roundw
   case rel => exact ⟨k + 1, by omega, by go_num, hVn, hS⟩
   case measure => simp [intOf]; omega
end Go.Proofs.Ytijnifbpbgckgaa
