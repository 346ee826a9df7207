/-
  The walk of ipv4.Pack.
-/
import Derived.Test.YtfkcejfjmfliaaaOa
import Derived.Test.YtfkcejfjmfliaaaP4Q2
import Derived.Test.YtfkcejfjmfliaaaOptR
import Derived.Test.YtfkcejfjmfliaaaOc
namespace Go.Proofs.Ytfkcejfjmfliaaa
open Go.RowKit Go.Shelf

theorem Has.grownN {w w' : World} {g : Nat} {o : Obj} {row : Option Nat} (h : Has w g o) (hg : w.grownBy w' row) (hne : row ≠ some g) : Has w' g o := (hg.block g h.lt (fun e => hne e.symm)).trans h
def lenV : Value → Nat
  | .slice _ n _ => n
  | _ => 0
def ToldPk (os : List (Int × List Int)) (w : World) (e : Ending) (w' : World) : Prop := ∃ v, e = .returned (.tuple #[v, .int .i64 (pkErr os)]) ∧ OwnB w' w.heap.size v (pkBytes os) ∧ Below w.heap.size w w'

set_option maxRecDepth 100000 in
set_option maxHeartbeats 4000000 in
theorem pack_any (A : Option Addr) (M c : Nat) (ps : List Kd) (w : World) (K : Kds w.heap.size w A M c ps) :
    Calls Try.prog 28 #[.slice A M c] w fun e w' => ToldPk (kdL ps) w e w' := by
  have hM := K.len
  have hMc := Nat.le_trans K.cap K.big
  obtain ⟨E, hE⟩ : ∃ E, pkErr (kdL ps) = E := ⟨_, rfl⟩
  obtain ⟨R, hR⟩ : ∃ R, pkBytes (kdL ps) = R := ⟨_, rfl⟩
  unfold ToldPk
  rw [hE, hR]
  have hEH := Lib.hid hE
  have hRH : Hid ((if E = 0 then pad4 (pkAll (kdL ps)) else []) = R) := Lib.hid (by rw [← hR, pkBytes, hE])
  have hMH := Lib.hid hM
  have h00 : Hid ((kdL (ps.take 0)).any pkBadOne = false) := Lib.hid rfl
  have hT0 : pkT ps 0 = [] := rfl
  have hT0H := Lib.hid hT0
  clear hE hR hM hT0
  go_enter Try.func28, Try.ntmps28
  go_wp2
  go_loopw [4, 5, 10] (fun bv lv i wr => ∃ k : Nat, k ≤ M ∧ i = .int .i64 k ∧ Hid ((kdL (ps.take k)).any pkBadOne = false) ∧ lv = .bool (decide (40 < (pkT ps k).length)) ∧ ((pkT ps k).length ≤ 40 → OwnB wr w.heap.size bv (pkT ps k)) ∧ Below w.heap.size w wr) (fun _ _ i _ => M - (intOf i).toNat)
  case atStart => exact ⟨0, Nat.zero_le _, rfl, h00, by rw [hT0H.out]; rfl, fun _ => by rw [hT0H.out]; exact OwnB.nil _ _, Below.refl _ _⟩
  case round =>
    obtain ⟨k, hk, rfl, hbad, rfl, hO, hBr⟩ := hrel
    rename_i wr _
    by_cases hkM : k < M
    case neg =>
      obtain rfl : k = M := by omega
      have hge : ¬ ((k : Int) < (k : Int)) := by omega
      have hEg := pkErr_good hMH.out hbad.out
      rw [hEH.out] at hEg
      have hTa := pkT_all hMH.out
      by_cases hlong : 40 < (pkT ps k).length
      case pos =>
        rw [if_pos hlong] at hEg
        subst hEg
        obtain rfl : R = [] := by rw [← hRH.out]; rfl
        rw [decide_eq_true hlong]
        clear hTa hbad hO K hlong
        go_wp2
        go_ret2
        exact ⟨_, rfl, OwnB.nil _ _, hBr⟩
      case neg =>
        rw [if_neg hlong] at hEg
        subst hEg
        have hRp : Hid (pad4 (pkT ps k) = R) := Lib.hid (by rw [← hRH.out, if_pos rfl, hTa])
        have hO1 := hO (by omega)
        rw [decide_eq_false hlong]
        obtain ⟨T, hT⟩ : ∃ T, pkT ps k = T := ⟨_, rfl⟩
        rw [hT] at hRp hO1 hlong
        have hO0 : OwnB wr w.heap.size u4 (T ++ List.replicate 0 0) := by rw [List.replicate_zero, List.append_nil]; exact hO1
        clear hTa hbad hO K hT hRH hO1
        go_wp2
        go_loopw [4] (fun bv wq => ∃ (W : World) (j : Nat), W = wq ∧ j ≤ (4 - T.length % 4) % 4 ∧ OwnB wq w.heap.size bv (T ++ List.replicate j 0) ∧ Below w.heap.size w wq ∧ (j = 0 ∨ 0 < (4 - T.length % 4) % 4)) (fun bv _ => 3 + T.length - lenV bv)
        case atStart => exact ⟨_, 0, rfl, Nat.zero_le _, hO0, hBr, .inl rfl⟩
        case round =>
          obtain ⟨wq, j, hwq, hj, hOj, hBj, _⟩ := hrel
          subst hwq
          obtain ⟨A6, c6, rfl, y6⟩ := hOj.by_
          obtain ⟨tn, htn⟩ : ∃ n, T.length = n := ⟨_, rfl⟩
          have hlj : (T ++ List.replicate j 0).length = tn + j := by rw [List.length_append, List.length_replicate, htn]
          have hlong' : tn ≤ 40 := by omega
          rw [htn] at hj
          have hdone := fun h => pad_done (l := T) (j := j) (by rw [htn]; exact hj) h
          rw [htn] at hdone
          rw [hlj] at hOj y6 ⊢
          have hcap := Nat.le_trans y6.cap y6.big
          have htnH := Lib.hid htn
          have hdoneH := Lib.hid hdone
          have hljH := Lib.hid hlj
          clear hlj y6 hlong htn hdone
          by_cases hz : (tn + j) % 4 = 0
          case pos =>
            have hzi : ((tn + j : Nat) : Int) % 4 = 0 := by omega
            go_wp2
            go_ret2
            exact ⟨_, rfl, by rw [← hRp.out, ← hdoneH.out hz]; exact hOj, hBj⟩
          case neg =>
            have hzi : ¬ ((tn + j : Nat) : Int) % 4 = 0 := by omega
            have hO5 := hOj.alloc (.cells #[.int .u8 0] 5)
            have yz := By.new wq 5 [0] (fun v hv => by rw [List.mem_singleton] at hv; omega) (by decide)
            have hBz : Below w.heap.size w (wq.alloc (.cells #[.int .u8 0] 5)) := hBj.trans (((Below.refl wq.heap.size wq).alloc (Nat.le_refl _) _).mono hBj.size)
            go_wp2_with (at_builtin; refine wpList_appB _ rfl _ _ 25 rfl Try.underlying25 info8 w.heap.size _ _ rfl hO5 (wq.heap.size + 1) _ 1 1 [0] rfl yz (by rw [hljH.out]; omega) hBz.size ?_; intro v7 w7 o7 hg7 _; have hb7 := below_own hO5.own hg7 hBz.size)
            rw [pad_step] at o7
            obtain ⟨A7, c7, rfl, _⟩ := o7.by_
            have hl7 : (T ++ List.replicate (j + 1) 0).length = tn + (j + 1) := by rw [List.length_append, List.length_replicate, htnH.out]
            go_roundw
            case rel => exact ⟨_, j + 1, rfl, by rw [htnH.out]; omega, o7, hBz.trans hb7, .inr (by rw [htnH.out]; omega)⟩
            case measure => simp only [lenV]; rw [hl7, htnH.out]; omega
    case pos =>
    have hkz : (k : Int) < (M : Int) := by omega
    obtain ⟨⟨pk, pA, pc, pl⟩, hp⟩ : ∃ p, ps[k]? = some p := ⟨ps[k]'(by rw [hMH.out]; exact hkM), List.getElem?_eq_getElem _⟩
    obtain ⟨b1, off1, hA1, hb1, e0, e1, hr1, hr2, yP⟩ := K.at_ k _ hp
    subst hA1
    have hstep := pkT_step hp
    have hbt := pkBad_take hp hbad.out
    have hbe := pkErr_bad hp
    dsimp only at e0 e1 yP hr1 hr2 hstep hbt hbe
    unfold kdV at e1
    dsimp only at e1
    obtain ⟨m, hm⟩ : ∃ m, pl.length = m := ⟨_, rfl⟩
    have hbo : pkBadOne (pk, pl) = decide (pk < 2 ∨ 38 < m) := by rw [← hm]; rfl
    rw [hbo] at hbt hbe
    have hin := yP.rng
    rw [hm] at e1 yP hstep
    have hlenT : (pkT ps (k + 1)).length = (pkT ps k).length + 2 + m := by rw [hstep, List.length_append, List.length_cons, List.length_cons, hm]; omega
    have hstep := Lib.hid hstep
    have hbt := Lib.hid hbt
    have hbe := Lib.hid hbe
    clear hp hm hbo
    have hld : ∀ W, Below w.heap.size w W → (loadVar 64 ⟨b1, off1 + k * 2, none⟩).run Try.prog W = .ok (.agg #[.int .u8 pk, .slice pA m pc]) W := fun W h =>
      run_loadVar_mid (P := Try.prog) W b1 (off1 + k * 2) 64 [.int .u8 pk, .slice pA m pc] _ (fun j v hj => by
        match j, hj with
        | 0, hj => injection hj with hj; subst hj; exact (h.cell (p := ⟨b1, off1 + k * 2, none⟩) hb1).trans e0
        | 1, hj => injection hj with hj; subst hj; exact (h.cell (p := ⟨b1, off1 + k * 2 + 1, none⟩) hb1).trans e1) Try.underlying64 rfl (by kernel_rfl)
    have hld := hld _ hBr
    have hN : Has (wr.alloc (.cells #[.int .u8 0, .slice none 0 0] 64)) wr.heap.size (.cells #[.int .u8 0, .slice none 0 0] 64 (0, 0)) := Has.newAt rfl
    have hH := hN.setRow_same (cs' := #[.int .u8 pk, .slice pA m pc])
    have hX : Below wr.heap.size wr ((wr.alloc (.cells #[.int .u8 0, .slice none 0 0] 64)).setRow wr.heap.size #[.int .u8 pk, .slice pA m pc]) := ((Below.refl wr.heap.size wr).alloc (Nat.le_refl _) (.cells #[.int .u8 0, .slice none 0 0] 64)).trans below_setRow'
    obtain ⟨W4, hW4⟩ : ∃ W, (wr.alloc (.cells #[.int .u8 0, .slice none 0 0] 64)).setRow wr.heap.size #[.int .u8 pk, .slice pA m pc] = W := ⟨_, rfl⟩
    rw [hW4] at hX hH
    have c0 := hH.cell 0 (v := .int .u8 pk) rfl
    have c1 := hH.cell 1 (v := .slice pA m pc) rfl
    have hB4 := hBr.trans (hX.mono hBr.size)
    by_cases hb1' : pk < 2
    case pos =>
      obtain rfl : E = 47 := by rw [← hEH.out]; exact hbe.out (by simp [hb1'])
      obtain rfl : R = [] := by rw [← hRH.out]; rfl
      clear hO hbad hlenT
      go_wp2_with (first | (refine wl (.pointer (some ⟨b1, off1 + k * 2, none⟩)) (by kernel_rfl) (by exact ex_index2 (by exact rfl) Try.underlying45 (by kernel_rfl) (by exact rfl) (by exact rfl) hkM) ?_) | (refine wl (.agg #[.int .u8 pk, .slice pA m pc]) (by kernel_rfl) (by exact ex_loadAt (by exact rfl) (by exact rfl) hld) ?_) | (refine wpList_store_row rfl 64 (.tmp 7) (.tmp 13) rfl wr.heap.size _ rfl rfl 64 _ hN opt_info rfl (by simp [Value.oneCell']) ?_))
      go_ret2
      exact ⟨_, rfl, OwnB.nil _ _, hB4⟩
    case neg =>
    by_cases hb2' : 38 < m
    case pos =>
      obtain rfl : E = 47 := by rw [← hEH.out]; exact hbe.out (by simp [hb2'])
      obtain rfl : R = [] := by rw [← hRH.out]; rfl
      have hb3' : (38 : Int) < (m : Int) := by omega
      clear hO hbad hlenT
      go_wp2_with (first | (refine wl (.pointer (some ⟨b1, off1 + k * 2, none⟩)) (by kernel_rfl) (by exact ex_index2 (by exact rfl) Try.underlying45 (by kernel_rfl) (by exact rfl) (by exact rfl) hkM) ?_) | (refine wl (.agg #[.int .u8 pk, .slice pA m pc]) (by kernel_rfl) (by exact ex_loadAt (by exact rfl) (by exact rfl) hld) ?_) | (refine wpList_store_row rfl 64 (.tmp 7) (.tmp 13) rfl wr.heap.size _ rfl rfl 64 _ hN opt_info rfl (by simp [Value.oneCell']) ?_))
      go_ret2
      exact ⟨_, rfl, OwnB.nil _ _, hB4⟩
    case neg =>
    have hgood : Hid ((kdL (ps.take (k + 1))).any pkBadOne = false) := Lib.hid (by rw [hbt.out, decide_eq_false_iff_not]; omega)
    have hb3' : ¬ ((38 : Int) < (m : Int)) := by omega
    obtain ⟨T, hT⟩ : ∃ T, pkT ps k = T := ⟨_, rfl⟩
    rw [hT] at hO hlenT hstep ⊢
    obtain ⟨T2, hT2⟩ : ∃ T2, pkT ps (k + 1) = T2 := ⟨_, rfl⟩
    rw [hT2] at hlenT hstep
    have hT2H := Lib.hid hT2
    clear hT hT2 hbad hbt hbe
    by_cases hlong : 40 < T.length
    case pos =>
      rw [decide_eq_true hlong]
      have hnl : Hid (decide (40 < T2.length) = true) := Lib.hid (decide_eq_true (by omega))
      have hno : ¬ T2.length ≤ 40 := by omega
      clear hO hlong hlenT
      go_wp2_with (first | (refine wl (.pointer (some ⟨b1, off1 + k * 2, none⟩)) (by kernel_rfl) (by exact ex_index2 (by exact rfl) Try.underlying45 (by kernel_rfl) (by exact rfl) (by exact rfl) hkM) ?_) | (refine wl (.agg #[.int .u8 pk, .slice pA m pc]) (by kernel_rfl) (by exact ex_loadAt (by exact rfl) (by exact rfl) hld) ?_) | (refine wpList_store_row rfl 64 (.tmp 7) (.tmp 13) rfl wr.heap.size _ rfl rfl 64 _ hN opt_info rfl (by simp [Value.oneCell']) ?_))
      go_roundw
      case rel => exact ⟨k + 1, by omega, by go_num, hgood, by rw [hT2H.out, hnl.out], fun h => by rw [hT2H.out] at h; exact absurd h hno, hB4⟩
      case measure => simp [intOf]; omega
    case neg =>
      rw [decide_eq_false hlong]
      have hO1 := hO (by omega)
      obtain ⟨A5, c5, rfl, y5⟩ := hO1.by_
      obtain ⟨tn, htn⟩ : ∃ n, T.length = n := ⟨_, rfl⟩
      have hcap := Nat.le_trans y5.cap y5.big
      rw [htn] at hO hO1 hlong hlenT hcap ⊢
      clear y5 hO
      by_cases hover : 40 < tn + 2 + m
      case pos =>
        have hnl : Hid (decide (40 < T2.length) = true) := Lib.hid (decide_eq_true (by omega))
        have hno : ¬ T2.length ≤ 40 := by omega
        have hoi : (40 : Int) < (tn : Int) + 2 + (m : Int) := by omega
        clear hlenT hO1 htn
        go_wp2_with (first | (refine wl (.pointer (some ⟨b1, off1 + k * 2, none⟩)) (by kernel_rfl) (by exact ex_index2 (by exact rfl) Try.underlying45 (by kernel_rfl) (by exact rfl) (by exact rfl) hkM) ?_) | (refine wl (.agg #[.int .u8 pk, .slice pA m pc]) (by kernel_rfl) (by exact ex_loadAt (by exact rfl) (by exact rfl) hld) ?_) | (refine wpList_store_row rfl 64 (.tmp 7) (.tmp 13) rfl wr.heap.size _ rfl rfl 64 _ hN opt_info rfl (by simp [Value.oneCell']) ?_))
        go_roundw
        case rel => exact ⟨k + 1, by omega, by go_num, hgood, by rw [hT2H.out, hnl.out], fun h => by rw [hT2H.out] at h; exact absurd h hno, hB4⟩
        case measure => simp [intOf]; omega
      case neg =>
        have hnl : Hid (decide (40 < T2.length) = false) := Lib.hid (decide_eq_false (by omega))
        have hoi : ¬ ((40 : Int) < (tn : Int) + 2 + (m : Int)) := by omega
        have ho4 := hO1.below hX
        have hne0 : (Value.slice A5 tn c5).ownBlock ≠ some wr.heap.size := fun e => absurd (hO1.base _ e).2 (Nat.lt_irrefl _)
        have hin2 : InB [pk, 2 + (m : Int)] := fun v hv => by
          rcases List.mem_cons.1 hv with rfl | hv
          · omega
          · rw [List.mem_singleton] at hv; omega
        have hTn := Lib.hid htn
        clear hlenT hO1 htn
        go_wp2_with (first | (refine wl (.pointer (some ⟨b1, off1 + k * 2, none⟩)) (by kernel_rfl) (by exact ex_index2 (by exact rfl) Try.underlying45 (by kernel_rfl) (by exact rfl) (by exact rfl) hkM) ?_) | (refine wl (.agg #[.int .u8 pk, .slice pA m pc]) (by kernel_rfl) (by exact ex_loadAt (by exact rfl) (by exact rfl) hld) ?_) | (refine wpList_store_row rfl 64 (.tmp 7) (.tmp 13) rfl wr.heap.size _ rfl rfl 64 _ hN opt_info rfl (by simp [Value.oneCell']) ?_))
        refine wp_region_held_drew (S := fun W => Below w.heap.size w W ∧ Has W wr.heap.size (.cells #[.int .u8 pk, .slice pA m pc] 64 (0, 0))) (by kernel_rfl) ⟨hB4.trans (below_drew _ _), hH.drew⟩ (fun hS => ?_)
        have o1 := ho4.drew
        generalize W4.drew = W1 at hS o1 ⊢
        -- REGION 10
        refine tk (i := 0) (.slice A5 tn c5) hS rfl (by kernel_rfl) (by kernel_rfl) (by kernel_rfl) (fun _ _ _ h => h) (by kernel_rfl) (by intro _ _; exact rfl) ?_
        simp only [Act.put, List.setIfInBounds_toArray, List.set_cons_zero, List.set_cons_succ]
        refine tk (i := 1) (.pointer (some ⟨wr.heap.size, 0, none⟩)) hS rfl (by kernel_rfl) (by kernel_rfl) (by kernel_rfl) (fun _ _ _ h => h) (by kernel_rfl) (by intro _ _; exact ex_field 0 0 (by exact rfl) Try.underlying64 (by exact rfl) rfl (by kernel_rfl) (by exact rfl)) ?_
        simp only [Act.put, List.setIfInBounds_toArray, List.set_cons_zero, List.set_cons_succ]
        refine tk (i := 2) (.int .u8 pk) hS rfl (by kernel_rfl) (by kernel_rfl) (by kernel_rfl) (fun _ _ _ h => h) (by kernel_rfl) (by intro _ h; exact ex_cell (by exact rfl) Try.underlying5 rfl (by exact rfl) (h.2.cell 0 rfl)) ?_
        simp only [Act.put, List.setIfInBounds_toArray, List.set_cons_zero, List.set_cons_succ]
        refine tk (i := 3) (.pointer (some ⟨wr.heap.size, 1, none⟩)) hS rfl (by kernel_rfl) (by kernel_rfl) (by kernel_rfl) (fun _ _ _ h => h) (by kernel_rfl) (by intro _ _; exact ex_field 1 0 (by exact rfl) Try.underlying64 (by exact rfl) rfl (by kernel_rfl) (by exact rfl)) ?_
        simp only [Act.put, List.setIfInBounds_toArray, List.set_cons_zero, List.set_cons_succ]
        refine tk (i := 4) (.slice pA m pc) hS rfl (by kernel_rfl) (by kernel_rfl) (by kernel_rfl) (fun _ _ _ h => h) (by kernel_rfl) (by intro _ h; exact ex_cell (by exact rfl) Try.underlying25 rfl (by exact rfl) (h.2.cell 1 rfl)) ?_
        simp only [Act.put, List.setIfInBounds_toArray, List.set_cons_zero, List.set_cons_succ]
        refine tk (i := 5) (.int .i64 (m : Int)) hS rfl (by kernel_rfl) (by kernel_rfl) (by kernel_rfl) (fun _ _ _ h => h) (by kernel_rfl) (by intro _ _; exact ex_len (by exact rfl) Try.underlying25 (by exact rfl)) ?_
        simp only [Act.put, List.setIfInBounds_toArray, List.set_cons_zero, List.set_cons_succ]
        refine tk (i := 6) (.int .i64 (2 + (m : Int))) hS rfl (by kernel_rfl) (by kernel_rfl) (by kernel_rfl) (fun _ _ _ h => h) (by kernel_rfl) (by intro _ _; exact ex_bin (by exact rfl) (by exact rfl) (by exact rfl) (by decide) (add_i64r _ _ _ (by omega) _)) ?_
        simp only [Act.put, List.setIfInBounds_toArray, List.set_cons_zero, List.set_cons_succ]
        refine tk (i := 7) (.int .u8 (2 + (m : Int))) hS rfl (by kernel_rfl) (by kernel_rfl) (by kernel_rfl) (fun _ _ _ h => h) (by kernel_rfl) (by intro _ h; exact ex_conv (by exact rfl) (by exact rfl) (conv_u8' _ _ _ _ rfl rfl (by omega) _)) ?_
        simp only [Act.put, List.setIfInBounds_toArray, List.set_cons_zero, List.set_cons_succ]
        refine tk (i := 10) (.pointer (some ⟨wr.heap.size, 1, none⟩)) hS rfl (by kernel_rfl) (by kernel_rfl) (by kernel_rfl) (fun _ _ _ h => h) (by kernel_rfl) (by intro _ _; exact ex_field 1 0 (by exact rfl) Try.underlying64 (by exact rfl) rfl (by kernel_rfl) (by exact rfl)) ?_
        simp only [Act.put, List.setIfInBounds_toArray, List.set_cons_zero, List.set_cons_succ]
        refine tk (i := 11) (.slice pA m pc) hS rfl (by kernel_rfl) (by kernel_rfl) (by kernel_rfl) (fun _ _ _ h => h) (by kernel_rfl) (by intro _ h; exact ex_cell (by exact rfl) Try.underlying25 rfl (by exact rfl) (h.2.cell 1 rfl)) ?_
        simp only [Act.put, List.setIfInBounds_toArray, List.set_cons_zero, List.set_cons_succ]
        refine tk_one (by kernel_rfl) (op_build (i := 8) [.int .u8 pk, .int .u8 (2 + (m : Int))] rfl (by kernel_rfl) rfl Try.underlying25 (by kernel_rfl) (by kernel_rfl) rfl (by decide) (by decide) (by first | rfl | (simp only [List.map_toArray, List.map_cons, List.map_nil] <;> rfl)) (all2 rfl rfl) (fun _ hb => ⟨hS.1.trans (hb.mono (Below.size hS.1)), hS.2.below hb hS.2.lt⟩) ?_)
        intro g5 W2 hQ hge _ hb2 hS2
        have o2 := o1.below hb2
        have yq : By (g5 + 1) W2 (some ⟨g5, 0, none⟩) 2 2 [pk, 2 + (m : Int)] := By.blk' (t := 5) (fz := (0, 0)) hQ (Nat.lt_succ_self _) hin2 (show 2 ≤ 9223372036854775807 by decide) rfl rfl
        have ne2 : (Value.slice A5 tn c5).ownBlock ≠ some wr.heap.size := hne0
        simp only [Act.put, List.setIfInBounds_toArray, List.set_cons_zero, List.set_cons_succ]
        refine tk_one (by kernel_rfl) (op_appS (i := 9) (.tmp 36) (.tmp 44) _ rfl (by kernel_rfl) rfl Try.underlying25 info8 w.heap.size _ _ rfl o2 _ _ _ _ _ rfl (yq) (by rw [hTn.out]; omega) (Below.size hS2.1) (fun _ hg => ⟨hS2.1.trans (below_app o2 hg (Below.size hS2.1)), hS2.2.grownN hg ne2⟩) ?_)
        intro v4 W3 o3 hg3 hat3 hS3
        have ne3 : v4.ownBlock ≠ some wr.heap.size := by
          rcases hat3 with e | e
          · rw [e]; exact ne2
          · rw [e]; intro e'; injection e' with e'; have := hS2.2.lt; omega
        simp only [Act.put, List.setIfInBounds_toArray, List.set_cons_zero, List.set_cons_succ]
        refine tk_one (by kernel_rfl) (op_appS (i := 12) (.tmp 45) (.tmp 47) _ rfl (by kernel_rfl) rfl Try.underlying25 info8 w.heap.size _ _ rfl o3 _ _ _ _ _ rfl (yP.below hS3.1 (Nat.le_refl _)) (by rw [List.length_append, hTn.out, List.length_cons, List.length_singleton]; omega) (Below.size hS3.1) (fun _ hg => ⟨hS3.1.trans (below_app o3 hg (Below.size hS3.1)), hS3.2.grownN hg ne3⟩) ?_)
        intro v5 W4 o4 hg4 _ hS4
        simp only [Act.put, List.setIfInBounds_toArray, List.set_cons_zero, List.set_cons_succ]
        refine tk (i := 13) (v5) hS4 rfl (by kernel_rfl) (by kernel_rfl) (by kernel_rfl) (fun _ _ _ h => h) (by kernel_rfl) (by intro _ _; exact rfl) ?_
        simp only [Act.put, List.setIfInBounds_toArray, List.set_cons_zero, List.set_cons_succ]
        refine wpAnyH_done (by kernel_rfl) ?_ _
        go_wp2
        go_roundw
        case rel => exact ⟨k + 1, by omega, by go_num, hgood, by rw [hT2H.out, hnl.out], fun _ => by have h := o4; rw [List.append_assoc] at h; rw [hT2H.out, hstep.out]; exact h, hS4.1⟩
        case measure => simp [intOf]; omega
        -- END 10
end Go.Proofs.Ytfkcejfjmfliaaa
