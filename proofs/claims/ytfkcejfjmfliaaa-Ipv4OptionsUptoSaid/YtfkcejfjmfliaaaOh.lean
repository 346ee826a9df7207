/-
  The walk of the reference's Pack.
-/
import Derived.Test.YtfkcejfjmfliaaaOg
namespace Go.Proofs.Ytfkcejfjmfliaaa
open Go.RowKit Go.Shelf

set_option maxRecDepth 100000 in
set_option maxHeartbeats 4000000 in
theorem rpack_any (A : Option Addr) (M c : Nat) (ps : List Kd) (w : World) (K : Kds w.heap.size w A M c ps) :
    Calls Try.prog 29 #[.slice A M c] w fun e w' => ToldPk (kdL ps) w e w' := by
  have hM := K.len
  have hMc := Nat.le_trans K.cap K.big
  obtain ⟨E, hE⟩ : ∃ E, pkErr (kdL ps) = E := ⟨_, rfl⟩
  obtain ⟨R, hR⟩ : ∃ R, pkBytes (kdL ps) = R := ⟨_, rfl⟩
  unfold ToldPk
  rw [hE, hR]
  have hEH := Lib.hid hE
  have hRH : Hid ((if E = 0 then pad4 (pkAll (kdL ps)) else []) = R) := Lib.hid (by rw [← hR, pkBytes, hE])
  have hMH := Lib.hid hM
  have h00 : Hid ((kdL (ps.take 0)).any pkBadOne = false) := Lib.hid rfl
  have hT0 : pkT ps 0 = [] := rfl
  have hT0H := Lib.hid hT0
  clear hE hR hM hT0
  go_enter Try.func29, Try.ntmps29
  go_wp2
  go_loopw [4] (fun i wr => ∃ (W : World) (k : Nat), W = wr ∧ k ≤ M ∧ i = .int .i64 k ∧ Hid ((kdL (ps.take k)).any pkBadOne = false) ∧ Below w.heap.size w W) (fun i _ => M - (intOf i).toNat)
  case atStart => exact ⟨_, 0, rfl, Nat.zero_le _, rfl, h00, Below.refl _ _⟩
  case round =>
    obtain ⟨wr, k, hwr, hk, rfl, hbad, hBr⟩ := hrel
    subst hwr
    by_cases hkM : k < M
    case neg =>
      obtain rfl : k = M := by omega
      have hge : ¬ ((k : Int) < (k : Int)) := by omega
      have hEg := pkErr_good hMH.out hbad.out
      rw [hEH.out] at hEg
      have hTa := pkT_all hMH.out
      have hall : ∀ q ∈ ps, ¬ (q.1 < 2) ∧ q.2.2.2.length ≤ 38 := fun q hq => by
        have h := hbad.out
        rw [List.take_of_length_le (by rw [hMH.out]; exact Nat.le_refl _), List.any_eq_false] at h
        have := h (q.1, q.2.2.2) (List.mem_map.2 ⟨q, hq, rfl⟩)
        simp only [pkBadOne, decide_eq_true_eq] at this
        omega
      have hEgH := Lib.hid hEg
      have hTaH := Lib.hid hTa
      have hallH := Lib.hid hall
      have hmono := Lib.hid (pkT_len_mono ps)
      clear hEg hTa hall hbad hkM
      obtain ⟨M, hMk⟩ : ∃ M, k = M := ⟨_, rfl⟩
      subst hMk
      go_wp2
      go_loopw [5, 6] (fun bv i wr => ∃ (W : World) (j : Nat), W = wr ∧ j ≤ k ∧ i = .int .i64 j ∧ OwnB W w.heap.size bv (pkT ps j) ∧ (pkT ps j).length ≤ 40 ∧ Below w.heap.size w W) (fun _ i _ => k - (intOf i).toNat)
      case atStart => exact ⟨_, 0, rfl, Nat.zero_le _, rfl, by rw [hT0H.out]; exact OwnB.nil _ _, by rw [hT0H.out]; simp, hBr⟩
      case round =>
        obtain ⟨wr2, j, hwr2, hj, rfl, hO, hT40, hB2⟩ := hrel
        subst hwr2
        by_cases hjk : j < k
        case neg =>
          obtain rfl : j = k := by omega
          have hgej : ¬ ((j : Int) < (j : Int)) := by omega
          obtain rfl : E = 0 := by rw [hEgH.out, if_neg (by omega)]
          have hRp : Hid (pad4 (pkT ps j) = R) := Lib.hid (by rw [← hRH.out, if_pos rfl, hTaH.out])
          obtain ⟨T, hT⟩ : ∃ T, pkT ps j = T := ⟨_, rfl⟩
          rw [hT] at hRp hO hT40
          have hO0 : OwnB wr2 w.heap.size u5 (T ++ List.replicate 0 0) := by rw [List.replicate_zero, List.append_nil]; exact hO
          have hlong : ¬ 40 < T.length := by omega
          clear hT hRH hO K hT40
          go_wp2
          go_loopw [5] (fun bv wq => ∃ (W : World) (j : Nat), W = wq ∧ j ≤ (4 - T.length % 4) % 4 ∧ OwnB wq w.heap.size bv (T ++ List.replicate j 0) ∧ Below w.heap.size w wq ∧ (j = 0 ∨ 0 < (4 - T.length % 4) % 4)) (fun bv _ => 3 + T.length - lenV bv)
          case atStart => exact ⟨_, 0, rfl, Nat.zero_le _, hO0, hB2, .inl rfl⟩
          case round =>
            obtain ⟨wq, j, hwq, hj, hOj, hBj, _⟩ := hrel
            subst hwq
            obtain ⟨A6, c6, rfl, y6⟩ := hOj.by_
            obtain ⟨tn, htn⟩ : ∃ n, T.length = n := ⟨_, rfl⟩
            have hlj : (T ++ List.replicate j 0).length = tn + j := by rw [List.length_append, List.length_replicate, htn]
            have hlong' : tn ≤ 40 := by omega
            rw [htn] at hj
            have hdone := fun h => pad_done (l := T) (j := j) (by rw [htn]; exact hj) h
            rw [htn] at hdone
            rw [hlj] at hOj y6 ⊢
            have hcap := Nat.le_trans y6.cap y6.big
            have htnH := Lib.hid htn
            have hdoneH := Lib.hid hdone
            have hljH := Lib.hid hlj
            clear hlj y6 hlong htn hdone
            by_cases hz : (tn + j) % 4 = 0
            case pos =>
              have hzi : ((tn + j : Nat) : Int) % 4 = 0 := by omega
              go_wp2
              go_ret2
              exact ⟨_, rfl, by rw [← hRp.out, ← hdoneH.out hz]; exact hOj, hBj⟩
            case neg =>
              have hzi : ¬ ((tn + j : Nat) : Int) % 4 = 0 := by omega
              have hO5 := hOj.alloc (.cells #[.int .u8 0] 5)
              have yz := By.new wq 5 [0] (fun v hv => by rw [List.mem_singleton] at hv; omega) (by decide)
              have hBz : Below w.heap.size w (wq.alloc (.cells #[.int .u8 0] 5)) := hBj.trans (((Below.refl wq.heap.size wq).alloc (Nat.le_refl _) _).mono hBj.size)
              go_wp2_with (at_builtin; refine wpList_appB _ rfl _ _ 25 rfl Try.underlying25 info8 w.heap.size _ _ rfl hO5 (wq.heap.size + 1) _ 1 1 [0] rfl yz (by rw [hljH.out]; omega) hBz.size ?_; intro v7 w7 o7 hg7 _; have hb7 := below_own hO5.own hg7 hBz.size)
              rw [pad_step] at o7
              obtain ⟨A7, c7, rfl, _⟩ := o7.by_
              have hl7 : (T ++ List.replicate (j + 1) 0).length = tn + (j + 1) := by rw [List.length_append, List.length_replicate, htnH.out]
              go_roundw
              case rel => exact ⟨_, j + 1, rfl, by rw [htnH.out]; omega, o7, hBz.trans hb7, .inr (by rw [htnH.out]; omega)⟩
              case measure => simp only [lenV]; rw [hl7, htnH.out]; omega
        case pos =>
        have hkz : (j : Int) < (k : Int) := by omega
        have hkM : j < k := hjk
        obtain ⟨⟨pk, pA, pc, pl⟩, hp⟩ : ∃ p, ps[j]? = some p := ⟨ps[j]'(by rw [hMH.out]; exact hkM), List.getElem?_eq_getElem _⟩
        obtain ⟨b1, off1, hA1, hb1, e0, e1, hr1, hr2, yP⟩ := K.at_ j _ hp
        subst hA1
        have hstep := pkT_step hp
        have hal := hallH.out _ (List.mem_of_getElem? hp)
        have hmo := hmono.out (j + 1)
        dsimp only at e0 e1 yP hr1 hr2 hstep hal
        unfold kdV at e1
        dsimp only at e1
        obtain ⟨m, hm⟩ : ∃ m, pl.length = m := ⟨_, rfl⟩
        have hlenT : (pkT ps (j + 1)).length = (pkT ps j).length + 2 + m := by rw [hstep, List.length_append, List.length_cons, List.length_cons, hm]; omega
        rw [hm] at e1 yP hstep hal
        obtain ⟨T, hT⟩ : ∃ T, pkT ps j = T := ⟨_, rfl⟩
        rw [hT] at hO hlenT hstep hT40
        obtain ⟨T2, hT2⟩ : ∃ T2, pkT ps (j + 1) = T2 := ⟨_, rfl⟩
        rw [hT2] at hlenT hstep hmo
        have hT2H := Lib.hid hT2
        have hstep := Lib.hid hstep
        obtain ⟨A5, c5, rfl, y5⟩ := hO.by_
        obtain ⟨tn, htn⟩ : ∃ n, T.length = n := ⟨_, rfl⟩
        rw [htn] at hO hlenT hT40 ⊢
        have hTn := Lib.hid htn
        have q0 := (hB2.cell (p := ⟨b1, off1 + j * 2, none⟩) hb1).trans e0
        have q1 := (hB2.cell (p := ⟨b1, off1 + j * 2 + 1, none⟩) hb1).trans e1
        have hm38 := hal.2
        by_cases hover : 40 < tn + 2 + m
        case pos =>
          obtain rfl : E = 2 := by rw [hEgH.out, if_pos (by rw [hTaH.out]; omega)]
          obtain rfl : R = [] := by rw [← hRH.out]; rfl
          have hoi : (40 : Int) < (tn : Int) + 2 + (m : Int) := by omega
          clear hO hlenT hmo hp hT hT2 htn y5 K yP hal
          go_wp2_with (first | (refine wl (.pointer (some ⟨b1, off1 + j * 2, none⟩)) (by kernel_rfl) (by exact ex_index2 (by exact rfl) Try.underlying45 (by kernel_rfl) (by exact rfl) (by exact rfl) hkM) ?_) | (refine wl (.pointer (some ⟨b1, off1 + j * 2, none⟩)) (by kernel_rfl) (by exact ex_field0 (by exact rfl) Try.underlying64 (by exact rfl) rfl (by kernel_rfl) (by exact rfl)) ?_) | (refine wl (.pointer (some ⟨b1, off1 + j * 2 + 1, none⟩)) (by kernel_rfl) (by exact ex_field1 (by exact rfl) Try.underlying64 (by exact rfl) rfl (by kernel_rfl) (by exact rfl)) ?_))
          go_ret2
          exact ⟨_, rfl, OwnB.nil _ _, hB2⟩
        case neg =>
          have hoi : ¬ ((40 : Int) < (tn : Int) + 2 + (m : Int)) := by omega
          have hin2 : InB [pk, 2 + (m : Int)] := fun v hv => by
            rcases List.mem_cons.1 hv with rfl | hv
            · omega
            · rw [List.mem_singleton] at hv; omega
          clear hmo hp hm hT hT2 htn y5 K hal
          go_wp2_with (first | (refine wl (.pointer (some ⟨b1, off1 + j * 2, none⟩)) (by kernel_rfl) (by exact ex_index2 (by exact rfl) Try.underlying45 (by kernel_rfl) (by exact rfl) (by exact rfl) hkM) ?_) | (refine wl (.pointer (some ⟨b1, off1 + j * 2, none⟩)) (by kernel_rfl) (by exact ex_field0 (by exact rfl) Try.underlying64 (by exact rfl) rfl (by kernel_rfl) (by exact rfl)) ?_) | (refine wl (.pointer (some ⟨b1, off1 + j * 2 + 1, none⟩)) (by kernel_rfl) (by exact ex_field1 (by exact rfl) Try.underlying64 (by exact rfl) rfl (by kernel_rfl) (by exact rfl)) ?_))
          have hS0 := hB2.trans (below_drew _ _ : Below w.heap.size wr2 wr2.drew)
          have o1 := hO.drew
          refine wp_region_held_drew (S := fun W => Below w.heap.size w W) (by kernel_rfl) hS0 (fun hS => ?_)
          generalize wr2.drew = W1 at hS o1 ⊢
          -- REGION 12
          refine tk (i := 0) (.slice A5 tn c5) hS rfl (by kernel_rfl) (by kernel_rfl) (by kernel_rfl) (fun _ _ _ h => h) (by kernel_rfl) (by intro _ _; exact rfl) ?_
          simp only [Act.put, List.setIfInBounds_toArray, List.set_cons_zero, List.set_cons_succ]
          refine tk (i := 1) (.slice (some ⟨b1, off1, none⟩) k c) hS rfl (by kernel_rfl) (by kernel_rfl) (by kernel_rfl) (fun _ _ _ h => h) (by kernel_rfl) (by intro _ _; exact rfl) ?_
          simp only [Act.put, List.setIfInBounds_toArray, List.set_cons_zero, List.set_cons_succ]
          refine tk (i := 2) (.int .i64 (j : Int)) hS rfl (by kernel_rfl) (by kernel_rfl) (by kernel_rfl) (fun _ _ _ h => h) (by kernel_rfl) (by intro _ _; exact rfl) ?_
          simp only [Act.put, List.setIfInBounds_toArray, List.set_cons_zero, List.set_cons_succ]
          refine tk (i := 3) (.pointer (some ⟨b1, off1 + j * 2, none⟩)) hS rfl (by kernel_rfl) (by kernel_rfl) (by kernel_rfl) (fun _ _ _ h => h) (by kernel_rfl) (by intro _ _; exact ex_index2 (by exact rfl) Try.underlying45 (by kernel_rfl) (by exact rfl) (by exact rfl) hkM) ?_
          simp only [Act.put, List.setIfInBounds_toArray, List.set_cons_zero, List.set_cons_succ]
          refine tk (i := 4) (.pointer (some ⟨b1, off1 + j * 2, none⟩)) hS rfl (by kernel_rfl) (by kernel_rfl) (by kernel_rfl) (fun _ _ _ h => h) (by kernel_rfl) (by intro _ _; exact ex_field0 (by exact rfl) Try.underlying64 (by exact rfl) rfl (by kernel_rfl) (by exact rfl)) ?_
          simp only [Act.put, List.setIfInBounds_toArray, List.set_cons_zero, List.set_cons_succ]
          refine tk (i := 5) (.int .u8 pk) hS rfl (by kernel_rfl) (by kernel_rfl) (by kernel_rfl) (fun _ _ _ h => h) (by kernel_rfl) (by intro _ h; exact ex_cell (by exact rfl) Try.underlying5 rfl (by exact rfl) ((h.cell (p := ⟨b1, off1 + j * 2, none⟩) hb1).trans e0)) ?_
          simp only [Act.put, List.setIfInBounds_toArray, List.set_cons_zero, List.set_cons_succ]
          refine tk (i := 6) (.slice (some ⟨b1, off1, none⟩) k c) hS rfl (by kernel_rfl) (by kernel_rfl) (by kernel_rfl) (fun _ _ _ h => h) (by kernel_rfl) (by intro _ _; exact rfl) ?_
          simp only [Act.put, List.setIfInBounds_toArray, List.set_cons_zero, List.set_cons_succ]
          refine tk (i := 7) (.int .i64 (j : Int)) hS rfl (by kernel_rfl) (by kernel_rfl) (by kernel_rfl) (fun _ _ _ h => h) (by kernel_rfl) (by intro _ _; exact rfl) ?_
          simp only [Act.put, List.setIfInBounds_toArray, List.set_cons_zero, List.set_cons_succ]
          refine tk (i := 8) (.pointer (some ⟨b1, off1 + j * 2, none⟩)) hS rfl (by kernel_rfl) (by kernel_rfl) (by kernel_rfl) (fun _ _ _ h => h) (by kernel_rfl) (by intro _ _; exact ex_index2 (by exact rfl) Try.underlying45 (by kernel_rfl) (by exact rfl) (by exact rfl) hkM) ?_
          simp only [Act.put, List.setIfInBounds_toArray, List.set_cons_zero, List.set_cons_succ]
          refine tk (i := 9) (.pointer (some ⟨b1, off1 + j * 2 + 1, none⟩)) hS rfl (by kernel_rfl) (by kernel_rfl) (by kernel_rfl) (fun _ _ _ h => h) (by kernel_rfl) (by intro _ _; exact ex_field1 (by exact rfl) Try.underlying64 (by exact rfl) rfl (by kernel_rfl) (by exact rfl)) ?_
          simp only [Act.put, List.setIfInBounds_toArray, List.set_cons_zero, List.set_cons_succ]
          refine tk (i := 10) (.slice pA m pc) hS rfl (by kernel_rfl) (by kernel_rfl) (by kernel_rfl) (fun _ _ _ h => h) (by kernel_rfl) (by intro _ h; exact ex_cell (by exact rfl) Try.underlying25 rfl (by exact rfl) ((h.cell (p := ⟨b1, off1 + j * 2 + 1, none⟩) hb1).trans e1)) ?_
          simp only [Act.put, List.setIfInBounds_toArray, List.set_cons_zero, List.set_cons_succ]
          refine tk (i := 11) (.int .i64 (m : Int)) hS rfl (by kernel_rfl) (by kernel_rfl) (by kernel_rfl) (fun _ _ _ h => h) (by kernel_rfl) (by intro _ _; exact ex_len (by exact rfl) Try.underlying25 (by exact rfl)) ?_
          simp only [Act.put, List.setIfInBounds_toArray, List.set_cons_zero, List.set_cons_succ]
          refine tk (i := 12) (.int .i64 (2 + (m : Int))) hS rfl (by kernel_rfl) (by kernel_rfl) (by kernel_rfl) (fun _ _ _ h => h) (by kernel_rfl) (by intro _ _; exact ex_bin (by exact rfl) (by exact rfl) (by exact rfl) (by decide) (add_i64r _ _ _ (by omega) _)) ?_
          simp only [Act.put, List.setIfInBounds_toArray, List.set_cons_zero, List.set_cons_succ]
          refine tk (i := 13) (.int .u8 (2 + (m : Int))) hS rfl (by kernel_rfl) (by kernel_rfl) (by kernel_rfl) (fun _ _ _ h => h) (by kernel_rfl) (by intro _ h; exact ex_conv (by exact rfl) (by exact rfl) (conv_u8' _ _ _ _ rfl rfl (by omega) _)) ?_
          simp only [Act.put, List.setIfInBounds_toArray, List.set_cons_zero, List.set_cons_succ]
          refine tk_one (by kernel_rfl) (op_build (i := 14) [.int .u8 pk, .int .u8 (2 + (m : Int))] rfl (by kernel_rfl) rfl Try.underlying25 (by kernel_rfl) (by kernel_rfl) rfl (by decide) (by decide) (by first | rfl | (simp only [List.map_toArray, List.map_cons, List.map_nil] <;> rfl)) (all2 rfl rfl) (fun _ hb => Below.trans hS (hb.mono (Below.size hS))) ?_)
          intro g5 W2 hQ hge _ hb2 hS2
          have o2 := o1.below hb2
          have yq : By (g5 + 1) W2 (some ⟨g5, 0, none⟩) 2 2 [pk, 2 + (m : Int)] := By.blk' (t := 5) (fz := (0, 0)) hQ (Nat.lt_succ_self _) hin2 (show 2 ≤ 9223372036854775807 by decide) rfl rfl
          simp only [Act.put, List.setIfInBounds_toArray, List.set_cons_zero, List.set_cons_succ]
          refine tk_one (by kernel_rfl) (op_app (i := 15) (.tmp 45) (.tmp 59) _ rfl (by kernel_rfl) rfl Try.underlying25 (by kernel_rfl) w.heap.size _ _ rfl (o2) _ _ _ _ _ rfl (yq) (by rw [hTn.out]; omega) ((Below.size hS2)) (fun _ hb => Below.trans hS2 hb) ?_)
          intro v4 W3 o3 hb3 hS3
          simp only [Act.put, List.setIfInBounds_toArray, List.set_cons_zero, List.set_cons_succ]
          refine tk (i := 16) (v4) hS3 rfl (by kernel_rfl) (by kernel_rfl) (by kernel_rfl) (fun _ _ _ h => h) (by kernel_rfl) (by intro _ _; exact rfl) ?_
          simp only [Act.put, List.setIfInBounds_toArray, List.set_cons_zero, List.set_cons_succ]
          refine wpAnyH_done (by kernel_rfl) ?_ _
          have q0 := (Below.cell hS3 (p := ⟨b1, off1 + j * 2 + 1, none⟩) hb1).trans e1
          have hlen4 : (T ++ [pk, 2 + (m : Int)]).length + m ≤ 140737488355328 := by rw [List.length_append, hTn.out, List.length_cons, List.length_singleton]; omega
          go_wp2_with (first | (refine wl (.pointer (some ⟨b1, off1 + j * 2, none⟩)) (by kernel_rfl) (by exact ex_index2 (by exact rfl) Try.underlying45 (by kernel_rfl) (by exact rfl) (by exact rfl) hkM) ?_) | (refine wl (.pointer (some ⟨b1, off1 + j * 2, none⟩)) (by kernel_rfl) (by exact ex_field0 (by exact rfl) Try.underlying64 (by exact rfl) rfl (by kernel_rfl) (by exact rfl)) ?_) | (refine wl (.pointer (some ⟨b1, off1 + j * 2 + 1, none⟩)) (by kernel_rfl) (by exact ex_field1 (by exact rfl) Try.underlying64 (by exact rfl) rfl (by kernel_rfl) (by exact rfl)) ?_) | (at_builtin; refine wpList_appB _ rfl _ _ 25 rfl Try.underlying25 info8 w.heap.size _ _ rfl o3 w.heap.size pA m pc pl rfl (yP.below hS3 (Nat.le_refl _)) hlen4 (Below.size hS3) ?_; intro v5 W4 o4 hg4 _; have hb4 := below_own o3.own hg4 (Below.size hS3)))
          go_roundw
          case rel => exact ⟨_, j + 1, rfl, by omega, by go_num, by have h := o4; rw [List.append_assoc] at h; rw [hT2H.out, hstep.out]; exact h, by rw [hT2H.out]; omega, Below.trans hS3 hb4⟩
          case measure => simp [intOf]; omega
          -- END 12
    case pos =>
    have hkz : (k : Int) < (M : Int) := by omega
    obtain ⟨⟨pk, pA, pc, pl⟩, hp⟩ : ∃ p, ps[k]? = some p := ⟨ps[k]'(by rw [hMH.out]; exact hkM), List.getElem?_eq_getElem _⟩
    obtain ⟨b1, off1, hA1, hb1, e0, e1, hr1, hr2, yP⟩ := K.at_ k _ hp
    subst hA1
    have hbt := pkBad_take hp hbad.out
    have hbe := pkErr_bad hp
    dsimp only at e0 e1 yP hr1 hr2 hbt hbe
    unfold kdV at e1
    dsimp only at e1
    obtain ⟨m, hm⟩ : ∃ m, pl.length = m := ⟨_, rfl⟩
    have hbo : pkBadOne (pk, pl) = decide (pk < 2 ∨ 38 < m) := by rw [← hm]; rfl
    rw [hbo] at hbt hbe
    rw [hm] at e1 yP
    have hmb := Nat.le_trans yP.cap yP.big
    have hbt := Lib.hid hbt
    have hbe := Lib.hid hbe
    clear hp hm hbo K
    have q0 := (hBr.cell (p := ⟨b1, off1 + k * 2, none⟩) hb1).trans e0
    have q1 := (hBr.cell (p := ⟨b1, off1 + k * 2 + 1, none⟩) hb1).trans e1
    by_cases hb1' : pk < 2
    case pos =>
      obtain rfl : E = 47 := by rw [← hEH.out]; exact hbe.out (by simp [hb1'])
      obtain rfl : R = [] := by rw [← hRH.out]; rfl
      clear hbad yP
      go_wp2_with (first | (refine wl (.pointer (some ⟨b1, off1 + k * 2, none⟩)) (by kernel_rfl) (by exact ex_index2 (by exact rfl) Try.underlying45 (by kernel_rfl) (by exact rfl) (by exact rfl) hkM) ?_) | (refine wl (.pointer (some ⟨b1, off1 + k * 2, none⟩)) (by kernel_rfl) (by exact ex_field0 (by exact rfl) Try.underlying64 (by exact rfl) rfl (by kernel_rfl) (by exact rfl)) ?_) | (refine wl (.pointer (some ⟨b1, off1 + k * 2 + 1, none⟩)) (by kernel_rfl) (by exact ex_field1 (by exact rfl) Try.underlying64 (by exact rfl) rfl (by kernel_rfl) (by exact rfl)) ?_))
      go_ret2
      exact ⟨_, rfl, OwnB.nil _ _, hBr⟩
    case neg =>
    by_cases hb2' : 38 < m
    case pos =>
      obtain rfl : E = 47 := by rw [← hEH.out]; exact hbe.out (by simp [hb2'])
      obtain rfl : R = [] := by rw [← hRH.out]; rfl
      have hb3' : (38 : Int) < (m : Int) := by omega
      clear hbad yP
      go_wp2_with (first | (refine wl (.pointer (some ⟨b1, off1 + k * 2, none⟩)) (by kernel_rfl) (by exact ex_index2 (by exact rfl) Try.underlying45 (by kernel_rfl) (by exact rfl) (by exact rfl) hkM) ?_) | (refine wl (.pointer (some ⟨b1, off1 + k * 2, none⟩)) (by kernel_rfl) (by exact ex_field0 (by exact rfl) Try.underlying64 (by exact rfl) rfl (by kernel_rfl) (by exact rfl)) ?_) | (refine wl (.pointer (some ⟨b1, off1 + k * 2 + 1, none⟩)) (by kernel_rfl) (by exact ex_field1 (by exact rfl) Try.underlying64 (by exact rfl) rfl (by kernel_rfl) (by exact rfl)) ?_))
      go_ret2
      exact ⟨_, rfl, OwnB.nil _ _, hBr⟩
    case neg =>
      have hgood : Hid ((kdL (ps.take (k + 1))).any pkBadOne = false) := Lib.hid (by rw [hbt.out, decide_eq_false_iff_not]; omega)
      have hb3' : ¬ ((38 : Int) < (m : Int)) := by omega
      clear hbad yP hbt hbe
      go_wp2_with (first | (refine wl (.pointer (some ⟨b1, off1 + k * 2, none⟩)) (by kernel_rfl) (by exact ex_index2 (by exact rfl) Try.underlying45 (by kernel_rfl) (by exact rfl) (by exact rfl) hkM) ?_) | (refine wl (.pointer (some ⟨b1, off1 + k * 2, none⟩)) (by kernel_rfl) (by exact ex_field0 (by exact rfl) Try.underlying64 (by exact rfl) rfl (by kernel_rfl) (by exact rfl)) ?_) | (refine wl (.pointer (some ⟨b1, off1 + k * 2 + 1, none⟩)) (by kernel_rfl) (by exact ex_field1 (by exact rfl) Try.underlying64 (by exact rfl) rfl (by kernel_rfl) (by exact rfl)) ?_))
      go_roundw
      case rel => exact ⟨_, k + 1, rfl, by omega, by go_num, hgood, hBr⟩
      case measure => simp [intOf]; omega
end Go.Proofs.Ytfkcejfjmfliaaa
