/-
  Lemmas and walks for the row of TosixTells (part 34 of 39).
-/
import Derived.Test.YtijnifbpbgckgaaTtAB
import Derived.Test.YtijnifbpbgckgaaTtAF
import Derived.Test.YtijnifbpbgckgaaTtAG
import Derived.Test.YtijnifbpbgckgaaTtBA
set_option linter.unusedVariables false
set_option linter.unusedSimpArgs false
namespace Go.Proofs.Ytijnifbpbgckgaa
open Go.RowKit Go.Shelf

theorem info3 : (Try.prog.info? 3).map (fun i => (i.zero, i.size, i.bytes)) = some (some (.int .i64 0), 1, 8) := by kernel_rfl
def i64s (l : List Int) : List Value := l.map (Value.int .i64)
theorem i64s_append (l m : List Int) : i64s (l ++ m) = i64s l ++ i64s m := by simp [i64s]
theorem i64s_one (l : List Int) : ∀ u ∈ i64s l, u.oneCell' = true := fun u hu => by obtain ⟨y, _, rfl⟩ := List.mem_map.1 hu; rfl

theorem row_any (A : Option Addr) (c : Nat) (xs : List Sl) (w : World) (hI : Parts w.heap.size w A xs.length c xs) (htot : (flat xs).length ≤ 140737488355328) :
    Calls Try.prog 95 #[.slice A xs.length c] w fun e w' => ∃ v, e = .returned v ∧ OwnB w' w.heap.size v (flat xs) ∧ Below w.heap.size w w' := by
  have hc63 : xs.length ≤ 9223372036854775807 := by have := hI.cap; have := hI.big; omega
  go_enter Try.func95, Try.ntmps95
  go_wp2
  go_loopw [3, 4] (fun v i wr => ∃ k : Nat, k ≤ xs.length ∧ i = .int .i64 k ∧ OwnB wr w.heap.size v (flat (xs.take k)) ∧ Below w.heap.size w wr) (fun _ i _ => xs.length - (intOf i).toNat)
  case atStart => exact ⟨0, Nat.zero_le _, rfl, OwnB.nil _ _, Below.refl _ _⟩
  case round =>
    obtain ⟨k, hk, rfl, hown, hB⟩ := hrel
    by_cases hlt : k < xs.length
    · obtain ⟨b, off, hA, hb, hcell, hy⟩ := (hI.below hB (Nat.le_refl _)).at_ k xs[k] (List.getElem?_eq_getElem hlt)
      subst hA
      have hts := flat_take_succ hlt
      have h1 := flat_take_le xs (k + 1)
      rw [hts, List.length_append] at h1
      have hk63 : k < 9223372036854775807 := by omega
      have htsH := Lib.hid hts
      clear hts
      go_wp2_with (at_builtin; refine wpList_appB _ rfl _ _ _ rfl Try.underlying25 info8 _ _ _ rfl hown _ _ _ _ _ rfl hy (by omega) hB.size ?_; intro v' w' hown' hg _; have hB' := hB.trans (below_app hown hg hB.size))
      go_roundw
      case rel => exact ⟨k + 1, by omega, by go_num, by rw [htsH.out]; exact hown', hB'⟩
      case measure => simp [intOf]; omega
    · obtain rfl : k = xs.length := by omega
      rw [List.take_length] at hown
      obtain ⟨A', c', rfl, _⟩ := own_shape hown.own
      go_wp2
      go_ret
      exact ⟨_, rfl, hown, hB⟩

/-- a sum that is taken modulo 65535 whenever it is greater -/
theorem added_step {n x : Int} (hn : 0 ≤ n ∧ n < 65536) (hx : 0 ≤ x ∧ x < 65536) : addw n x = if n + x > 65535 then n + x - 65535 else n + x := by unfold addw; split <;> omega

theorem added_any (B : Nat) (A : Option Addr) (c : Nat) (ws : List Int) (w : World) (hr : Row B w A ws.length c (i64s ws)) (hc : c ≤ 9223372036854775807) (hws : ∀ x ∈ ws, 0 ≤ x ∧ x < 65536) :
    Calls Try.prog 93 #[.slice A ws.length c] w fun e w' => e = .returned (.int .i64 (fold 0 ws)) ∧ w = w' := by
  have hcap := hr.cap
  go_enter Try.func93, Try.ntmps93
  go_wp2
  go_loop [3, 4] (fun s i => ∃ k : Nat, k ≤ ws.length ∧ i = .int .i64 k ∧ s = .int .i64 (fold 0 (ws.take k))) (fun _ i => ws.length - (intOf i).toNat)
  case atStart => exact ⟨0, Nat.zero_le _, rfl, rfl⟩
  case round =>
    obtain ⟨k, hk, rfl, rfl⟩ := hrel
    have hs := fold_rng 0 (by omega) (ws.take k) (fun x hx => hws x (List.mem_of_mem_take hx))
    by_cases hlt : k < ws.length
    · obtain ⟨b, off, u, hA, hb, hu, hcell⟩ := hr.get hlt
      subst hA
      have hx := hws ws[k] (List.getElem_mem hlt)
      obtain rfl : u = .int .i64 ws[k] := by simpa [i64s, List.getElem?_eq_getElem hlt] using hu.symm
      have hst : fold 0 (ws.take (k + 1)) = addw (fold 0 (ws.take k)) ws[k] := by rw [List.take_succ_eq_append_getElem hlt, fold_snoc]
      rw [added_step hs hx] at hst
      have hstH := Lib.hid hst
      clear hst
      have hk63 : k < 9223372036854775807 := by omega
      generalize ws[k] = x at hcell hx hstH
      generalize fold 0 (ws.take k) = s at hs hstH
      clear hu
      by_cases hgt : s + x > 65535
      · go_wp2
        go_round
        case rel => exact ⟨k + 1, by omega, by go_num, by rw [hstH.out, if_pos hgt]⟩
        case measure => simp [intOf]; omega
      · go_wp2
        go_round
        case rel => exact ⟨k + 1, by omega, by go_num, by rw [hstH.out, if_neg hgt]⟩
        case measure => simp [intOf]; omega
    · obtain rfl : k = ws.length := by omega
      rw [List.take_length] at *
      go_wp2
      go_ret
      exact ⟨rfl, rfl⟩

theorem take_even {l : List Int} {k : Nat} (h : 2 * k ≤ l.length) : (l.take (2 * k)).length % 2 = 0 := by rw [List.length_take]; omega
theorem wds_take_two {l : List Int} {k : Nat} (h : 2 * k + 1 < l.length) : wds (l.take (2 * (k + 1))) = wds (l.take (2 * k)) ++ [l[2 * k] * 256 + l[2 * k + 1]] := by
  rw [show 2 * (k + 1) = 2 * k + 1 + 1 from by omega, List.take_succ_eq_append_getElem h, List.take_succ_eq_append_getElem (by omega), List.append_assoc]
  exact wds_two _ (take_even (by omega)) _ _
theorem wds_take_one {l : List Int} {k : Nat} (h : 2 * k + 1 = l.length) : wds (l.take (2 * (k + 1))) = wds (l.take (2 * k)) ++ [l[2 * k] * 256] := by
  have h1 : l.take (2 * (k + 1)) = l.take (2 * k) ++ [l[2 * k]] := by
    rw [← List.take_succ_eq_append_getElem (by omega), List.take_of_length_le (by omega), List.take_of_length_le (by omega)]
  rw [h1]
  exact wds_one _ (take_even (by omega)) _
theorem wds_take_len (l : List Int) (k : Nat) (h : 2 * k ≤ l.length) : (wds (l.take (2 * k))).length ≤ l.length := by
  rw [wds_even _ (take_even h)]
  have := runw_le (l.take (2 * k))
  rw [List.length_take] at this
  omega

set_option maxHeartbeats 1000000 in
theorem rwords_any (B : Nat) (A : Option Addr) (c : Nat) (l : List Int) (w : World) (hr : By B w A l.length c l) (hB0 : B ≤ w.heap.size) (hbig : l.length ≤ 8796093022208) :
    Calls Try.prog 94 #[.slice A l.length c] w fun e w' => ∃ v, e = .returned v ∧ w'.ownsRow w.heap.size 3 1 v (wds l).length (i64s (wds l)) ∧ Below w.heap.size w w' := by
  go_enter Try.func94, Try.ntmps94
  go_wp2
  go_loopw [3, 4] (fun v i wr => ∃ k : Nat, 2 * k ≤ l.length + 1 ∧ i = .int .i64 ((2 * k : Nat) : Int) ∧ wr.ownsRow w.heap.size 3 1 v (wds (l.take (2 * k))).length (i64s (wds (l.take (2 * k)))) ∧ Below w.heap.size w wr) (fun _ i _ => l.length + 1 - (intOf i).toNat)
  case atStart => exact ⟨0, by omega, rfl, World.ownsRow_nil _ _ _ _, Below.refl _ _⟩
  case round =>
    obtain ⟨k, hk, rfl, hown, hB⟩ := hrel
    by_cases hlt : 2 * k < l.length
    · have hy := hr.below hB hB0
      obtain ⟨b, off, x, hA, hb, hx, hcell, hx0, hx1⟩ := hy.get hlt
      subst hA
      have hlen := wds_take_len l k (by omega)
      by_cases ht : 2 * k + 1 < l.length
      · obtain ⟨b', off', y, hA', hb', hy', hcell', hy0, hy1⟩ := hy.get ht
        injection hA' with hA'
        injection hA' with hA1 hA2
        subst hA1 hA2
        have hst := wds_take_two ht
        rw [List.getElem?_eq_getElem hlt] at hx
        rw [List.getElem?_eq_getElem ht] at hy'
        injection hx with hx
        injection hy' with hy'
        rw [hx, hy'] at hst
        have hstH := Lib.hid hst
        clear hst hx hy'
        go_wp2_with (at_builtin; refine wpList_appRow _ rfl _ _ _ rfl _ _ 8 Try.underlying148 info3 rfl _ _ _ _ rfl (hown.alloc _) _ _ _ _ (i64s [x * 256 + y]) rfl (Row.blk (t := 3) (fz := (0, 0)) (Has.newAt rfl) (Nat.le_refl _) rfl rfl) (i64s_one _) (by simp only [maxLen]; omega) (by omega) (by simp; have := hB.size; omega) ?_; intro v' w' hown' hg _; have hB' := hB.trans (((Below.refl _ _).alloc hB.size _).grown hg (by simp; have := hB.size; omega) (fun k hk => (hown.lt k hk).1)))
        go_roundw
        case rel => exact ⟨k + 1, by omega, by go_num, by rw [hstH.out, List.length_append, i64s_append]; exact hown', hB'⟩
        case measure => simp [intOf]; omega
      · have he : 2 * k + 1 = l.length := by omega
        have hst := wds_take_one he
        rw [List.getElem?_eq_getElem hlt] at hx
        injection hx with hx
        rw [hx] at hst
        have hstH := Lib.hid hst
        clear hst hx he
        go_wp2_with (at_builtin; refine wpList_appRow _ rfl _ _ _ rfl _ _ 8 Try.underlying148 info3 rfl _ _ _ _ rfl (hown.alloc _) _ _ _ _ (i64s [x * 256]) rfl (Row.blk (t := 3) (fz := (0, 0)) (Has.newAt rfl) (Nat.le_refl _) rfl rfl) (i64s_one _) (by simp only [maxLen]; omega) (by omega) (by simp; have := hB.size; omega) ?_; intro v' w' hown' hg _; have hB' := hB.trans (((Below.refl _ _).alloc hB.size _).grown hg (by simp; have := hB.size; omega) (fun k hk => (hown.lt k hk).1)))
        go_roundw
        case rel => exact ⟨k + 1, by omega, by go_num, by rw [hstH.out, List.length_append, i64s_append]; exact hown', hB'⟩
        case measure => simp [intOf]; omega
    · have he : l.take (2 * k) = l := List.take_of_length_le (by omega)
      rw [he] at hown
      clear he
      obtain ⟨A', c', rfl, _⟩ := own_shape hown
      go_wp2
      go_ret
      exact ⟨_, rfl, hown, hB⟩

/-- the reference's Fold -/
theorem rfold_any (A : Option Addr) (c : Nat) (xs : List Sl) (w : World) (hI : Parts w.heap.size w A xs.length c xs) (htot : (flat xs).length ≤ 8796093022208) :
    Calls Try.prog 60 #[.slice A xs.length c] w fun e w' => e = .returned (.int .u16 (sumw (flat xs))) ∧ Below w.heap.size w w' := by
  have hs := sumw_rng _ hI.rng
  have hwd := wds_rng _ hI.rng
  go_enter Try.func60, Try.ntmps60
  go_wp2_with (go_at_call 95; refine (row_any _ _ _ _ hI (by omega)).mono ?_; rintro e w1 ⟨v, rfl, hown1, hb1⟩; obtain ⟨A1, c1, rfl, hy1⟩ := hown1.by_)
  have hw1 := hb1.size
  go_wp2_with (go_at_call 94; refine (rwords_any _ _ _ _ _ hy1 (Nat.le_refl _) htot).mono ?_; rintro e w2 ⟨v, rfl, hown2, hb2⟩; obtain ⟨A2, c2, rfl, hc2⟩ := own_shape hown2)
  go_wp2_with (go_at_call 93; refine (added_any _ _ _ _ _ (own_row hown2) hc2 hwd).mono ?_; rintro e w3 ⟨rfl, rfl⟩)
  go_ret
  exact ⟨ret_int (by rw [IntKind.wrap_u16]; unfold sumw at hs ⊢; omega), hb1.trans (hb2.mono hw1)⟩
end Go.Proofs.Ytijnifbpbgckgaa
namespace Go.Proofs.Ytijnifbpbgckgaa
open Go.RowKit Go.Shelf

/-- the reference's Fold, its part in a new row -/
theorem rfold_one {w : World} {g : Nat} (A : Option Addr) (c k : Nat) (l : List Int) (hk : k = l.length) (h : Has w g (.cells #[.slice A k c] 25 (0, 0))) (hy : By w.heap.size w A l.length c l) (hs : l.length ≤ 8796093022208) :
    Calls Try.prog 60 #[.slice (some ⟨g, 0, none⟩) 1 1] w fun e W' => ∃ q : Int, e = .returned (.int .u16 q) ∧ Hid (q = sumw l) ∧ Below w.heap.size w W' := by
  subst hk
  have hP : Parts w.heap.size w (some ⟨g, 0, none⟩) 1 1 [(A, c, l)] := Parts.blk (xs := [(A, c, l)]) h (Nat.le_refl _) rfl (all1 hy) (by simp)
  have hf : flat [(A, c, l)] = l := by simp [flat]
  exact (rfold_any _ _ [(A, c, l)] _ hP (by rw [hf]; exact hs)).mono fun e w' ⟨he, hb⟩ => ⟨_, he, Lib.hid (by rw [hf]), hb⟩

set_option maxRecDepth 100000 in
set_option maxHeartbeats 4000000 in
theorem rread_bad (part : Bool) (A : Option Addr) (c : Nat) (l : List Int) (w : World) (hy : By w.heap.size w A l.length c l) (he : pe4 part l ≠ 0) :
    Calls Try.prog 89 #[.slice A l.length c, .bool part] w fun e w' => Told4p w.heap.size w' zero4 (pat4 (pe4 part l)) (pe4 part l) e ∧ Below w.heap.size w w' := by
  have hl := hy.rng
  have hV : Has (w.alloc (.cells z4cells 27)) w.heap.size (.cells z4cells 27 (0, 0)) := Has.newAt rfl
  have hB1 : Below w.heap.size w (w.alloc (.cells z4cells 27)) := (Below.refl _ _).alloc (Nat.le_refl _) _
  by_cases h20 : l.length < 20
  · have e1 : pe4 part l = 40 := by unfold pe4; rw [if_pos h20]
    rw [e1]
    clear e1 he
    go_enter Try.func89, Try.ntmps89
    go_wp2_with (refine wpList_store_row rfl 27 (.tmp 4) (.tmp 13) rfl w.heap.size _ rfl rfl 27 _ hV v4_info rfl (by simp [Value.oneCell']) ?_)
    exact bodyPost_ret (res_cell3 Try.results89 rfl (hV.setRow_same.load (P := Try.prog) 27 Try.underlying27 rfl v4_info) rfl rfl) rfl ⟨⟨pZ, _, _, rfl, Lib.hid rfl, Lib.hid rfl, own4_zero _ _⟩, hB1.trans below_setRow'⟩
  obtain ⟨b, off, rfl, hbl, -⟩ := hy.row.at_ (by omega)
  have d0 : (w.alloc (.cells z4cells 27)).cell? ⟨b, off, none⟩ = _ := cell_at4 hy hB1 (i := 0) (by omega)
  have r0 := getD_rng4 hl 0
  have hH : hl4 l = l.getD 0 0 % 16 * 4 := rfl
  obtain ⟨x0, hx0⟩ : ∃ x, l.getD 0 0 = x := ⟨_, rfl⟩
  rw [hx0] at d0 r0 hH
  unfold z4cells at d0
  have z0 : (0 : Int) < (l.length : Int) := by omega
  have h20' : (20 : Int) ≤ (l.length : Int) := by omega
  by_cases h41 : x0 / 16 = 4
  case neg =>
    have e1 : pe4 part l = 41 := by unfold pe4; rw [if_neg h20, hx0, if_pos h41]
    rw [e1]
    clear e1 he hH hx0
    have h41 : (x0 / 16 != 4) = true := by simpa using h41
    go_enter Try.func89, Try.ntmps89
    go_wp2_with (refine wpList_store_row rfl 27 (.tmp 4) (.tmp 19) rfl w.heap.size _ rfl rfl 27 _ hV v4_info rfl (by simp [Value.oneCell']) ?_)
    exact bodyPost_ret (res_cell3 Try.results89 rfl (hV.setRow_same.load (P := Try.prog) 27 Try.underlying27 rfl v4_info) rfl rfl) rfl ⟨⟨pZ, _, _, rfl, Lib.hid rfl, Lib.hid rfl, own4_zero _ _⟩, hB1.trans below_setRow'⟩
  obtain ⟨k, hk⟩ : ∃ k : Nat, x0 % 16 * 4 = (k : Int) := ⟨(x0 % 16 * 4).toNat, by omega⟩
  rw [hk] at hH
  have hkb : k ≤ 60 := by omega
  by_cases h42 : k < 20 ∨ l.length < k
  · have e1 : pe4 part l = 42 := by unfold pe4; rw [if_neg h20, hx0, if_neg (by simp [h41]), hH, if_pos (by omega)]
    rw [e1]
    clear e1 he hH hx0
    rcases Nat.lt_or_ge k 20 with h1 | h1
    · have h1 : (k : Int) < 20 := by omega
      clear h42
      go_enter Try.func89, Try.ntmps89
      go_wp2_with (refine wpList_store_row rfl 27 (.tmp 4) (.tmp 34) rfl w.heap.size _ rfl rfl 27 _ hV v4_info rfl (by simp [Value.oneCell']) ?_)
      exact bodyPost_ret (res_cell3 Try.results89 rfl (hV.setRow_same.load (P := Try.prog) 27 Try.underlying27 rfl v4_info) rfl rfl) rfl ⟨⟨pZ, _, _, rfl, Lib.hid rfl, Lib.hid rfl, own4_zero _ _⟩, hB1.trans below_setRow'⟩
    · have h2 : (l.length : Int) < (k : Int) := by omega
      have h1 : (20 : Int) ≤ (k : Int) := by omega
      clear h42
      go_enter Try.func89, Try.ntmps89
      go_wp2_with (refine wpList_store_row rfl 27 (.tmp 4) (.tmp 34) rfl w.heap.size _ rfl rfl 27 _ hV v4_info rfl (by simp [Value.oneCell']) ?_)
      exact bodyPost_ret (res_cell3 Try.results89 rfl (hV.setRow_same.load (P := Try.prog) 27 Try.underlying27 rfl v4_info) rfl rfl) rfl ⟨⟨pZ, _, _, rfl, Lib.hid rfl, Lib.hid rfl, own4_zero _ _⟩, hB1.trans below_setRow'⟩
  have h1 : (20 : Int) ≤ (k : Int) := by omega
  have h2 : (k : Int) ≤ (l.length : Int) := by omega
  have d2 : (w.alloc (.cells z4cells 27)).cell? ⟨b, off + 2, none⟩ = _ := cell_at4 hy hB1 (i := 2) (by omega)
  have d3 : (w.alloc (.cells z4cells 27)).cell? ⟨b, off + 3, none⟩ = _ := cell_at4 hy hB1 (i := 3) (by omega)
  unfold z4cells at d2 d3
  have r2 := getD_rng4 hl 2
  have r3 := getD_rng4 hl 3
  have hT : tot4 l = l.getD 2 0 * 256 + l.getD 3 0 := rfl
  obtain ⟨x2, hx2⟩ : ∃ x, l.getD 2 0 = x := ⟨_, rfl⟩
  obtain ⟨x3, hx3⟩ : ∃ x, l.getD 3 0 = x := ⟨_, rfl⟩
  rw [hx2] at d2 r2 hT
  rw [hx3] at d3 r3 hT
  have z2 : (2 : Int) < (l.length : Int) := by omega
  have z3 : (3 : Int) < (l.length : Int) := by omega
  obtain ⟨hsl, yk⟩ := hy.to_ (P := Try.prog) 25 Try.underlying25 (by kernel_rfl) (k := k) (by omega)
  have yk := Lib.hid yk
  by_cases h43 : (part = false ∧ tot4 l ≠ l.length) ∨ (part = true ∧ (tot4 l < l.length ∨ tot4 l < hl4 l))
  · have e1 : pe4 part l = 43 := by unfold pe4; rw [if_neg h20, hx0, if_neg (by simp [h41]), if_neg (by omega), if_pos h43]
    rw [e1]
    clear e1 he
    have hTn : ∀ T : Int, x2 * 256 + x3 = T → (part = false ∧ T ≠ l.length) ∨ (part = true ∧ T < l.length) := fun T hT2 => by
      have : tot4 l = T := hT.trans hT2
      rw [this, hH] at h43
      rcases h43 with h | ⟨h, h'⟩
      · exact .inl h
      · exact .inr ⟨h, by omega⟩
    clear h43 hT hH hx0
    have hTn := Lib.hid hTn
    go_enter Try.func89, Try.ntmps89
    go_wp2
    go_quiet (fail)
    have hV := hV.drewN (n := nq)
    have hB1 := hB1.trans (below_drewN _ _ nq)
    have hsz : ((w.alloc (.cells z4cells 27)).drewN nq).heap.size = w.heap.size + 1 := by simp [World.drewN]
    unfold z4cells at hV hB1 hsz
    generalize (w.alloc (.cells #[.int .u8 0, .int .u16 0, .bool false, .bool false, .int .i64 0, .int .u8 0, .int .u8 0, .int .u8 0, .int .u8 0, .int .u8 0, .int .u8 0, .int .u8 0, .int .u8 0, .int .u8 0, .int .u8 0, .slice none 0 0, .slice none 0 0] 27)).drewN nq = W at hV hB1 hsz ⊢
    obtain ⟨T, hT⟩ : ∃ T, x2 * 256 + x3 = T := ⟨_, rfl⟩
    have hTn := hTn.out T hT
    simp only [hT]
    clear hT d0 d2 d3
    rcases hTn with ⟨rfl, hn⟩ | ⟨rfl, hn⟩
    · by_cases hlt : T < l.length
      · clear hn
        go_wp2_with (refine wpList_store_row rfl 27 (.tmp 4) (.tmp 64) rfl w.heap.size _ rfl rfl 27 _ hV v4_info rfl (by simp [Value.oneCell']) ?_)
        exact bodyPost_ret (res_cell3 Try.results89 rfl (hV.setRow_same.load (P := Try.prog) 27 Try.underlying27 rfl v4_info) rfl rfl) rfl ⟨⟨pZ, _, _, rfl, Lib.hid rfl, Lib.hid rfl, own4_zero _ _⟩, hB1.trans below_setRow'⟩
      · have hgt : (l.length : Int) < T := by omega
        clear hn
        go_wp2_with (refine wpList_store_row rfl 27 (.tmp 4) (.tmp 64) rfl w.heap.size _ rfl rfl 27 _ hV v4_info rfl (by simp [Value.oneCell']) ?_)
        exact bodyPost_ret (res_cell3 Try.results89 rfl (hV.setRow_same.load (P := Try.prog) 27 Try.underlying27 rfl v4_info) rfl rfl) rfl ⟨⟨pZ, _, _, rfl, Lib.hid rfl, Lib.hid rfl, own4_zero _ _⟩, hB1.trans below_setRow'⟩
    · skip
      go_wp2_with (refine wpList_store_row rfl 27 (.tmp 4) (.tmp 64) rfl w.heap.size _ rfl rfl 27 _ hV v4_info rfl (by simp [Value.oneCell']) ?_)
      exact bodyPost_ret (res_cell3 Try.results89 rfl (hV.setRow_same.load (P := Try.prog) 27 Try.underlying27 rfl v4_info) rfl rfl) rfl ⟨⟨pZ, _, _, rfl, Lib.hid rfl, Lib.hid rfl, own4_zero _ _⟩, hB1.trans below_setRow'⟩
  obtain ⟨hp, hs⟩ : part = false ∧ sumw (l.take (hl4 l).toNat) ≠ 65535 := by
    refine Decidable.not_not.1 fun hn => he ?_
    unfold pe4
    rw [if_neg h20, hx0, if_neg (by simp [h41]), if_neg (by omega), if_neg h43, if_neg hn]
  have e1 : pe4 part l = 44 := by unfold pe4; rw [if_neg h20, hx0, if_neg (by simp [h41]), if_neg (by omega), if_neg h43, if_pos ⟨hp, hs⟩]
  rw [e1]
  subst hp
  rw [hH, Int.toNat_natCast] at hs
  have hTl : tot4 l = l.length := Decidable.not_not.1 fun hn => h43 (.inl ⟨rfl, hn⟩)
  rw [hT] at hTl
  have hs := Lib.hid hs
  have hTl := Lib.hid hTl
  clear e1 he hx0 h43 hH hT
  go_enter Try.func89, Try.ntmps89
  go_wp2
  go_quiet (fail)
  have hV := hV.drewN (n := nq)
  have hB1 := hB1.trans (below_drewN _ _ nq)
  have hsz : ((w.alloc (.cells z4cells 27)).drewN nq).heap.size = w.heap.size + 1 := by simp [World.drewN]
  unfold z4cells at hV hB1 hsz
  generalize (w.alloc (.cells #[.int .u8 0, .int .u16 0, .bool false, .bool false, .int .i64 0, .int .u8 0, .int .u8 0, .int .u8 0, .int .u8 0, .int .u8 0, .int .u8 0, .int .u8 0, .int .u8 0, .int .u8 0, .int .u8 0, .slice none 0 0, .slice none 0 0] 27)).drewN nq = W at hV hB1 hsz ⊢
  clear d0 d2 d3
  go_wp2_with fail
  refine (rfold_one (some ⟨b, off, none⟩) c k (l.take k) yk.out.len.symm (Has.newAt (by rw [hsz])) (by rw [yk.out.len]; exact (((yk.out.below hB1 (Nat.le_refl _)).alloc (by omega) _).more (by simp; omega))) (by rw [yk.out.len]; omega)).mono ?_
  rintro e w4 ⟨q, rfl, hq, hb⟩
  have hb : Below W.heap.size W w4 := ((Below.refl _ _).alloc (Nat.le_refl _) _).trans (hb.mono (by simp))
  have hV := hV.below hb hV.lt
  have hB1 := hB1.trans (hb.mono (by omega))
  have hq : (q != 65535) = true := by rw [hq.out]; simpa using hs.out
  clear hb
  go_wp2_with (refine wpList_store_row rfl 27 (.tmp 4) (.tmp 75) rfl w.heap.size _ rfl rfl 27 _ hV v4_info rfl (by simp [Value.oneCell']) ?_)
  exact bodyPost_ret (res_cell3 Try.results89 rfl (hV.setRow_same.load (P := Try.prog) 27 Try.underlying27 rfl v4_info) rfl rfl) rfl ⟨⟨pZ, _, _, rfl, Lib.hid rfl, Lib.hid rfl, own4_zero _ _⟩, hB1.trans below_setRow'⟩
end Go.Proofs.Ytijnifbpbgckgaa
