/-
  The walks of the reference of chapter 1: row, words, added, Fold, Of.
-/
import Derived.Test.YtfkcejfjmfliaaaConcat
import Derived.Test.YtfkcejfjmfliaaaPlainSum
namespace Go.Proofs.Ytfkcejfjmfliaaa
open Go.RowKit Go.Shelf

theorem info3 : (Try.prog.info? 3).map (fun i => (i.zero, i.size, i.bytes)) = some (some (.int .i64 0), 1, 8) := by kernel_rfl
def i64s (l : List Int) : List Value := l.map (Value.int .i64)
theorem i64s_length (l : List Int) : (i64s l).length = l.length := by simp [i64s]
theorem i64s_append (l m : List Int) : i64s (l ++ m) = i64s l ++ i64s m := by simp [i64s]
theorem i64s_one (l : List Int) : ∀ u ∈ i64s l, u.oneCell' = true := fun u hu => by obtain ⟨y, _, rfl⟩ := List.mem_map.1 hu; rfl

theorem row_any (A : Option Addr) (c : Nat) (xs : List Sl) (w : World) (hI : Parts w.heap.size w A xs.length c xs) (htot : (flat xs).length ≤ 140737488355328) :
    Calls Try.prog 53 #[.slice A xs.length c] w fun e w' => ∃ v, e = .returned v ∧ OwnB w' w.heap.size v (flat xs) ∧ Below w.heap.size w w' := by
  have hc63 : xs.length ≤ 9223372036854775807 := by have := hI.cap; have := hI.big; omega
  go_enter Try.func53, Try.ntmps53
  go_wp2
  go_loopw [3, 4] (fun v i wr => ∃ k : Nat, k ≤ xs.length ∧ i = .int .i64 k ∧ OwnB wr w.heap.size v (flat (xs.take k)) ∧ Below w.heap.size w wr) (fun _ i _ => xs.length - (intOf i).toNat)
  case atStart => exact ⟨0, Nat.zero_le _, rfl, OwnB.nil _ _, Below.refl _ _⟩
  case round =>
    obtain ⟨k, hk, rfl, hown, hB⟩ := hrel
    by_cases hlt : k < xs.length
    · obtain ⟨b, off, hA, hb, hcell, hy⟩ := (hI.below hB (Nat.le_refl _)).at_ k xs[k] (List.getElem?_eq_getElem hlt)
      subst hA
      have hts := flat_take_succ hlt
      have h1 := flat_take_le xs (k + 1)
      rw [hts, List.length_append] at h1
      have hk63 : k < 9223372036854775807 := by omega
      have htsH := Lib.hid hts
      clear hts
      go_wp2_with (at_builtin; refine wpList_appB _ rfl _ _ _ rfl Try.underlying25 info8 _ _ _ rfl hown _ _ _ _ _ rfl hy (by omega) hB.size ?_; intro v' w' hown' hg _; have hB' := hB.trans (below_app hown hg hB.size))
      go_roundw
      case rel => exact ⟨k + 1, by omega, by go_num, by rw [htsH.out]; exact hown', hB'⟩
      case measure => simp [intOf]; omega
    · obtain rfl : k = xs.length := by omega
      rw [List.take_length] at hown
      obtain ⟨A', c', rfl, _⟩ := own_shape hown.own
      go_wp2
      go_ret
      exact ⟨_, rfl, hown, hB⟩

/-- a sum that is taken modulo 65535 whenever it is greater -/
theorem added_step {n x : Int} (hn : 0 ≤ n ∧ n < 65536) (hx : 0 ≤ x ∧ x < 65536) : addw n x = if n + x > 65535 then n + x - 65535 else n + x := by unfold addw; split <;> omega

theorem added_any (B : Nat) (A : Option Addr) (c : Nat) (ws : List Int) (w : World) (hr : Row B w A ws.length c (i64s ws)) (hc : c ≤ 9223372036854775807) (hws : ∀ x ∈ ws, 0 ≤ x ∧ x < 65536) :
    Calls Try.prog 51 #[.slice A ws.length c] w fun e w' => e = .returned (.int .i64 (fold 0 ws)) ∧ w = w' := by
  have hcap := hr.cap
  go_enter Try.func51, Try.ntmps51
  go_wp2
  go_loop [3, 4] (fun s i => ∃ k : Nat, k ≤ ws.length ∧ i = .int .i64 k ∧ s = .int .i64 (fold 0 (ws.take k))) (fun _ i => ws.length - (intOf i).toNat)
  case atStart => exact ⟨0, Nat.zero_le _, rfl, rfl⟩
  case round =>
    obtain ⟨k, hk, rfl, rfl⟩ := hrel
    have hs := fold_rng 0 (by omega) (ws.take k) (fun x hx => hws x (List.mem_of_mem_take hx))
    by_cases hlt : k < ws.length
    · obtain ⟨b, off, u, hA, hb, hu, hcell⟩ := hr.get hlt
      subst hA
      have hx := hws ws[k] (List.getElem_mem hlt)
      obtain rfl : u = .int .i64 ws[k] := by simpa [i64s, List.getElem?_eq_getElem hlt] using hu.symm
      have hst : fold 0 (ws.take (k + 1)) = addw (fold 0 (ws.take k)) ws[k] := by rw [List.take_succ_eq_append_getElem hlt, fold_snoc]
      rw [added_step hs hx] at hst
      have hstH := Lib.hid hst
      clear hst
      have hk63 : k < 9223372036854775807 := by omega
      generalize ws[k] = x at hcell hx hstH
      generalize fold 0 (ws.take k) = s at hs hstH
      clear hu
      by_cases hgt : s + x > 65535
      · go_wp2
        go_round
        case rel => exact ⟨k + 1, by omega, by go_num, by rw [hstH.out, if_pos hgt]⟩
        case measure => simp [intOf]; omega
      · go_wp2
        go_round
        case rel => exact ⟨k + 1, by omega, by go_num, by rw [hstH.out, if_neg hgt]⟩
        case measure => simp [intOf]; omega
    · obtain rfl : k = ws.length := by omega
      rw [List.take_length] at *
      go_wp2
      go_ret
      exact ⟨rfl, rfl⟩

theorem take_even {l : List Int} {k : Nat} (h : 2 * k ≤ l.length) : (l.take (2 * k)).length % 2 = 0 := by rw [List.length_take]; omega
theorem wds_take_two {l : List Int} {k : Nat} (h : 2 * k + 1 < l.length) : wds (l.take (2 * (k + 1))) = wds (l.take (2 * k)) ++ [l[2 * k] * 256 + l[2 * k + 1]] := by
  rw [show 2 * (k + 1) = 2 * k + 1 + 1 from by omega, List.take_succ_eq_append_getElem h, List.take_succ_eq_append_getElem (by omega), List.append_assoc]
  exact wds_two _ (take_even (by omega)) _ _
theorem wds_take_one {l : List Int} {k : Nat} (h : 2 * k + 1 = l.length) : wds (l.take (2 * (k + 1))) = wds (l.take (2 * k)) ++ [l[2 * k] * 256] := by
  have h1 : l.take (2 * (k + 1)) = l.take (2 * k) ++ [l[2 * k]] := by
    rw [← List.take_succ_eq_append_getElem (by omega), List.take_of_length_le (by omega), List.take_of_length_le (by omega)]
  rw [h1]
  exact wds_one _ (take_even (by omega)) _
theorem wds_take_len (l : List Int) (k : Nat) (h : 2 * k ≤ l.length) : (wds (l.take (2 * k))).length ≤ l.length := by
  rw [wds_even _ (take_even h)]
  have := runw_le (l.take (2 * k))
  rw [List.length_take] at this
  omega

set_option maxHeartbeats 1000000 in
theorem rwords_any (B : Nat) (A : Option Addr) (c : Nat) (l : List Int) (w : World) (hr : By B w A l.length c l) (hB0 : B ≤ w.heap.size) (hbig : l.length ≤ 8796093022208) :
    Calls Try.prog 52 #[.slice A l.length c] w fun e w' => ∃ v, e = .returned v ∧ w'.ownsRow w.heap.size 3 1 v (wds l).length (i64s (wds l)) ∧ Below w.heap.size w w' := by
  go_enter Try.func52, Try.ntmps52
  go_wp2
  go_loopw [3, 4] (fun v i wr => ∃ k : Nat, 2 * k ≤ l.length + 1 ∧ i = .int .i64 ((2 * k : Nat) : Int) ∧ wr.ownsRow w.heap.size 3 1 v (wds (l.take (2 * k))).length (i64s (wds (l.take (2 * k)))) ∧ Below w.heap.size w wr) (fun _ i _ => l.length + 1 - (intOf i).toNat)
  case atStart => exact ⟨0, by omega, rfl, World.ownsRow_nil _ _ _ _, Below.refl _ _⟩
  case round =>
    obtain ⟨k, hk, rfl, hown, hB⟩ := hrel
    by_cases hlt : 2 * k < l.length
    · have hy := hr.below hB hB0
      obtain ⟨b, off, x, hA, hb, hx, hcell, hx0, hx1⟩ := hy.get hlt
      subst hA
      have hlen := wds_take_len l k (by omega)
      by_cases ht : 2 * k + 1 < l.length
      · obtain ⟨b', off', y, hA', hb', hy', hcell', hy0, hy1⟩ := hy.get ht
        injection hA' with hA'
        injection hA' with hA1 hA2
        subst hA1 hA2
        have hst := wds_take_two ht
        rw [List.getElem?_eq_getElem hlt] at hx
        rw [List.getElem?_eq_getElem ht] at hy'
        injection hx with hx
        injection hy' with hy'
        rw [hx, hy'] at hst
        have hstH := Lib.hid hst
        clear hst hx hy'
        go_wp2_with (at_builtin; refine wpList_appRow _ rfl _ _ _ rfl _ _ 8 Try.underlying82 info3 rfl _ _ _ _ rfl (hown.alloc _) _ _ _ _ (i64s [x * 256 + y]) rfl (Row.blk (t := 3) (fz := (0, 0)) (Has.newAt rfl) (Nat.le_refl _) rfl rfl) (i64s_one _) (by simp only [maxLen]; omega) (by omega) (by simp; have := hB.size; omega) ?_; intro v' w' hown' hg _; have hB' := hB.trans (((Below.refl _ _).alloc hB.size _).grown hg (by simp; have := hB.size; omega) (fun k hk => (hown.lt k hk).1)))
        go_roundw
        case rel => exact ⟨k + 1, by omega, by go_num, by rw [hstH.out, List.length_append, i64s_append]; exact hown', hB'⟩
        case measure => simp [intOf]; omega
      · have he : 2 * k + 1 = l.length := by omega
        have hst := wds_take_one he
        rw [List.getElem?_eq_getElem hlt] at hx
        injection hx with hx
        rw [hx] at hst
        have hstH := Lib.hid hst
        clear hst hx he
        go_wp2_with (at_builtin; refine wpList_appRow _ rfl _ _ _ rfl _ _ 8 Try.underlying82 info3 rfl _ _ _ _ rfl (hown.alloc _) _ _ _ _ (i64s [x * 256]) rfl (Row.blk (t := 3) (fz := (0, 0)) (Has.newAt rfl) (Nat.le_refl _) rfl rfl) (i64s_one _) (by simp only [maxLen]; omega) (by omega) (by simp; have := hB.size; omega) ?_; intro v' w' hown' hg _; have hB' := hB.trans (((Below.refl _ _).alloc hB.size _).grown hg (by simp; have := hB.size; omega) (fun k hk => (hown.lt k hk).1)))
        go_roundw
        case rel => exact ⟨k + 1, by omega, by go_num, by rw [hstH.out, List.length_append, i64s_append]; exact hown', hB'⟩
        case measure => simp [intOf]; omega
    · have he : l.take (2 * k) = l := List.take_of_length_le (by omega)
      rw [he] at hown
      clear he
      obtain ⟨A', c', rfl, _⟩ := own_shape hown
      go_wp2
      go_ret
      exact ⟨_, rfl, hown, hB⟩

/-- the reference's Fold -/
theorem rfold_any (A : Option Addr) (c : Nat) (xs : List Sl) (w : World) (hI : Parts w.heap.size w A xs.length c xs) (htot : (flat xs).length ≤ 8796093022208) :
    Calls Try.prog 45 #[.slice A xs.length c] w fun e w' => e = .returned (.int .u16 (sumw (flat xs))) ∧ Below w.heap.size w w' := by
  have hs := sumw_rng _ hI.rng
  have hwd := wds_rng _ hI.rng
  go_enter Try.func45, Try.ntmps45
  go_wp2_with (go_at_call 53; refine (row_any _ _ _ _ hI (by omega)).mono ?_; rintro e w1 ⟨v, rfl, hown1, hb1⟩; obtain ⟨A1, c1, rfl, hy1⟩ := hown1.by_)
  have hw1 := hb1.size
  go_wp2_with (go_at_call 52; refine (rwords_any _ _ _ _ _ hy1 (Nat.le_refl _) htot).mono ?_; rintro e w2 ⟨v, rfl, hown2, hb2⟩; obtain ⟨A2, c2, rfl, hc2⟩ := own_shape hown2)
  go_wp2_with (go_at_call 51; refine (added_any _ _ _ _ _ (own_row hown2) hc2 hwd).mono ?_; rintro e w3 ⟨rfl, rfl⟩)
  go_ret
  exact ⟨ret_int (by rw [IntKind.wrap_u16]; unfold sumw at hs ⊢; omega), hb1.trans (hb2.mono hw1)⟩
end Go.Proofs.Ytfkcejfjmfliaaa
