/-
  Lemmas and walks for the row of TofourPackets,TofourMessages,TofourInside (part 20 of 42).
-/
import Derived.Test.YtjnphelfloiadaaFpAG
import Derived.Test.YtjnphelfloiadaaFpAJ
import Derived.Test.YtjnphelfloiadaaFpAM
import Derived.Deep.RegionLaw
set_option linter.unusedVariables false
set_option linter.unusedSimpArgs false
namespace Go.Proofs.Ytjnphelfloiadaa
open Go.RowKit Go.Shelf

theorem info3 : (Try.prog.info? 3).map (fun i => (i.zero, i.size, i.bytes)) = some (some (.int .i64 0), 1, 8) := by kernel_rfl
def i64s (l : List Int) : List Value := l.map (Value.int .i64)
theorem i64s_append (l m : List Int) : i64s (l ++ m) = i64s l ++ i64s m := by simp [i64s]
theorem i64s_one (l : List Int) : ∀ u ∈ i64s l, u.oneCell' = true := fun u hu => by obtain ⟨y, _, rfl⟩ := List.mem_map.1 hu; rfl

theorem row_any (A : Option Addr) (c : Nat) (xs : List Sl) (w : World) (hI : Parts w.heap.size w A xs.length c xs) (htot : (flat xs).length ≤ 140737488355328) :
  Calls Try.prog 90 #[.slice A xs.length c] w fun e w' => ∃ v, e = .returned v ∧ OwnB w' w.heap.size v (flat xs) ∧ Below w.heap.size w w' := by
 have hc63 : xs.length ≤ 9223372036854775807 := by have := hI.cap; have := hI.big; omega
 go_enter Try.func90, Try.ntmps90
 go_wp2
 go_loopw [3, 4] (fun v i wr => ∃ k : Nat, k ≤ xs.length ∧ i = .int .i64 k ∧ OwnB wr w.heap.size v (flat (xs.take k)) ∧ Below w.heap.size w wr) (fun _ i _ => xs.length - (intOf i).toNat)
 case atStart => exact ⟨0, Nat.zero_le _, rfl, OwnB.nil _ _, Below.refl _ _⟩
 case round =>
  obtain ⟨k, hk, rfl, hown, hB⟩ := hrel
  by_cases hlt : k < xs.length
  ·obtain ⟨b, off, hA, hb, hcell, hy⟩ := (hI.below hB (Nat.le_refl _)).at_ k xs[k] (List.getElem?_eq_getElem hlt)
   subst hA
   have hts := flat_take_succ hlt
   have h1 := flat_take_le xs (k + 1)
   rw [hts, List.length_append] at h1
   have hk63 : k < 9223372036854775807 := by omega
   have htsH := Lib.hid hts
   clear hts
   go_wp2_with (at_builtin; refine wpList_appB _ rfl _ _ _ rfl Try.underlying26 info8 _ _ _ rfl hown _ _ _ _ _ rfl hy (by omega) hB.size ?_; intro v' w' hown' hg _; have hB' := hB.trans (below_app hown hg hB.size))
   go_roundw
   case rel => exact ⟨k + 1, by omega, by go_num, by rw [htsH.out]; exact hown', hB'⟩
   case measure => simp [intOf]; omega
  ·obtain rfl : k = xs.length := by omega
   rw [List.take_length] at hown
   obtain ⟨A', c', rfl, _⟩ := own_shape hown.own
   go_wp2
   go_ret
   exact ⟨_, rfl, hown, hB⟩

theorem added_step {n x : Int} (hn : 0 ≤ n ∧ n < 65536) (hx : 0 ≤ x ∧ x < 65536) : addw n x = if n + x > 65535 then n + x - 65535 else n + x := by unfold addw; split <;> omega

theorem added_any (B : Nat) (A : Option Addr) (c : Nat) (ws : List Int) (w : World) (hr : Row B w A ws.length c (i64s ws)) (hc : c ≤ 9223372036854775807) (hws : ∀ x ∈ ws, 0 ≤ x ∧ x < 65536) :
  Calls Try.prog 88 #[.slice A ws.length c] w fun e w' => e = .returned (.int .i64 (fold 0 ws)) ∧ w = w' := by
 have hcap := hr.cap
 go_enter Try.func88, Try.ntmps88
 go_wp2
 go_loop [3, 4] (fun s i => ∃ k : Nat, k ≤ ws.length ∧ i = .int .i64 k ∧ s = .int .i64 (fold 0 (ws.take k))) (fun _ i => ws.length - (intOf i).toNat)
 case atStart => exact ⟨0, Nat.zero_le _, rfl, rfl⟩
 case round =>
  obtain ⟨k, hk, rfl, rfl⟩ := hrel
  have hs := fold_rng 0 (by omega) (ws.take k) (fun x hx => hws x (List.mem_of_mem_take hx))
  by_cases hlt : k < ws.length
  ·obtain ⟨b, off, u, hA, hb, hu, hcell⟩ := hr.get hlt
   subst hA
   have hx := hws ws[k] (List.getElem_mem hlt)
   obtain rfl : u = .int .i64 ws[k] := by simpa [i64s, List.getElem?_eq_getElem hlt] using hu.symm
   have hst : fold 0 (ws.take (k + 1)) = addw (fold 0 (ws.take k)) ws[k] := by rw [List.take_succ_eq_append_getElem hlt, fold_snoc]
   rw [added_step hs hx] at hst
   have hstH := Lib.hid hst
   clear hst
   have hk63 : k < 9223372036854775807 := by omega
   generalize ws[k] = x at hcell hx hstH
   generalize fold 0 (ws.take k) = s at hs hstH
   clear hu
   by_cases hgt : s + x > 65535
   ·go_wp2
    go_round
    case rel => exact ⟨k + 1, by omega, by go_num, by rw [hstH.out, if_pos hgt]⟩
    case measure => simp [intOf]; omega
   ·go_wp2
    go_round
    case rel => exact ⟨k + 1, by omega, by go_num, by rw [hstH.out, if_neg hgt]⟩
    case measure => simp [intOf]; omega
  ·obtain rfl : k = ws.length := by omega
   rw [List.take_length] at *
   go_wp2
   go_ret
   exact ⟨rfl, rfl⟩

theorem take_even {l : List Int} {k : Nat} (h : 2 * k ≤ l.length) : (l.take (2 * k)).length % 2 = 0 := by rw [List.length_take]; omega
theorem wds_take_two {l : List Int} {k : Nat} (h : 2 * k + 1 < l.length) : wds (l.take (2 * (k + 1))) = wds (l.take (2 * k)) ++ [l[2 * k] * 256 + l[2 * k + 1]] := by
 rw [show 2 * (k + 1) = 2 * k + 1 + 1 from by omega, List.take_succ_eq_append_getElem h, List.take_succ_eq_append_getElem (by omega), List.append_assoc]
 exact wds_two _ (take_even (by omega)) _ _
theorem wds_take_one {l : List Int} {k : Nat} (h : 2 * k + 1 = l.length) : wds (l.take (2 * (k + 1))) = wds (l.take (2 * k)) ++ [l[2 * k] * 256] := by
 have h1 : l.take (2 * (k + 1)) = l.take (2 * k) ++ [l[2 * k]] := by
  rw [← List.take_succ_eq_append_getElem (by omega), List.take_of_length_le (by omega), List.take_of_length_le (by omega)]
 rw [h1]
 exact wds_one _ (take_even (by omega)) _
theorem wds_take_len (l : List Int) (k : Nat) (h : 2 * k ≤ l.length) : (wds (l.take (2 * k))).length ≤ l.length := by
 rw [wds_even _ (take_even h)]
 have := runw_le (l.take (2 * k))
 rw [List.length_take] at this
 omega

set_option maxHeartbeats 1000000 in
theorem rwords_any (B : Nat) (A : Option Addr) (c : Nat) (l : List Int) (w : World) (hr : By B w A l.length c l) (hB0 : B ≤ w.heap.size) (hbig : l.length ≤ 8796093022208) :
  Calls Try.prog 89 #[.slice A l.length c] w fun e w' => ∃ v, e = .returned v ∧ w'.ownsRow w.heap.size 3 1 v (wds l).length (i64s (wds l)) ∧ Below w.heap.size w w' := by
 go_enter Try.func89, Try.ntmps89
 go_wp2
 go_loopw [3, 4] (fun v i wr => ∃ k : Nat, 2 * k ≤ l.length + 1 ∧ i = .int .i64 ((2 * k : Nat) : Int) ∧ wr.ownsRow w.heap.size 3 1 v (wds (l.take (2 * k))).length (i64s (wds (l.take (2 * k)))) ∧ Below w.heap.size w wr) (fun _ i _ => l.length + 1 - (intOf i).toNat)
 case atStart => exact ⟨0, by omega, rfl, World.ownsRow_nil _ _ _ _, Below.refl _ _⟩
 case round =>
  obtain ⟨k, hk, rfl, hown, hB⟩ := hrel
  by_cases hlt : 2 * k < l.length
  ·have hy := hr.below hB hB0
   obtain ⟨b, off, x, hA, hb, hx, hcell, hx0, hx1⟩ := hy.get hlt
   subst hA
   have hlen := wds_take_len l k (by omega)
   by_cases ht : 2 * k + 1 < l.length
   ·obtain ⟨b', off', y, hA', hb', hy', hcell', hy0, hy1⟩ := hy.get ht
    injection hA' with hA'
    injection hA' with hA1 hA2
    subst hA1 hA2
    have hst := wds_take_two ht
    rw [List.getElem?_eq_getElem hlt] at hx
    rw [List.getElem?_eq_getElem ht] at hy'
    injection hx with hx
    injection hy' with hy'
    rw [hx, hy'] at hst
    have hstH := Lib.hid hst
    clear hst hx hy'
    go_wp2_with (at_builtin; refine wpList_appRow _ rfl _ _ _ rfl _ _ 8 Try.underlying132 info3 rfl _ _ _ _ rfl (hown.alloc _) _ _ _ _ (i64s [x * 256 + y]) rfl (Row.blk (t := 3) (fz := (0, 0)) (Has.newAt rfl) (Nat.le_refl _) rfl rfl) (i64s_one _) (by simp only [maxLen]; omega) (by omega) (by simp; have := hB.size; omega) ?_; intro v' w' hown' hg _; have hB' := hB.trans (((Below.refl _ _).alloc hB.size _).grown hg (by simp; have := hB.size; omega) (fun k hk => (hown.lt k hk).1)))
    go_roundw
    case rel => exact ⟨k + 1, by omega, by go_num, by rw [hstH.out, List.length_append, i64s_append]; exact hown', hB'⟩
    case measure => simp [intOf]; omega
   ·have he : 2 * k + 1 = l.length := by omega
    have hst := wds_take_one he
    rw [List.getElem?_eq_getElem hlt] at hx
    injection hx with hx
    rw [hx] at hst
    have hstH := Lib.hid hst
    clear hst hx he
    go_wp2_with (at_builtin; refine wpList_appRow _ rfl _ _ _ rfl _ _ 8 Try.underlying132 info3 rfl _ _ _ _ rfl (hown.alloc _) _ _ _ _ (i64s [x * 256]) rfl (Row.blk (t := 3) (fz := (0, 0)) (Has.newAt rfl) (Nat.le_refl _) rfl rfl) (i64s_one _) (by simp only [maxLen]; omega) (by omega) (by simp; have := hB.size; omega) ?_; intro v' w' hown' hg _; have hB' := hB.trans (((Below.refl _ _).alloc hB.size _).grown hg (by simp; have := hB.size; omega) (fun k hk => (hown.lt k hk).1)))
    go_roundw
    case rel => exact ⟨k + 1, by omega, by go_num, by rw [hstH.out, List.length_append, i64s_append]; exact hown', hB'⟩
    case measure => simp [intOf]; omega
  ·have he : l.take (2 * k) = l := List.take_of_length_le (by omega)
   rw [he] at hown
   clear he
   obtain ⟨A', c', rfl, _⟩ := own_shape hown
   go_wp2
   go_ret
   exact ⟨_, rfl, hown, hB⟩

theorem rfold_any (A : Option Addr) (c : Nat) (xs : List Sl) (w : World) (hI : Parts w.heap.size w A xs.length c xs) (htot : (flat xs).length ≤ 8796093022208) :
  Calls Try.prog 59 #[.slice A xs.length c] w fun e w' => e = .returned (.int .u16 (sumw (flat xs))) ∧ Below w.heap.size w w' := by
 have hs := sumw_rng _ hI.rng
 have hwd := wds_rng _ hI.rng
 go_enter Try.func59, Try.ntmps59
 go_wp2_with (go_at_call 90; refine (row_any _ _ _ _ hI (by omega)).mono ?_; rintro e w1 ⟨v, rfl, hown1, hb1⟩; obtain ⟨A1, c1, rfl, hy1⟩ := hown1.by_)
 have hw1 := hb1.size
 go_wp2_with (go_at_call 89; refine (rwords_any _ _ _ _ _ hy1 (Nat.le_refl _) htot).mono ?_; rintro e w2 ⟨v, rfl, hown2, hb2⟩; obtain ⟨A2, c2, rfl, hc2⟩ := own_shape hown2)
 go_wp2_with (go_at_call 88; refine (added_any _ _ _ _ _ (own_row hown2) hc2 hwd).mono ?_; rintro e w3 ⟨rfl, rfl⟩)
 go_ret
 exact ⟨ret_int (by rw [IntKind.wrap_u16]; unfold sumw at hs ⊢; omega), hb1.trans (hb2.mono hw1)⟩
theorem even_t (A1 A2 : Option Addr) (c1 c2 : Nat) (l1 l2 : List Int) (w : World) (h : l1.length = l2.length ∧ l2.length % 2 = 0) :
  Calls Try.prog 108 #[.slice A1 l1.length c1, .slice A2 l2.length c2] w fun e W' => e = .returned (.bool true) ∧ w = W' := by
 obtain ⟨h1, h2⟩ := h
 rw [h1]
 have hm : ((l2.length : Int) % 2 == 0) = true := by simp; omega
 clear h1
 go_enter Try.func108, Try.ntmps108
 go_wp2
 go_ret
 exact ⟨rfl, rfl⟩
theorem even_f (A1 A2 : Option Addr) (c1 c2 : Nat) (l1 l2 : List Int) (w : World) (h : ¬ (l1.length = l2.length ∧ l2.length % 2 = 0)) :
  Calls Try.prog 108 #[.slice A1 l1.length c1, .slice A2 l2.length c2] w fun e W' => e = .returned (.bool false) ∧ w = W' := by
 by_cases h1 : l1.length = l2.length
 ·rw [h1]
  have hm : ((l2.length : Int) % 2 == 0) = false := by simp; omega
  clear h1 h
  go_enter Try.func108, Try.ntmps108
  go_wp2
  go_ret
  exact ⟨rfl, rfl⟩
 ·have hm : ((l1.length : Int) == (l2.length : Int)) = false := by simp; omega
  clear h
  go_enter Try.func108, Try.ntmps108
  go_wp2
  go_ret
  exact ⟨rfl, rfl⟩

theorem take_neg_succ {l : List Int} {k : Nat} (h : k < l.length) : neg (l.take (k + 1)) = neg (l.take k) ++ [65535 - l[k]] := by rw [List.take_succ_eq_append_getElem h, neg_snoc]
theorem neg_length (l : List Int) : (neg l).length = l.length := by simp [neg]

set_option maxHeartbeats 1000000 in
theorem rupdate_any (was : Int) (hn : 0 ≤ was ∧ was < 65536) (A1 A2 : Option Addr) (c1 c2 : Nat) (l1 l2 : List Int) (w : World) (h1 : By w.heap.size w A1 l1.length c1 l1) (h2 : By w.heap.size w A2 l2.length c2 l2) (hbig : l1.length ≤ 4398046511104 ∧ l2.length ≤ 4398046511104) :
  Calls Try.prog 87 #[.int .u16 was, .slice A1 l1.length c1, .slice A2 l2.length c2] w fun e W' => Two (updateS was l1 l2) e ∧ Below w.heap.size w W' := by
 have hbl1 := wds_len l1
 have hbl2 := wds_len l2
 by_cases hd : l1.length = l2.length ∧ l2.length % 2 = 0
 ·have hS : updateS was l1 l2 = (65535 - fold 0 ([65535 - was] ++ neg (wds l1) ++ wds l2), 0) := by
   unfold updateS changedS; rw [if_pos hd, if_pos hd, rupdate_eq was hn l1 l2 h1.rng h2.rng]
  have hSH := Lib.hid hS
  clear hS
  have hdH := Lib.hid hd
  clear hd
  have hr1 := wds_rng l1 h1.rng
  have hr2 := wds_rng l2 h2.rng
  go_enter Try.func87, Try.ntmps87
  go_wp2_with fail
  refine (even_t _ _ _ _ _ _ _ hdH.out).mono ?_
  rintro e w1 ⟨rfl, rfl⟩
  go_wp2_with fail
  have hW : Below w.heap.size w (w.alloc (.cells #[Value.int .i64 (65535 - was)] 3)) := (Below.refl _ _).alloc (Nat.le_refl _) _
  have hown0 : (w.alloc (.cells #[Value.int .i64 (65535 - was)] 3)).ownsRow w.heap.size 3 1 (.slice (some ⟨w.heap.size, 0, none⟩) 1 1) 1 (i64s [65535 - was]) :=
   ⟨rfl, .inr ⟨w.heap.size, 1, _, rfl, Nat.le_refl _, World.alloc_heap_new _ _, Nat.le_refl _, by simp only [maxLen]; omega, rfl, rfl⟩⟩
  refine (rwords_any _ _ _ l1 _ (h1.below hW (Nat.le_refl _)) hW.size (by omega)).mono ?_
  rintro e w2 ⟨v, rfl, hown2, hb2⟩
  obtain ⟨A4, c4, rfl, hc4⟩ := own_shape hown2
  have hB2 := hW.trans (hb2.mono hW.size)
  have hown1 := own_below hown0 hb2
  have hne := ne_new hown0 hown2 (Nat.le_refl _)
  clear hown0 hb2 h1
  generalize hA : wds l1 = b at *
  have hAH := Lib.hid hA
  clear hA
  go_wp2
  go_loopw [8, 10] (fun v i wr => ∃ k : Nat, k ≤ b.length ∧ i = .int .i64 k ∧ wr.ownsRow w.heap.size 3 1 v ([65535 - was] ++ neg (b.take k)).length (i64s ([65535 - was] ++ neg (b.take k))) ∧ Below w.heap.size w wr ∧ wr.ownsRow (w.heap.size + 1) 3 1 (.slice A4 b.length c4) b.length (i64s b) ∧ NeB v (.slice A4 b.length c4)) (fun _ i _ => b.length - (intOf i).toNat)
  case atStart => exact ⟨0, Nat.zero_le _, rfl, by simpa [neg] using hown1, hB2, by simpa using hown2, hne⟩
  case round =>
   clear hown1 hB2 hown2 hne
   obtain ⟨k, hk, rfl, hown, hB, hown2, hne⟩ := hrel
   by_cases hlt : k < b.length
   ·obtain ⟨bb, off, u, hA4, hb, hu, hcell⟩ := (own_row hown2).get hlt
    subst hA4
    obtain rfl : u = .int .i64 b[k] := by simpa [i64s, List.getElem?_eq_getElem hlt] using hu.symm
    have hx := hr1 b[k] (List.getElem_mem hlt)
    have hst : [65535 - was] ++ neg (b.take (k + 1)) = [65535 - was] ++ neg (b.take k) ++ [65535 - b[k]] := by rw [take_neg_succ hlt, List.append_assoc]
    have hlen : ([65535 - was] ++ neg (b.take k)).length ≤ 1 + k := by rw [List.length_append, neg_length, List.length_take]; simp; omega
    have hstH := Lib.hid hst
    clear hst hu
    generalize b[k] = x at hcell hx hstH
    have hk63 : k < 9223372036854775807 := by omega
    generalize hL : [65535 - was] ++ neg (b.take k) = L at hown hlen hstH
    clear hL
    go_wp2_with (at_builtin; refine wpList_appRow _ rfl _ _ _ rfl _ _ 8 Try.underlying132 info3 rfl _ _ _ _ rfl (hown.alloc _) _ _ _ _ (i64s [65535 - x]) rfl (Row.blk (t := 3) (fz := (0, 0)) (Has.newAt rfl) (Nat.le_refl _) rfl rfl) (i64s_one _) (by simp only [maxLen]; omega) (by omega) (by simp; have := hB.size; omega) ?_; intro v' w' hown' hg hat; have hB' := hB.trans (((Below.refl _ _).alloc hB.size _).grown hg (by simp; have := hB.size; omega) (fun k hk => (hown.lt k hk).1)))
    go_roundw
    case rel => exact ⟨k + 1, by omega, by go_num, by rw [hstH.out, List.length_append, i64s_append]; exact hown', hB', own_keep2 (hown2.alloc _) hne hg, ne_app (hown2.alloc _) hne (Nat.le_refl _) hat⟩
    case measure => simp [intOf]; omega
   ·obtain rfl : k = b.length := by omega
    rw [List.take_length] at hown
    clear hown2 hne
    have hlen : ([65535 - was] ++ neg b).length = 1 + b.length := by rw [List.length_append, neg_length]; simp
    have hr3 : ∀ x ∈ [65535 - was] ++ neg b, 0 ≤ x ∧ x < 65536 := fun x hx => (List.mem_append.1 hx).elim (fun h => by simp at h; omega) (neg_rng _ hr1 x)
    generalize [65535 - was] ++ neg b = L at *
    have hlenH := Lib.hid hlen
    clear hlen
    obtain ⟨A5, c5, rfl, hc5⟩ := own_shape hown
    go_wp2_with fail
    refine (rwords_any _ _ _ l2 _ (h2.below hB (Nat.le_refl _)) hB.size (by omega)).mono ?_
    rintro e w3 ⟨v3, rfl, hown3, hb3⟩
    obtain ⟨A6, c6, rfl, hc6⟩ := own_shape hown3
    have hB3 := hB.trans (hb3.mono hB.size)
    have hownL := own_below hown hb3
    have hrow3 := own_row hown3
    generalize wds l2 = ws2 at *
    go_wp2_with (at_builtin; refine wpList_appRow _ rfl _ _ _ rfl _ _ 8 Try.underlying132 info3 rfl _ _ _ _ rfl hownL _ _ _ _ _ rfl hrow3 (i64s_one _) (by have := hlenH.out; simp only [maxLen]; omega) (by have := hlenH.out; omega) hB3.size ?_; intro v' w' hown' hg hat; have hB' := hB3.trans (below_own hownL hg hB3.size); rw [← i64s_append, ← List.length_append] at hown'; obtain ⟨L2, hL2⟩ : ∃ L2, L ++ ws2 = L2 := ⟨_, rfl⟩; rw [hL2] at hown'; have hL2H := Lib.hid hL2; clear hL2; obtain ⟨A7, c7, rfl, hc7⟩ := own_shape hown')
    have hsum : ∀ x ∈ L2, 0 ≤ x ∧ x < 65536 := fun x hx => by rw [← hL2H.out] at hx; exact (List.mem_append.1 hx).elim (hr3 x) (hr2 x)
    have hrng := fold_rng 0 (by omega) _ hsum
    refine (added_any _ _ _ _ _ (own_row hown') hc7 hsum).mono ?_
    rintro e w4 ⟨rfl, rfl⟩
    go_wp2
    go_ret2
    refine ⟨Two.mk ?_ ?_, hB'⟩
    ·rw [hSH.out, hL2H.out]
    ·rw [hSH.out]
 ·have hdH := Lib.hid hd
  clear hd
  go_enter Try.func87, Try.ntmps87
  go_wp2_with fail
  refine (even_f _ _ _ _ _ _ _ hdH.out).mono ?_
  rintro e w1 ⟨rfl, rfl⟩
  go_wp2
  go_ret2
  refine ⟨Two.mk ?_ ?_, Below.refl _ _⟩
  ·unfold updateS; rw [if_neg hdH.out]
  ·unfold updateS; rw [if_neg hdH.out]
theorem rof_any (A : Option Addr) (c : Nat) (xs : List Sl) (w : World) (hI : Parts w.heap.size w A xs.length c xs) (htot : (flat xs).length ≤ 8796093022208) :
  Calls Try.prog 57 #[.slice A xs.length c] w fun e W' => e = .returned (.int .u16 (65535 - sumw (flat xs))) ∧ Below w.heap.size w W' := by
 have h := sumw_rng _ hI.rng
 go_enter Try.func57, Try.ntmps57
 go_wp2_with (go_at_call 59; refine (rfold_any _ _ _ _ hI htot).mono ?_; rintro e w' ⟨rfl, hb⟩)
 go_ret
 exact ⟨rfl, hb⟩
theorem rpseudo4_ok (a b : List Int) (ha : a.length = 4) (hb : b.length = 4) (ra : InB a) (rb : InB b) (p n : Int) (hp0 : 0 ≤ p) (hp1 : p ≤ 255) (h0 : 0 ≤ n) (h1 : n ≤ 65535) (w : World) :
  Calls Try.prog 60 #[.agg (u8s a).toArray, .agg (u8s b).toArray, .int .u8 p, .int .i64 n] w fun e w' => ∃ v, e = .returned (.tuple #[v, .int .i64 0]) ∧ OwnB w' w.heap.size v (a ++ b ++ [0, p, n / 256, n % 256]) ∧ Below w.heap.size w w' := by
 have hr4 : InB [0, p, n / 256, n % 256] := fun x hx => by
  simp only [List.mem_cons, List.not_mem_nil, or_false] at hx
  omega
 have ha8 : (u8s a).toArray.size = 4 := by simp [u8s, ha]
 have hb8 : (u8s b).toArray.size = 4 := by simp [u8s, hb]
 have hla := Lib.hid ha
 have hlb := Lib.hid hb
 clear ha hb
 go_enter Try.func60, Try.ntmps60
 go_wp2
 have own0 : OwnB ((((w.alloc (.cells (u8s a).toArray 29)).alloc (.cells (u8s b).toArray 29)).alloc (.cells #[] 5)).drew) (w.heap.size + 2) (.slice (some ⟨w.heap.size + 1 + 1, 0, none⟩) 0 0) [] := (OwnB.madeAt (by simp) (by simp)).drew
 have ya : By (w.heap.size + 2) ((((w.alloc (.cells (u8s a).toArray 29)).alloc (.cells (u8s b).toArray 29)).alloc (.cells #[] 5)).drew) (some ⟨w.heap.size, 0, none⟩) 4 4 a := By.blk' (t := 29) (fz := (0, 0)) (by repeat (first | exact Has.newAt (by simp) | refine Has.drew ?_ | refine Has.alloc ?_)) (by omega) ra (by have := hla.out; omega) hla.out.symm hla.out.symm
 have yb : By (w.heap.size + 2) ((((w.alloc (.cells (u8s a).toArray 29)).alloc (.cells (u8s b).toArray 29)).alloc (.cells #[] 5)).drew) (some ⟨w.heap.size + 1, 0, none⟩) 4 4 b := By.blk' (t := 29) (fz := (0, 0)) (by repeat (first | exact Has.newAt (by simp) | refine Has.drew ?_ | refine Has.alloc ?_)) (by omega) rb (by have := hlb.out; omega) hlb.out.symm hlb.out.symm
 have hb0 : Below w.heap.size w ((((w.alloc (.cells (u8s a).toArray 29)).alloc (.cells (u8s b).toArray 29)).alloc (.cells #[] 5)).drew) := ((((Below.refl _ w).alloc (Nat.le_refl _) _).alloc (by simp) _).alloc (by simp; omega) _).drew
 have hz0 : w.heap.size + 2 ≤ (((((w.alloc (.cells (u8s a).toArray 29)).alloc (.cells (u8s b).toArray 29)).alloc (.cells #[] 5)).drew)).heap.size := by simp
 go_region_law (first
  | (refine step_appB _ rfl (.tmp 17) (.tmp 18) _ rfl Try.underlying26 info8 (w.heap.size + 2) _ [] rfl own0 _ (some ⟨w.heap.size, 0, none⟩) 4 4 a rfl ya (by simp) hz0 ?_; intro v1 w1 hown1 hg1 hat1; have hb1 := below_app own0 hg1 hz0; have hz1 := Nat.le_trans hz0 hg1.size; have yb1 := yb.below hb1 (Nat.le_refl _))
  | (refine step_appB _ rfl (.tmp 19) (.tmp 20) _ rfl Try.underlying26 info8 (w.heap.size + 2) _ ([] ++ a) rfl hown1 _ (some ⟨w.heap.size + 1, 0, none⟩) 4 4 b rfl yb1 (by have := hla.out; simp; omega) hz1 ?_; intro v2 w2 hown2 hg2 hat2; have hb2 := below_app hown1 hg2 hz1; have hz2 := Nat.le_trans hz1 hg2.size))
 rw [List.nil_append] at hown2
 have hbw2 : Below w.heap.size w w2 := (hb0.trans (hb1.mono (by omega))).trans (hb2.mono (by omega))
 have hl8 : (a ++ b).length = 8 := by have := hla.out; have := hlb.out; simp; omega
 obtain ⟨ab, hab⟩ : ∃ ab, a ++ b = ab := ⟨_, rfl⟩
 rw [hab] at hown2 hl8
 have habH := Lib.hid hab
 have hl8H := Lib.hid hl8
 clear hab hl8
 obtain ⟨A3, c3, rfl, _⟩ := own_shape hown2.own
 go_wp2_with (at_builtin; refine wpList_appB _ rfl _ _ _ rfl Try.underlying26 info8 _ _ ab rfl (hown2.alloc _) _ (some ⟨w2.heap.size, 0, none⟩) 4 4 [0, p, n / 256, n % 256] rfl (By.blk (t := 5) (fz := (0, 0)) (Has.newAt rfl) (Nat.le_refl _) hr4 (by simp) rfl rfl) (by have := hl8H.out; omega) (by simp; omega) ?_; intro v3 w3 hown3 hg3 hat3)
 go_ret2
 refine ⟨_, rfl, ?_, ?_⟩
 ·rw [habH.out]; exact hown3.more (by omega)
 ·exact (hbw2.trans (((Below.refl _ w2).alloc (Nat.le_refl _) _).mono hbw2.size)).trans ((below_app (hown2.alloc _) hg3 (by simp; omega)).mono (by omega))
theorem rpseudo6_ok (a b : List Int) (ha : a.length = 16) (hb : b.length = 16) (ra : InB a) (rb : InB b) (p n : Int) (hp0 : 0 ≤ p) (hp1 : p ≤ 255) (h0 : 0 ≤ n) (h1 : n ≤ 65535) (w : World) :
  Calls Try.prog 61 #[.agg (u8s a).toArray, .agg (u8s b).toArray, .int .u8 p, .int .i64 n] w fun e w' => ∃ v, e = .returned (.tuple #[v, .int .i64 0]) ∧ OwnB w' w.heap.size v (a ++ b ++ [0, 0, n / 256, n % 256, 0, 0, 0, p]) ∧ Below w.heap.size w w' := by
 have hr4 : InB [0, 0, n / 256, n % 256, 0, 0, 0, p] := fun x hx => by
  simp only [List.mem_cons, List.not_mem_nil, or_false] at hx
  omega
 have ha8 : (u8s a).toArray.size = 16 := by simp [u8s, ha]
 have hb8 : (u8s b).toArray.size = 16 := by simp [u8s, hb]
 have hla := Lib.hid ha
 have hlb := Lib.hid hb
 clear ha hb
 go_enter Try.func61, Try.ntmps61
 go_wp2
 have own0 : OwnB ((((w.alloc (.cells (u8s a).toArray 23)).alloc (.cells (u8s b).toArray 23)).alloc (.cells #[] 5)).drew) (w.heap.size + 2) (.slice (some ⟨w.heap.size + 1 + 1, 0, none⟩) 0 0) [] := (OwnB.madeAt (by simp) (by simp)).drew
 have ya : By (w.heap.size + 2) ((((w.alloc (.cells (u8s a).toArray 23)).alloc (.cells (u8s b).toArray 23)).alloc (.cells #[] 5)).drew) (some ⟨w.heap.size, 0, none⟩) 16 16 a := By.blk' (t := 23) (fz := (0, 0)) (by repeat (first | exact Has.newAt (by simp) | refine Has.drew ?_ | refine Has.alloc ?_)) (by omega) ra (by have := hla.out; omega) hla.out.symm hla.out.symm
 have yb : By (w.heap.size + 2) ((((w.alloc (.cells (u8s a).toArray 23)).alloc (.cells (u8s b).toArray 23)).alloc (.cells #[] 5)).drew) (some ⟨w.heap.size + 1, 0, none⟩) 16 16 b := By.blk' (t := 23) (fz := (0, 0)) (by repeat (first | exact Has.newAt (by simp) | refine Has.drew ?_ | refine Has.alloc ?_)) (by omega) rb (by have := hlb.out; omega) hlb.out.symm hlb.out.symm
 have hb0 : Below w.heap.size w ((((w.alloc (.cells (u8s a).toArray 23)).alloc (.cells (u8s b).toArray 23)).alloc (.cells #[] 5)).drew) := ((((Below.refl _ w).alloc (Nat.le_refl _) _).alloc (by simp) _).alloc (by simp; omega) _).drew
 have hz0 : w.heap.size + 2 ≤ (((((w.alloc (.cells (u8s a).toArray 23)).alloc (.cells (u8s b).toArray 23)).alloc (.cells #[] 5)).drew)).heap.size := by simp
 go_region_law (first
  | (refine step_appB _ rfl (.tmp 17) (.tmp 18) _ rfl Try.underlying26 info8 (w.heap.size + 2) _ [] rfl own0 _ (some ⟨w.heap.size, 0, none⟩) 16 16 a rfl ya (by simp) hz0 ?_; intro v1 w1 hown1 hg1 hat1; have hb1 := below_app own0 hg1 hz0; have hz1 := Nat.le_trans hz0 hg1.size; have yb1 := yb.below hb1 (Nat.le_refl _))
  | (refine step_appB _ rfl (.tmp 19) (.tmp 20) _ rfl Try.underlying26 info8 (w.heap.size + 2) _ ([] ++ a) rfl hown1 _ (some ⟨w.heap.size + 1, 0, none⟩) 16 16 b rfl yb1 (by have := hla.out; simp; omega) hz1 ?_; intro v2 w2 hown2 hg2 hat2; have hb2 := below_app hown1 hg2 hz1; have hz2 := Nat.le_trans hz1 hg2.size))
 rw [List.nil_append] at hown2
 have hbw2 : Below w.heap.size w w2 := (hb0.trans (hb1.mono (by omega))).trans (hb2.mono (by omega))
 have hl8 : (a ++ b).length = 32 := by have := hla.out; have := hlb.out; simp; omega
 obtain ⟨ab, hab⟩ : ∃ ab, a ++ b = ab := ⟨_, rfl⟩
 rw [hab] at hown2 hl8
 have habH := Lib.hid hab
 have hl8H := Lib.hid hl8
 clear hab hl8
 obtain ⟨A3, c3, rfl, _⟩ := own_shape hown2.own
 go_wp2_with (at_builtin; refine wpList_appB _ rfl _ _ _ rfl Try.underlying26 info8 _ _ ab rfl (hown2.alloc _) _ (some ⟨w2.heap.size, 0, none⟩) 8 8 [0, 0, n / 256, n % 256, 0, 0, 0, p] rfl (By.blk (t := 5) (fz := (0, 0)) (Has.newAt rfl) (Nat.le_refl _) hr4 (by simp) rfl rfl) (by have := hl8H.out; omega) (by simp; omega) ?_; intro v3 w3 hown3 hg3 hat3)
 go_ret2
 refine ⟨_, rfl, ?_, ?_⟩
 ·rw [habH.out]; exact hown3.more (by omega)
 ·exact (hbw2.trans (((Below.refl _ w2).alloc (Nat.le_refl _) _).mono hbw2.size)).trans ((below_app (hown2.alloc _) hg3 (by simp; omega)).mono (by omega))
end Go.Proofs.Ytjnphelfloiadaa
