/-
  Lemmas and walks for the row of TofourTells (part 18 of 37).
-/
import Derived.Test.YtjnphelfloiadaaFtAC
import Derived.Test.YtjnphelfloiadaaFtAD
import Derived.Test.YtjnphelfloiadaaFtAF
import Derived.Test.YtjnphelfloiadaaFtAH
import Derived.Test.YtjnphelfloiadaaFtAI
import Derived.Test.YtjnphelfloiadaaFtAP
import Derived.Test.YtjnphelfloiadaaFtAQ
import Derived.Deep.RegionLaw
import Derived.Lib.AppendZeros
set_option linter.unusedVariables false
set_option linter.unusedSimpArgs false
namespace Go.Proofs.Ytjnphelfloiadaa
open Go.RowKit Go.Shelf

theorem info3 : (Try.prog.info? 3).map (fun i => (i.zero, i.size, i.bytes)) = some (some (.int .i64 0), 1, 8) := by kernel_rfl
def i64s (l : List Int) : List Value := l.map (Value.int .i64)
theorem i64s_append (l m : List Int) : i64s (l ++ m) = i64s l ++ i64s m := by simp [i64s]
theorem i64s_one (l : List Int) : ∀ u ∈ i64s l, u.oneCell' = true := fun u hu => by obtain ⟨y, _, rfl⟩ := List.mem_map.1 hu; rfl

theorem row_any (A : Option Addr) (c : Nat) (xs : List Sl) (w : World) (hI : Parts w.heap.size w A xs.length c xs) (htot : (flat xs).length ≤ 140737488355328) :
  Calls Try.prog 90 #[.slice A xs.length c] w fun e w' => ∃ v, e = .returned v ∧ OwnB w' w.heap.size v (flat xs) ∧ Below w.heap.size w w' := by
 have hc63 : xs.length ≤ 9223372036854775807 := by have := hI.cap; have := hI.big; omega
 go_enter Try.func90, Try.ntmps90
 go_wp2
 go_loopw [3, 4] (fun v i wr => ∃ k : Nat, k ≤ xs.length ∧ i = .int .i64 k ∧ OwnB wr w.heap.size v (flat (xs.take k)) ∧ Below w.heap.size w wr) (fun _ i _ => xs.length - (intOf i).toNat)
 case atStart => exact ⟨0, Nat.zero_le _, rfl, OwnB.nil _ _, Below.refl _ _⟩
 case round =>
  obtain ⟨k, hk, rfl, hown, hB⟩ := hrel
  by_cases hlt : k < xs.length
  ·obtain ⟨b, off, hA, hb, hcell, hy⟩ := (hI.below hB (Nat.le_refl _)).at_ k xs[k] (List.getElem?_eq_getElem hlt)
   subst hA
   have hts := flat_take_succ hlt
   have h1 := flat_take_le xs (k + 1)
   rw [hts, List.length_append] at h1
   have hk63 : k < 9223372036854775807 := by omega
   have htsH := Lib.hid hts
   clear hts
   go_wp2_with (at_builtin; refine wpList_appB _ rfl _ _ _ rfl Try.underlying26 info8 _ _ _ rfl hown _ _ _ _ _ rfl hy (by omega) hB.size ?_; intro v' w' hown' hg _; have hB' := hB.trans (below_app hown hg hB.size))
   go_roundw
   case rel => exact ⟨k + 1, by omega, by go_num, by rw [htsH.out]; exact hown', hB'⟩
   case measure => simp [intOf]; omega
  ·obtain rfl : k = xs.length := by omega
   rw [List.take_length] at hown
   obtain ⟨A', c', rfl, _⟩ := own_shape hown.own
   go_wp2
   go_ret
   exact ⟨_, rfl, hown, hB⟩

/-- a sum that is taken modulo 65535 whenever it is greater -/
theorem added_step {n x : Int} (hn : 0 ≤ n ∧ n < 65536) (hx : 0 ≤ x ∧ x < 65536) : addw n x = if n + x > 65535 then n + x - 65535 else n + x := by unfold addw; split <;> omega

theorem added_any (B : Nat) (A : Option Addr) (c : Nat) (ws : List Int) (w : World) (hr : Row B w A ws.length c (i64s ws)) (hc : c ≤ 9223372036854775807) (hws : ∀ x ∈ ws, 0 ≤ x ∧ x < 65536) :
  Calls Try.prog 88 #[.slice A ws.length c] w fun e w' => e = .returned (.int .i64 (fold 0 ws)) ∧ w = w' := by
 have hcap := hr.cap
 go_enter Try.func88, Try.ntmps88
 go_wp2
 go_loop [3, 4] (fun s i => ∃ k : Nat, k ≤ ws.length ∧ i = .int .i64 k ∧ s = .int .i64 (fold 0 (ws.take k))) (fun _ i => ws.length - (intOf i).toNat)
 case atStart => exact ⟨0, Nat.zero_le _, rfl, rfl⟩
 case round =>
  obtain ⟨k, hk, rfl, rfl⟩ := hrel
  have hs := fold_rng 0 (by omega) (ws.take k) (fun x hx => hws x (List.mem_of_mem_take hx))
  by_cases hlt : k < ws.length
  ·obtain ⟨b, off, u, hA, hb, hu, hcell⟩ := hr.get hlt
   subst hA
   have hx := hws ws[k] (List.getElem_mem hlt)
   obtain rfl : u = .int .i64 ws[k] := by simpa [i64s, List.getElem?_eq_getElem hlt] using hu.symm
   have hst : fold 0 (ws.take (k + 1)) = addw (fold 0 (ws.take k)) ws[k] := by rw [List.take_succ_eq_append_getElem hlt, fold_snoc]
   rw [added_step hs hx] at hst
   have hstH := Lib.hid hst
   clear hst
   have hk63 : k < 9223372036854775807 := by omega
   generalize ws[k] = x at hcell hx hstH
   generalize fold 0 (ws.take k) = s at hs hstH
   clear hu
   by_cases hgt : s + x > 65535
   ·go_wp2
    go_round
    case rel => exact ⟨k + 1, by omega, by go_num, by rw [hstH.out, if_pos hgt]⟩
    case measure => simp [intOf]; omega
   ·go_wp2
    go_round
    case rel => exact ⟨k + 1, by omega, by go_num, by rw [hstH.out, if_neg hgt]⟩
    case measure => simp [intOf]; omega
  ·obtain rfl : k = ws.length := by omega
   rw [List.take_length] at *
   go_wp2
   go_ret
   exact ⟨rfl, rfl⟩

theorem take_even {l : List Int} {k : Nat} (h : 2 * k ≤ l.length) : (l.take (2 * k)).length % 2 = 0 := by rw [List.length_take]; omega
theorem wds_take_two {l : List Int} {k : Nat} (h : 2 * k + 1 < l.length) : wds (l.take (2 * (k + 1))) = wds (l.take (2 * k)) ++ [l[2 * k] * 256 + l[2 * k + 1]] := by
 rw [show 2 * (k + 1) = 2 * k + 1 + 1 from by omega, List.take_succ_eq_append_getElem h, List.take_succ_eq_append_getElem (by omega), List.append_assoc]
 exact wds_two _ (take_even (by omega)) _ _
theorem wds_take_one {l : List Int} {k : Nat} (h : 2 * k + 1 = l.length) : wds (l.take (2 * (k + 1))) = wds (l.take (2 * k)) ++ [l[2 * k] * 256] := by
 have h1 : l.take (2 * (k + 1)) = l.take (2 * k) ++ [l[2 * k]] := by
  rw [← List.take_succ_eq_append_getElem (by omega), List.take_of_length_le (by omega), List.take_of_length_le (by omega)]
 rw [h1]
 exact wds_one _ (take_even (by omega)) _
theorem wds_take_len (l : List Int) (k : Nat) (h : 2 * k ≤ l.length) : (wds (l.take (2 * k))).length ≤ l.length := by
 rw [wds_even _ (take_even h)]
 have := runw_le (l.take (2 * k))
 rw [List.length_take] at this
 omega

set_option maxHeartbeats 1000000 in
theorem rwords_any (B : Nat) (A : Option Addr) (c : Nat) (l : List Int) (w : World) (hr : By B w A l.length c l) (hB0 : B ≤ w.heap.size) (hbig : l.length ≤ 8796093022208) :
  Calls Try.prog 89 #[.slice A l.length c] w fun e w' => ∃ v, e = .returned v ∧ w'.ownsRow w.heap.size 3 1 v (wds l).length (i64s (wds l)) ∧ Below w.heap.size w w' := by
 go_enter Try.func89, Try.ntmps89
 go_wp2
 go_loopw [3, 4] (fun v i wr => ∃ k : Nat, 2 * k ≤ l.length + 1 ∧ i = .int .i64 ((2 * k : Nat) : Int) ∧ wr.ownsRow w.heap.size 3 1 v (wds (l.take (2 * k))).length (i64s (wds (l.take (2 * k)))) ∧ Below w.heap.size w wr) (fun _ i _ => l.length + 1 - (intOf i).toNat)
 case atStart => exact ⟨0, by omega, rfl, World.ownsRow_nil _ _ _ _, Below.refl _ _⟩
 case round =>
  obtain ⟨k, hk, rfl, hown, hB⟩ := hrel
  by_cases hlt : 2 * k < l.length
  ·have hy := hr.below hB hB0
   obtain ⟨b, off, x, hA, hb, hx, hcell, hx0, hx1⟩ := hy.get hlt
   subst hA
   have hlen := wds_take_len l k (by omega)
   by_cases ht : 2 * k + 1 < l.length
   ·obtain ⟨b', off', y, hA', hb', hy', hcell', hy0, hy1⟩ := hy.get ht
    injection hA' with hA'
    injection hA' with hA1 hA2
    subst hA1 hA2
    have hst := wds_take_two ht
    rw [List.getElem?_eq_getElem hlt] at hx
    rw [List.getElem?_eq_getElem ht] at hy'
    injection hx with hx
    injection hy' with hy'
    rw [hx, hy'] at hst
    have hstH := Lib.hid hst
    clear hst hx hy'
    go_wp2_with (at_builtin; refine wpList_appRow _ rfl _ _ _ rfl _ _ 8 Try.underlying132 info3 rfl _ _ _ _ rfl (hown.alloc _) _ _ _ _ (i64s [x * 256 + y]) rfl (Row.blk (t := 3) (fz := (0, 0)) (Has.newAt rfl) (Nat.le_refl _) rfl rfl) (i64s_one _) (by simp only [maxLen]; omega) (by omega) (by simp; have := hB.size; omega) ?_; intro v' w' hown' hg _; have hB' := hB.trans (((Below.refl _ _).alloc hB.size _).grown hg (by simp; have := hB.size; omega) (fun k hk => (hown.lt k hk).1)))
    go_roundw
    case rel => exact ⟨k + 1, by omega, by go_num, by rw [hstH.out, List.length_append, i64s_append]; exact hown', hB'⟩
    case measure => simp [intOf]; omega
   ·have he : 2 * k + 1 = l.length := by omega
    have hst := wds_take_one he
    rw [List.getElem?_eq_getElem hlt] at hx
    injection hx with hx
    rw [hx] at hst
    have hstH := Lib.hid hst
    clear hst hx he
    go_wp2_with (at_builtin; refine wpList_appRow _ rfl _ _ _ rfl _ _ 8 Try.underlying132 info3 rfl _ _ _ _ rfl (hown.alloc _) _ _ _ _ (i64s [x * 256]) rfl (Row.blk (t := 3) (fz := (0, 0)) (Has.newAt rfl) (Nat.le_refl _) rfl rfl) (i64s_one _) (by simp only [maxLen]; omega) (by omega) (by simp; have := hB.size; omega) ?_; intro v' w' hown' hg _; have hB' := hB.trans (((Below.refl _ _).alloc hB.size _).grown hg (by simp; have := hB.size; omega) (fun k hk => (hown.lt k hk).1)))
    go_roundw
    case rel => exact ⟨k + 1, by omega, by go_num, by rw [hstH.out, List.length_append, i64s_append]; exact hown', hB'⟩
    case measure => simp [intOf]; omega
  ·have he : l.take (2 * k) = l := List.take_of_length_le (by omega)
   rw [he] at hown
   clear he
   obtain ⟨A', c', rfl, _⟩ := own_shape hown
   go_wp2
   go_ret
   exact ⟨_, rfl, hown, hB⟩

/-- the reference's Fold -/
theorem rfold_any (A : Option Addr) (c : Nat) (xs : List Sl) (w : World) (hI : Parts w.heap.size w A xs.length c xs) (htot : (flat xs).length ≤ 8796093022208) :
  Calls Try.prog 59 #[.slice A xs.length c] w fun e w' => e = .returned (.int .u16 (sumw (flat xs))) ∧ Below w.heap.size w w' := by
 have hs := sumw_rng _ hI.rng
 have hwd := wds_rng _ hI.rng
 go_enter Try.func59, Try.ntmps59
 go_wp2_with (go_at_call 90; refine (row_any _ _ _ _ hI (by omega)).mono ?_; rintro e w1 ⟨v, rfl, hown1, hb1⟩; obtain ⟨A1, c1, rfl, hy1⟩ := hown1.by_)
 have hw1 := hb1.size
 go_wp2_with (go_at_call 89; refine (rwords_any _ _ _ _ _ hy1 (Nat.le_refl _) htot).mono ?_; rintro e w2 ⟨v, rfl, hown2, hb2⟩; obtain ⟨A2, c2, rfl, hc2⟩ := own_shape hown2)
 go_wp2_with (go_at_call 88; refine (added_any _ _ _ _ _ (own_row hown2) hc2 hwd).mono ?_; rintro e w3 ⟨rfl, rfl⟩)
 go_ret
 exact ⟨ret_int (by rw [IntKind.wrap_u16]; unfold sumw at hs ⊢; omega), hb1.trans (hb2.mono hw1)⟩
end Go.Proofs.Ytjnphelfloiadaa
namespace Go.Proofs.Ytjnphelfloiadaa
open Go.RowKit Go.Shelf

theorem rof_any (A : Option Addr) (c : Nat) (xs : List Sl) (w : World) (hI : Parts w.heap.size w A xs.length c xs) (htot : (flat xs).length ≤ 8796093022208) :
  Calls Try.prog 57 #[.slice A xs.length c] w fun e W' => e = .returned (.int .u16 (65535 - sumw (flat xs))) ∧ Below w.heap.size w W' := by
 have h := sumw_rng _ hI.rng
 go_enter Try.func57, Try.ntmps57
 go_wp2_with (go_at_call 59; refine (rfold_any _ _ _ _ hI htot).mono ?_; rintro e w' ⟨rfl, hb⟩)
 go_ret
 exact ⟨rfl, hb⟩
end Go.Proofs.Ytjnphelfloiadaa
namespace Go.Proofs.Ytjnphelfloiadaa
open Go.RowKit Go.Shelf

theorem rpseudo4_ok (a b : List Int) (ha : a.length = 4) (hb : b.length = 4) (ra : InB a) (rb : InB b) (p n : Int) (hp0 : 0 ≤ p) (hp1 : p ≤ 255) (h0 : 0 ≤ n) (h1 : n ≤ 65535) (w : World) :
  Calls Try.prog 60 #[.agg (u8s a).toArray, .agg (u8s b).toArray, .int .u8 p, .int .i64 n] w fun e w' => ∃ v, e = .returned (.tuple #[v, .int .i64 0]) ∧ OwnB w' w.heap.size v (a ++ b ++ [0, p, n / 256, n % 256]) ∧ Below w.heap.size w w' := by
 have hr4 : InB [0, p, n / 256, n % 256] := fun x hx => by
  simp only [List.mem_cons, List.not_mem_nil, or_false] at hx
  omega
 have ha8 : (u8s a).toArray.size = 4 := by simp [u8s, ha]
 have hb8 : (u8s b).toArray.size = 4 := by simp [u8s, hb]
 have hla := Lib.hid ha
 have hlb := Lib.hid hb
 clear ha hb
 go_enter Try.func60, Try.ntmps60
 go_wp2
 have own0 : OwnB ((((w.alloc (.cells (u8s a).toArray 29)).alloc (.cells (u8s b).toArray 29)).alloc (.cells #[] 5)).drew) (w.heap.size + 2) (.slice (some ⟨w.heap.size + 1 + 1, 0, none⟩) 0 0) [] := (OwnB.madeAt (by simp) (by simp)).drew
 have ya : By (w.heap.size + 2) ((((w.alloc (.cells (u8s a).toArray 29)).alloc (.cells (u8s b).toArray 29)).alloc (.cells #[] 5)).drew) (some ⟨w.heap.size, 0, none⟩) 4 4 a := By.blk' (t := 29) (fz := (0, 0)) (by repeat (first | exact Has.newAt (by simp) | refine Has.drew ?_ | refine Has.alloc ?_)) (by omega) ra (by have := hla.out; omega) hla.out.symm hla.out.symm
 have yb : By (w.heap.size + 2) ((((w.alloc (.cells (u8s a).toArray 29)).alloc (.cells (u8s b).toArray 29)).alloc (.cells #[] 5)).drew) (some ⟨w.heap.size + 1, 0, none⟩) 4 4 b := By.blk' (t := 29) (fz := (0, 0)) (by repeat (first | exact Has.newAt (by simp) | refine Has.drew ?_ | refine Has.alloc ?_)) (by omega) rb (by have := hlb.out; omega) hlb.out.symm hlb.out.symm
 have hb0 : Below w.heap.size w ((((w.alloc (.cells (u8s a).toArray 29)).alloc (.cells (u8s b).toArray 29)).alloc (.cells #[] 5)).drew) := ((((Below.refl _ w).alloc (Nat.le_refl _) _).alloc (by simp) _).alloc (by simp; omega) _).drew
 have hz0 : w.heap.size + 2 ≤ (((((w.alloc (.cells (u8s a).toArray 29)).alloc (.cells (u8s b).toArray 29)).alloc (.cells #[] 5)).drew)).heap.size := by simp
 go_region_law (first
  | (refine step_appB _ rfl (.tmp 17) (.tmp 18) _ rfl Try.underlying26 info8 (w.heap.size + 2) _ [] rfl own0 _ (some ⟨w.heap.size, 0, none⟩) 4 4 a rfl ya (by simp) hz0 ?_; intro v1 w1 hown1 hg1 hat1; have hb1 := below_app own0 hg1 hz0; have hz1 := Nat.le_trans hz0 hg1.size; have yb1 := yb.below hb1 (Nat.le_refl _))
  | (refine step_appB _ rfl (.tmp 19) (.tmp 20) _ rfl Try.underlying26 info8 (w.heap.size + 2) _ ([] ++ a) rfl hown1 _ (some ⟨w.heap.size + 1, 0, none⟩) 4 4 b rfl yb1 (by have := hla.out; simp; omega) hz1 ?_; intro v2 w2 hown2 hg2 hat2; have hb2 := below_app hown1 hg2 hz1; have hz2 := Nat.le_trans hz1 hg2.size))
 rw [List.nil_append] at hown2
 have hbw2 : Below w.heap.size w w2 := (hb0.trans (hb1.mono (by omega))).trans (hb2.mono (by omega))
 have hl8 : (a ++ b).length = 8 := by have := hla.out; have := hlb.out; simp; omega
 obtain ⟨ab, hab⟩ : ∃ ab, a ++ b = ab := ⟨_, rfl⟩
 rw [hab] at hown2 hl8
 have habH := Lib.hid hab
 have hl8H := Lib.hid hl8
 clear hab hl8
 obtain ⟨A3, c3, rfl, _⟩ := own_shape hown2.own
 go_wp2_with (at_builtin; refine wpList_appB _ rfl _ _ _ rfl Try.underlying26 info8 _ _ ab rfl (hown2.alloc _) _ (some ⟨w2.heap.size, 0, none⟩) 4 4 [0, p, n / 256, n % 256] rfl (By.blk (t := 5) (fz := (0, 0)) (Has.newAt rfl) (Nat.le_refl _) hr4 (by simp) rfl rfl) (by have := hl8H.out; omega) (by simp; omega) ?_; intro v3 w3 hown3 hg3 hat3)
 go_ret2
 refine ⟨_, rfl, ?_, ?_⟩
 ·rw [habH.out]; exact hown3.more (by omega)
 ·exact (hbw2.trans (((Below.refl _ w2).alloc (Nat.le_refl _) _).mono hbw2.size)).trans ((below_app (hown2.alloc _) hg3 (by simp; omega)).mono (by omega))
theorem rpseudo6_ok (a b : List Int) (ha : a.length = 16) (hb : b.length = 16) (ra : InB a) (rb : InB b) (p n : Int) (hp0 : 0 ≤ p) (hp1 : p ≤ 255) (h0 : 0 ≤ n) (h1 : n ≤ 65535) (w : World) :
  Calls Try.prog 61 #[.agg (u8s a).toArray, .agg (u8s b).toArray, .int .u8 p, .int .i64 n] w fun e w' => ∃ v, e = .returned (.tuple #[v, .int .i64 0]) ∧ OwnB w' w.heap.size v (a ++ b ++ [0, 0, n / 256, n % 256, 0, 0, 0, p]) ∧ Below w.heap.size w w' := by
 have hr4 : InB [0, 0, n / 256, n % 256, 0, 0, 0, p] := fun x hx => by
  simp only [List.mem_cons, List.not_mem_nil, or_false] at hx
  omega
 have ha8 : (u8s a).toArray.size = 16 := by simp [u8s, ha]
 have hb8 : (u8s b).toArray.size = 16 := by simp [u8s, hb]
 have hla := Lib.hid ha
 have hlb := Lib.hid hb
 clear ha hb
 go_enter Try.func61, Try.ntmps61
 go_wp2
 have own0 : OwnB ((((w.alloc (.cells (u8s a).toArray 23)).alloc (.cells (u8s b).toArray 23)).alloc (.cells #[] 5)).drew) (w.heap.size + 2) (.slice (some ⟨w.heap.size + 1 + 1, 0, none⟩) 0 0) [] := (OwnB.madeAt (by simp) (by simp)).drew
 have ya : By (w.heap.size + 2) ((((w.alloc (.cells (u8s a).toArray 23)).alloc (.cells (u8s b).toArray 23)).alloc (.cells #[] 5)).drew) (some ⟨w.heap.size, 0, none⟩) 16 16 a := By.blk' (t := 23) (fz := (0, 0)) (by repeat (first | exact Has.newAt (by simp) | refine Has.drew ?_ | refine Has.alloc ?_)) (by omega) ra (by have := hla.out; omega) hla.out.symm hla.out.symm
 have yb : By (w.heap.size + 2) ((((w.alloc (.cells (u8s a).toArray 23)).alloc (.cells (u8s b).toArray 23)).alloc (.cells #[] 5)).drew) (some ⟨w.heap.size + 1, 0, none⟩) 16 16 b := By.blk' (t := 23) (fz := (0, 0)) (by repeat (first | exact Has.newAt (by simp) | refine Has.drew ?_ | refine Has.alloc ?_)) (by omega) rb (by have := hlb.out; omega) hlb.out.symm hlb.out.symm
 have hb0 : Below w.heap.size w ((((w.alloc (.cells (u8s a).toArray 23)).alloc (.cells (u8s b).toArray 23)).alloc (.cells #[] 5)).drew) := ((((Below.refl _ w).alloc (Nat.le_refl _) _).alloc (by simp) _).alloc (by simp; omega) _).drew
 have hz0 : w.heap.size + 2 ≤ (((((w.alloc (.cells (u8s a).toArray 23)).alloc (.cells (u8s b).toArray 23)).alloc (.cells #[] 5)).drew)).heap.size := by simp
 go_region_law (first
  | (refine step_appB _ rfl (.tmp 17) (.tmp 18) _ rfl Try.underlying26 info8 (w.heap.size + 2) _ [] rfl own0 _ (some ⟨w.heap.size, 0, none⟩) 16 16 a rfl ya (by simp) hz0 ?_; intro v1 w1 hown1 hg1 hat1; have hb1 := below_app own0 hg1 hz0; have hz1 := Nat.le_trans hz0 hg1.size; have yb1 := yb.below hb1 (Nat.le_refl _))
  | (refine step_appB _ rfl (.tmp 19) (.tmp 20) _ rfl Try.underlying26 info8 (w.heap.size + 2) _ ([] ++ a) rfl hown1 _ (some ⟨w.heap.size + 1, 0, none⟩) 16 16 b rfl yb1 (by have := hla.out; simp; omega) hz1 ?_; intro v2 w2 hown2 hg2 hat2; have hb2 := below_app hown1 hg2 hz1; have hz2 := Nat.le_trans hz1 hg2.size))
 rw [List.nil_append] at hown2
 have hbw2 : Below w.heap.size w w2 := (hb0.trans (hb1.mono (by omega))).trans (hb2.mono (by omega))
 have hl8 : (a ++ b).length = 32 := by have := hla.out; have := hlb.out; simp; omega
 obtain ⟨ab, hab⟩ : ∃ ab, a ++ b = ab := ⟨_, rfl⟩
 rw [hab] at hown2 hl8
 have habH := Lib.hid hab
 have hl8H := Lib.hid hl8
 clear hab hl8
 obtain ⟨A3, c3, rfl, _⟩ := own_shape hown2.own
 go_wp2_with (at_builtin; refine wpList_appB _ rfl _ _ _ rfl Try.underlying26 info8 _ _ ab rfl (hown2.alloc _) _ (some ⟨w2.heap.size, 0, none⟩) 8 8 [0, 0, n / 256, n % 256, 0, 0, 0, p] rfl (By.blk (t := 5) (fz := (0, 0)) (Has.newAt rfl) (Nat.le_refl _) hr4 (by simp) rfl rfl) (by have := hl8H.out; omega) (by simp; omega) ?_; intro v3 w3 hown3 hg3 hat3)
 go_ret2
 refine ⟨_, rfl, ?_, ?_⟩
 ·rw [habH.out]; exact hown3.more (by omega)
 ·exact (hbw2.trans (((Below.refl _ w2).alloc (Nat.le_refl _) _).mono hbw2.size)).trans ((below_app (hown2.alloc _) hg3 (by simp; omega)).mono (by omega))
end Go.Proofs.Ytjnphelfloiadaa
namespace Go.Proofs.Ytjnphelfloiadaa
open Go.RowKit Go.Shelf

section
variable {P : Program}
theorem w_shl32 (t : TypeId) (n : Nat) (x z : Int) (hz : x * 2 ^ n = z) (hn : n ≤ 32) (h : 0 ≤ z ∧ z < 4294967296) (w : World) : (binOp .shl t (.int .u32 x) (.int .u64 (n : Int))).run P w = .ok (.int .u32 z) w := by
 have hh := shift_shl .u32 .u64 x (n : Int) (Int.natCast_nonneg n) (by exact_mod_cast hn)
 rw [binOp_shl, hh, Int.toNat_natCast, hz, IntKind.wrap_u32]
 rw [Int.emod_eq_of_lt h.1 h.2]
 rfl
end
theorem rfold2 {g n1 n2 c1 c2 : Nat} {A1 A2 : Option Addr} {l1 l2 : List Int} {w : World} (h : Has w g (.cells #[.slice A1 n1 c1, .slice A2 n2 c2] 26 (0, 0))) (y1 : By w.heap.size w A1 n1 c1 l1) (y2 : By w.heap.size w A2 n2 c2 l2) (hb : n1 + n2 ≤ 8796093022208) :
  Calls Try.prog 59 #[.slice (some ⟨g, 0, none⟩) 2 2] w fun e w' => ∃ v, e = .returned v ∧ v = .int .u16 (sumw (l1 ++ l2)) ∧ Below w.heap.size w w' := by
 obtain rfl := y1.len
 obtain rfl := y2.len
 refine (rfold_any (some ⟨g, 0, none⟩) 2 [(A1, c1, l1), (A2, c2, l2)] w (Parts.blk h (Nat.le_refl _) rfl (all2 y1 y2) (by simp)) (by rw [flat2, List.length_append]; exact hb)).mono fun e w' h => ?_
 rw [flat2] at h
 exact ⟨_, h.1, rfl, h.2⟩
theorem rpseudo6_l {a b : List Int} (ha : a.length = 16) (hb : b.length = 16) (ra : InB a) (rb : InB b) {p n : Int} (hp : 0 ≤ p ∧ p ≤ 255) (hn : 0 ≤ n ∧ n ≤ 65535) (w : World) :
  Calls Try.prog 61 #[.agg (u8s (l16 a)).toArray, .agg (u8s (l16 b)).toArray, .int .u8 p, .int .i64 n] w fun e w' => ∃ v, e = .returned v ∧ (∃ u, v = .tuple #[u, .int .i64 0] ∧ OwnB w' w.heap.size u (pse6 a b n p)) ∧ Below w.heap.size w w' := by
 rw [u8s_16 ha, u8s_16 hb]
 refine (rpseudo6_ok a b ha hb ra rb p n hp.1 hp.2 hn.1 hn.2 w).mono fun e w' h => ?_
 obtain ⟨u, rfl, hO, hB⟩ := h
 exact ⟨_, rfl, ⟨u, rfl, hO⟩, hB⟩
theorem rcheck6_x {d : D6} {p : W6} {w : World} (hR : Rd6 w.heap.size w d p) : Calls Try.prog 36 #[.agg (d.cells p)] w fun e w' => ∃ v, e = .returned v ∧ v = .int .i64 d.check ∧ Below w.heap.size w w' := by
 refine (rcheck6_any d p w hR).mono fun e w' h => ?_
 obtain ⟨⟨q, rfl, hq⟩, hb⟩ := h
 exact ⟨_, rfl, by rw [hq.out], hb⟩
end Go.Proofs.Ytjnphelfloiadaa
namespace Go.Proofs.Ytjnphelfloiadaa
open Go.RowKit Go.Shelf

structure K6 (w' : World) (g : Nat) (D : D6) (p : W6) : Prop where
 has : Has w' g (.cells (D.cells p) 28 (0, 0))
 rd : Rd6 w'.heap.size w' D p
theorem K6.below {w w' : World} {g : Nat} {D : D6} {p : W6} (h : K6 w g D p) (hb : Below w.heap.size w w') : K6 w' g D p := ⟨h.has.below hb h.has.lt, (h.rd.below hb (Nat.le_refl _)).more hb.size⟩
theorem K6.new (C : Array Value) {w : World} {D : D6} {p : W6} (hr : Rd6 w.heap.size w D p) : K6 ((w.alloc (.cells C 28)).setRow w.heap.size (D.cells p)) w.heap.size D p ∧ Below w.heap.size w ((w.alloc (.cells C 28)).setRow w.heap.size (D.cells p)) := by
 have hb : Below w.heap.size w ((w.alloc (.cells C 28)).setRow w.heap.size (D.cells p)) := ((Below.refl _ _).alloc (Nat.le_refl _) _).trans below_setRow'
 exact ⟨⟨(Has.newAt (o := .cells C 28) rfl).setRow_same, (hr.below hb (Nat.le_refl _)).more hb.size⟩, hb⟩
end Go.Proofs.Ytjnphelfloiadaa
