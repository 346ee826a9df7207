/-
  The walks of the reference's Pseudo4, Pseudo6.
-/
import Derived.Test.YtaobnbjkhgcmlaaConcat
import Derived.Deep.RegionLaw
namespace Go.Proofs.Ytaobnbjkhgcmlaa
open Go.RowKit Go.Shelf

theorem rpseudo4_long (a b : Array Value) (p n : Int) (h : n < 0 ∨ 65535 < n) (w : World) :
    Calls Try.prog 47 #[.agg a, .agg b, .int .u8 p, .int .i64 n] w fun e w' => e = .returned (.tuple #[.slice none 0 0, .int .i64 2]) ∧ Below w.heap.size w w' := by
  rcases h with h | h
  · go_enter Try.func47, Try.ntmps47
    go_wp2
    go_ret2
    exact ⟨rfl, ((Below.refl _ _).alloc (Nat.le_refl _) _).alloc (by simp) _⟩
  · go_enter Try.func47, Try.ntmps47
    go_wp2
    go_ret2
    exact ⟨rfl, ((Below.refl _ _).alloc (Nat.le_refl _) _).alloc (by simp) _⟩

theorem rpseudo4_ok (a b : List Int) (ha : a.length = 4) (hb : b.length = 4) (ra : InB a) (rb : InB b) (p n : Int) (hp0 : 0 ≤ p) (hp1 : p ≤ 255) (h0 : 0 ≤ n) (h1 : n ≤ 65535) (w : World) :
    Calls Try.prog 47 #[.agg (u8s a).toArray, .agg (u8s b).toArray, .int .u8 p, .int .i64 n] w fun e w' => ∃ v, e = .returned (.tuple #[v, .int .i64 0]) ∧ OwnB w' w.heap.size v (a ++ b ++ [0, p, n / 256, n % 256]) ∧ Below w.heap.size w w' := by
  have hr4 : InB [0, p, n / 256, n % 256] := fun x hx => by
    simp only [List.mem_cons, List.not_mem_nil, or_false] at hx
    omega
  have ha8 : (u8s a).toArray.size = 4 := by simp [u8s, ha]
  have hb8 : (u8s b).toArray.size = 4 := by simp [u8s, hb]
  have hla := Lib.hid ha
  have hlb := Lib.hid hb
  clear ha hb
  go_enter Try.func47, Try.ntmps47
  go_wp2
  have own0 : OwnB ((((w.alloc (.cells (u8s a).toArray 33)).alloc (.cells (u8s b).toArray 33)).alloc (.cells #[] 5)).drew) (w.heap.size + 2) (.slice (some ⟨w.heap.size + 1 + 1, 0, none⟩) 0 0) [] := (OwnB.madeAt (by simp) (by simp)).drew
  have ya : By (w.heap.size + 2) ((((w.alloc (.cells (u8s a).toArray 33)).alloc (.cells (u8s b).toArray 33)).alloc (.cells #[] 5)).drew) (some ⟨w.heap.size, 0, none⟩) 4 4 a := By.blk' (t := 33) (fz := (0, 0)) (by repeat (first | exact Has.newAt (by simp) | refine Has.drew ?_ | refine Has.alloc ?_)) (by omega) ra (by have := hla.out; omega) hla.out.symm hla.out.symm
  have yb : By (w.heap.size + 2) ((((w.alloc (.cells (u8s a).toArray 33)).alloc (.cells (u8s b).toArray 33)).alloc (.cells #[] 5)).drew) (some ⟨w.heap.size + 1, 0, none⟩) 4 4 b := By.blk' (t := 33) (fz := (0, 0)) (by repeat (first | exact Has.newAt (by simp) | refine Has.drew ?_ | refine Has.alloc ?_)) (by omega) rb (by have := hlb.out; omega) hlb.out.symm hlb.out.symm
  have hb0 : Below w.heap.size w ((((w.alloc (.cells (u8s a).toArray 33)).alloc (.cells (u8s b).toArray 33)).alloc (.cells #[] 5)).drew) := ((((Below.refl _ w).alloc (Nat.le_refl _) _).alloc (by simp) _).alloc (by simp; omega) _).drew
  have hz0 : w.heap.size + 2 ≤ (((((w.alloc (.cells (u8s a).toArray 33)).alloc (.cells (u8s b).toArray 33)).alloc (.cells #[] 5)).drew)).heap.size := by simp
  go_region_law (first
    | (refine step_appB _ rfl (.tmp 17) (.tmp 18) _ rfl Try.underlying24 info8 (w.heap.size + 2) _ [] rfl own0 _ (some ⟨w.heap.size, 0, none⟩) 4 4 a rfl ya (by simp) hz0 ?_; intro v1 w1 hown1 hg1 hat1; have hb1 := below_app own0 hg1 hz0; have hz1 := Nat.le_trans hz0 hg1.size; have yb1 := yb.below hb1 (Nat.le_refl _))
    | (refine step_appB _ rfl (.tmp 19) (.tmp 20) _ rfl Try.underlying24 info8 (w.heap.size + 2) _ ([] ++ a) rfl hown1 _ (some ⟨w.heap.size + 1, 0, none⟩) 4 4 b rfl yb1 (by have := hla.out; simp; omega) hz1 ?_; intro v2 w2 hown2 hg2 hat2; have hb2 := below_app hown1 hg2 hz1; have hz2 := Nat.le_trans hz1 hg2.size))
  rw [List.nil_append] at hown2
  have hbw2 : Below w.heap.size w w2 := (hb0.trans (hb1.mono (by omega))).trans (hb2.mono (by omega))
  have hl8 : (a ++ b).length = 8 := by have := hla.out; have := hlb.out; simp; omega
  obtain ⟨ab, hab⟩ : ∃ ab, a ++ b = ab := ⟨_, rfl⟩
  rw [hab] at hown2 hl8
  have habH := Lib.hid hab
  have hl8H := Lib.hid hl8
  clear hab hl8
  obtain ⟨A3, c3, rfl, _⟩ := own_shape hown2.own
  go_wp2_with (at_builtin; refine wpList_appB _ rfl _ _ _ rfl Try.underlying24 info8 _ _ ab rfl (hown2.alloc _) _ (some ⟨w2.heap.size, 0, none⟩) 4 4 [0, p, n / 256, n % 256] rfl (By.blk (t := 5) (fz := (0, 0)) (Has.newAt rfl) (Nat.le_refl _) hr4 (by simp) rfl rfl) (by have := hl8H.out; omega) (by simp; omega) ?_; intro v3 w3 hown3 hg3 hat3)
  go_ret2
  refine ⟨_, rfl, ?_, ?_⟩
  · rw [habH.out]; exact hown3.more (by omega)
  · exact (hbw2.trans (((Below.refl _ w2).alloc (Nat.le_refl _) _).mono hbw2.size)).trans ((below_app (hown2.alloc _) hg3 (by simp; omega)).mono (by omega))
theorem rpseudo6_long (a b : Array Value) (p n : Int) (h : n < 0 ∨ 65535 < n) (w : World) :
    Calls Try.prog 48 #[.agg a, .agg b, .int .u8 p, .int .i64 n] w fun e w' => e = .returned (.tuple #[.slice none 0 0, .int .i64 2]) ∧ Below w.heap.size w w' := by
  rcases h with h | h
  · go_enter Try.func48, Try.ntmps48
    go_wp2
    go_ret2
    exact ⟨rfl, ((Below.refl _ _).alloc (Nat.le_refl _) _).alloc (by simp) _⟩
  · go_enter Try.func48, Try.ntmps48
    go_wp2
    go_ret2
    exact ⟨rfl, ((Below.refl _ _).alloc (Nat.le_refl _) _).alloc (by simp) _⟩

theorem rpseudo6_ok (a b : List Int) (ha : a.length = 16) (hb : b.length = 16) (ra : InB a) (rb : InB b) (p n : Int) (hp0 : 0 ≤ p) (hp1 : p ≤ 255) (h0 : 0 ≤ n) (h1 : n ≤ 65535) (w : World) :
    Calls Try.prog 48 #[.agg (u8s a).toArray, .agg (u8s b).toArray, .int .u8 p, .int .i64 n] w fun e w' => ∃ v, e = .returned (.tuple #[v, .int .i64 0]) ∧ OwnB w' w.heap.size v (a ++ b ++ [0, 0, n / 256, n % 256, 0, 0, 0, p]) ∧ Below w.heap.size w w' := by
  have hr4 : InB [0, 0, n / 256, n % 256, 0, 0, 0, p] := fun x hx => by
    simp only [List.mem_cons, List.not_mem_nil, or_false] at hx
    omega
  have ha8 : (u8s a).toArray.size = 16 := by simp [u8s, ha]
  have hb8 : (u8s b).toArray.size = 16 := by simp [u8s, hb]
  have hla := Lib.hid ha
  have hlb := Lib.hid hb
  clear ha hb
  go_enter Try.func48, Try.ntmps48
  go_wp2
  have own0 : OwnB ((((w.alloc (.cells (u8s a).toArray 35)).alloc (.cells (u8s b).toArray 35)).alloc (.cells #[] 5)).drew) (w.heap.size + 2) (.slice (some ⟨w.heap.size + 1 + 1, 0, none⟩) 0 0) [] := (OwnB.madeAt (by simp) (by simp)).drew
  have ya : By (w.heap.size + 2) ((((w.alloc (.cells (u8s a).toArray 35)).alloc (.cells (u8s b).toArray 35)).alloc (.cells #[] 5)).drew) (some ⟨w.heap.size, 0, none⟩) 16 16 a := By.blk' (t := 35) (fz := (0, 0)) (by repeat (first | exact Has.newAt (by simp) | refine Has.drew ?_ | refine Has.alloc ?_)) (by omega) ra (by have := hla.out; omega) hla.out.symm hla.out.symm
  have yb : By (w.heap.size + 2) ((((w.alloc (.cells (u8s a).toArray 35)).alloc (.cells (u8s b).toArray 35)).alloc (.cells #[] 5)).drew) (some ⟨w.heap.size + 1, 0, none⟩) 16 16 b := By.blk' (t := 35) (fz := (0, 0)) (by repeat (first | exact Has.newAt (by simp) | refine Has.drew ?_ | refine Has.alloc ?_)) (by omega) rb (by have := hlb.out; omega) hlb.out.symm hlb.out.symm
  have hb0 : Below w.heap.size w ((((w.alloc (.cells (u8s a).toArray 35)).alloc (.cells (u8s b).toArray 35)).alloc (.cells #[] 5)).drew) := ((((Below.refl _ w).alloc (Nat.le_refl _) _).alloc (by simp) _).alloc (by simp; omega) _).drew
  have hz0 : w.heap.size + 2 ≤ (((((w.alloc (.cells (u8s a).toArray 35)).alloc (.cells (u8s b).toArray 35)).alloc (.cells #[] 5)).drew)).heap.size := by simp
  go_region_law (first
    | (refine step_appB _ rfl (.tmp 17) (.tmp 18) _ rfl Try.underlying24 info8 (w.heap.size + 2) _ [] rfl own0 _ (some ⟨w.heap.size, 0, none⟩) 16 16 a rfl ya (by simp) hz0 ?_; intro v1 w1 hown1 hg1 hat1; have hb1 := below_app own0 hg1 hz0; have hz1 := Nat.le_trans hz0 hg1.size; have yb1 := yb.below hb1 (Nat.le_refl _))
    | (refine step_appB _ rfl (.tmp 19) (.tmp 20) _ rfl Try.underlying24 info8 (w.heap.size + 2) _ ([] ++ a) rfl hown1 _ (some ⟨w.heap.size + 1, 0, none⟩) 16 16 b rfl yb1 (by have := hla.out; simp; omega) hz1 ?_; intro v2 w2 hown2 hg2 hat2; have hb2 := below_app hown1 hg2 hz1; have hz2 := Nat.le_trans hz1 hg2.size))
  rw [List.nil_append] at hown2
  have hbw2 : Below w.heap.size w w2 := (hb0.trans (hb1.mono (by omega))).trans (hb2.mono (by omega))
  have hl8 : (a ++ b).length = 32 := by have := hla.out; have := hlb.out; simp; omega
  obtain ⟨ab, hab⟩ : ∃ ab, a ++ b = ab := ⟨_, rfl⟩
  rw [hab] at hown2 hl8
  have habH := Lib.hid hab
  have hl8H := Lib.hid hl8
  clear hab hl8
  obtain ⟨A3, c3, rfl, _⟩ := own_shape hown2.own
  go_wp2_with (at_builtin; refine wpList_appB _ rfl _ _ _ rfl Try.underlying24 info8 _ _ ab rfl (hown2.alloc _) _ (some ⟨w2.heap.size, 0, none⟩) 8 8 [0, 0, n / 256, n % 256, 0, 0, 0, p] rfl (By.blk (t := 5) (fz := (0, 0)) (Has.newAt rfl) (Nat.le_refl _) hr4 (by simp) rfl rfl) (by have := hl8H.out; omega) (by simp; omega) ?_; intro v3 w3 hown3 hg3 hat3)
  go_ret2
  refine ⟨_, rfl, ?_, ?_⟩
  · rw [habH.out]; exact hown3.more (by omega)
  · exact (hbw2.trans (((Below.refl _ w2).alloc (Nat.le_refl _) _).mono hbw2.size)).trans ((below_app (hown2.alloc _) hg3 (by simp; omega)).mono (by omega))
end Go.Proofs.Ytaobnbjkhgcmlaa
