/-
  The walks of sum.Pseudo4, sum.Pseudo6.
-/
import Derived.Test.YtaobnbjkhgcmlaaConcat
import Derived.StillTailTactics
import Derived.Deep.RegionWith
namespace Go.Proofs.Ytaobnbjkhgcmlaa
open Go.RowKit Go.Shelf

theorem pseudo4_long (a b : Array Value) (p n : Int) (h : n < 0 ∨ 65535 < n) (w : World) :
    Calls Try.prog 69 #[.agg a, .agg b, .int .u8 p, .int .i64 n] w fun e w' => e = .returned (.tuple #[.slice none 0 0, .int .i64 2]) ∧ Below w.heap.size w w' := by
  rcases h with h | h
  · go_enter Try.func69, Try.ntmps69
    go_wp2
    go_ret2
    exact ⟨rfl, ((Below.refl _ _).alloc (Nat.le_refl _) _).alloc (by simp) _⟩
  · go_enter Try.func69, Try.ntmps69
    go_wp2
    go_ret2
    exact ⟨rfl, ((Below.refl _ _).alloc (Nat.le_refl _) _).alloc (by simp) _⟩

theorem pseudo4_ok (a b : List Int) (ha : a.length = 4) (hb : b.length = 4) (ra : InB a) (rb : InB b) (p n : Int) (hp0 : 0 ≤ p) (hp1 : p ≤ 255) (h0 : 0 ≤ n) (h1 : n ≤ 65535) (w : World) :
    Calls Try.prog 69 #[.agg (u8s a).toArray, .agg (u8s b).toArray, .int .u8 p, .int .i64 n] w fun e w' => ∃ v, e = .returned (.tuple #[v, .int .i64 0]) ∧ OwnB w' w.heap.size v (a ++ b ++ [0, p, n / 256, n % 256]) ∧ Below w.heap.size w w' := by
    go_enter Try.func69, Try.ntmps69
    go_wp2
    have hr4 : InB [0, p, IntKind.u8.wrap (n / 256), IntKind.u8.wrap n] := fun x hx => by
      simp only [IntKind.wrap_u8, List.mem_cons, List.not_mem_nil, or_false] at hx
      omega
    have hb1 : Below w.heap.size w ((((w.alloc (.cells (u8s a).toArray 34)).alloc (.cells (u8s b).toArray 34)).alloc (.cells (u8s [0, p, IntKind.u8.wrap (n / 256), IntKind.u8.wrap n]).toArray 5)).alloc (.cells #[Value.slice (some ⟨w.heap.size, 0, none⟩) 4 4, Value.slice (some ⟨w.heap.size + 1, 0, none⟩) 4 4, Value.slice (some ⟨w.heap.size + 1 + 1, 0, none⟩) 4 4] 24)).drew :=
      (((((Below.refl _ w).alloc (Nat.le_refl _) _).alloc (by simp) _).alloc (by simp; omega) _).alloc (by simp; omega) _).drew
    go_region_with (go_at_call 67; (refine (concat_any _ _ [(some ⟨w.heap.size, 0, none⟩, 4, a), (some ⟨w.heap.size + 1, 0, none⟩, 4, b), (some ⟨w.heap.size + 1 + 1, 0, none⟩, 4, [0, p, IntKind.u8.wrap (n / 256), IntKind.u8.wrap n])] _
      (Parts.blk (t := 24) (fz := (0, 0)) (by simp only [List.map_cons, List.map_nil, ha, hb]; repeat (first | exact Has.newAt (by simp) | refine Has.drew ?_ | refine Has.alloc ?_)) (Nat.le_refl _) rfl
        (all3 (By.blk (t := 34) (fz := (0, 0)) (by repeat (first | exact Has.newAt (by simp) | refine Has.drew ?_ | refine Has.alloc ?_)) (Nat.le_refl _) ra (show a.length ≤ _ by omega) rfl (by simp [ha]))
         (By.blk (t := 34) (fz := (0, 0)) (by repeat (first | exact Has.newAt (by simp) | refine Has.drew ?_ | refine Has.alloc ?_)) (Nat.le_refl _) rb (show b.length ≤ _ by omega) rfl (by simp [hb]))
         (By.blk (t := 5) (fz := (0, 0)) (by repeat (first | exact Has.newAt (by simp) | refine Has.drew ?_ | refine Has.alloc ?_)) (Nat.le_refl _) hr4 (by simp) rfl rfl)) (by simp)) (by simp [flat]; omega)).mono ?_); rintro e w' ⟨v, rfl, hown, hb2⟩; obtain ⟨A', c', rfl, _⟩ := own_shape hown.own)
    go_wp2
    go_ret2
    refine ⟨_, rfl, ?_, hb1.trans (hb2.mono hb1.size)⟩
    have he : flat [(some ⟨w.heap.size, 0, none⟩, 4, a), (some ⟨w.heap.size + 1, 0, none⟩, 4, b), (some ⟨w.heap.size + 1 + 1, 0, none⟩, 4, [0, p, IntKind.u8.wrap (n / 256), IntKind.u8.wrap n])] = a ++ b ++ [0, p, n / 256, n % 256] := by
      simp only [flat, List.map_cons, List.map_nil, List.flatten_cons, List.flatten_nil, IntKind.wrap_u8, List.append_nil, List.append_assoc]
      rw [show n / 256 % 256 = n / 256 from by omega]
    rw [← he]
    exact hown.more hb1.size
end Go.Proofs.Ytaobnbjkhgcmlaa
