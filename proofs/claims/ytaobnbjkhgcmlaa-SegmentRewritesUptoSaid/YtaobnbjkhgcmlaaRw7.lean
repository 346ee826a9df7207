/-
  The walk of segment.Rewrite where it answers.
-/
import Derived.Test.YtaobnbjkhgcmlaaRw6
namespace Go.Proofs.Ytaobnbjkhgcmlaa
open Go.RowKit Go.Shelf

set_option maxRecDepth 100000 in
set_option maxHeartbeats 2000000 in
theorem rw_ok6 (A : Option Addr) (c : Nat) (l : List Int) (A1 : Option Addr) (c1 : Nat) (f : List Int) (A2 : Option Addr) (c2 : Nat) (t : List Int) (src dst : Int) (hsr : 0 ≤ src ∧ src < 65536) (hds : 0 ≤ dst ∧ dst < 65536) (w : World) (y : By w.heap.size w A l.length c l) (y1 : By w.heap.size w A1 f.length c1 f) (y2 : By w.heap.size w A2 t.length c2 t) (hs : l.length ≤ 140737488355328) (h4 : 4 ≤ l.length) (hft : f.length = t.length) (hev : t.length % 2 = 0) :
    Calls Try.prog 38 #[.int .u8 6, .slice A l.length c, .slice A1 f.length c1, .slice A2 t.length c2, .int .u16 src, .int .u16 dst] w fun e w' => ToldB (rwBytes 6 l f t src dst) 0 w e w' := by
  have hz : rwErr 6 l f t = 0 := by unfold rwErr; rw [if_neg (by decide), if_neg (by omega), if_neg (by simp [hft, hev])]
  have hat : rwAt 6 = 16 := rfl
  have hb1 := Nat.le_trans y1.cap y1.big
  have hb2 := Nat.le_trans y2.cap y2.big
  have hbytes : rwBytes 6 l f t src dst = if rwNone 6 l then rwOut l src dst else set2 (rwOut l src dst) 16 (rwSum 6 l f t src dst) := by unfold rwBytes; rw [if_neg (by simp [hz])]; rfl
  have hnone : rwNone 6 l ↔ (l.length < 18 ∨ False) := by unfold rwNone; rw [hat]; simp
  have h4' : (4 : Int) ≤ (l.length : Int) := by omega
  have hev' : (t.length : Int) % 2 = 0 := by omega
  have hne : ((f.length : Int) != (t.length : Int)) = false := by simp [hft]
  have hfe : (f.length : Int) % 2 = 0 := by omega
  have hbH := Lib.hid hbytes
  clear hbytes hft
  go_enter Try.func38, Try.ntmps38
  go_wp2_with fail
  refine (clone_n A c l.length l w y hs).mono ?_
  rintro e w1 ⟨v, rfl, ho, hb⟩
  obtain ⟨A5, k5, rfl, _⟩ := own_shape ho.own
  have hB := hb
  clear hb
  go_wp2_with fail
  refine (set_own w.heap.size A5 l.length k5 l w1 ho rfl 0 (by omega) hs src hsr).mono ?_
  rintro e w2 ⟨rfl, ho', hg⟩
  have hB := hB.trans (below_own ho.own hg hB.size)
  clear hg ho
  go_wp2_with fail
  refine (set_own w.heap.size A5 l.length k5 (set2 l 0 src) w2 ho' (by simp [set2_len]) 2 (by omega) hs dst hds).mono ?_
  rintro e w3 ⟨rfl, ho, hg⟩
  have hB := hB.trans (below_own ho'.own hg hB.size)
  clear hg ho'
  rw [rwOut_set h4] at ho
  by_cases hsh : l.length < 18
  case pos =>
    have hr : rwBytes 6 l f t src dst = rwOut l src dst := by rw [hbH.out, if_pos (hnone.2 (.inl hsh))]
    have hsh' : (l.length : Int) < 18 := by omega
    clear hnone
    go_wp2
    go_ret2
    exact ⟨_, _, rfl, Lib.hid rfl, by rw [hr]; exact ho, hB⟩
  case neg =>
  have hsh' : ¬ ((l.length : Int) < 18) := by omega
  have rr := be2_rng y.rng 16
  have hr : rwBytes 6 l f t src dst = set2 (rwOut l src dst) 16 (rwSum 6 l f t src dst) := by rw [hbH.out, if_neg (fun h => (hnone.1 h).elim hsh id)]
  clear hnone
  go_wp2_with fail
  refine (two6_any A _ c l _ ((y.below hB (Nat.le_refl _)).more hB.size) 16 (by omega)).mono ?_
  rintro e w4 ⟨rfl, hb⟩
  have ho := ho.below hb
  have hB := hB.trans (hb.mono hB.size)
  clear hb
  go_wp2_with fail
  refine (update_any (be2 l 16) rr A1 A2 c1 c2 f t _ ((y1.below hB (Nat.le_refl _)).more hB.size) ((y2.below hB (Nat.le_refl _)).more hB.size)).mono ?_
  rintro e w5 ⟨⟨q, er, rfl, hqe⟩, hb⟩
  have hq : q = (updateS (be2 l 16) f t).1 := hqe.out.1
  have hqr : 0 ≤ q ∧ q < 65536 := by rw [hq]; exact updateS_rng _ rr f t y1.rng y2.rng
  have ho := ho.below hb
  have hB := hB.trans (hb.mono hB.size)
  have hqH := Lib.hid hq
  clear hb hqe hq
  have yl := (y.below hB (Nat.le_refl _)).more hB.size
  have hs1 := yl.to_ (P := Try.prog) 24 Try.underlying24 (by kernel_rfl) (k := 4) h4
  have yo := own_byN ho
  have hs2 := yo.to_ (P := Try.prog) 24 Try.underlying24 (by kernel_rfl) (k := 4) h4
  have hl4 : (l.take 4).length = 4 := by rw [List.length_take]; omega
  have ho4 : ((rwOut l src dst).take 4).length = 4 := rfl
  have hl4 := Lib.hid hl4
  have ho4 := Lib.hid ho4
  go_wp2_with fail
  refine wp_region_held_drew (S := SG w5) (by kernel_rfl) ⟨below_drew _ _⟩ (fun hS => ?_)
  generalize w5.drew = W0 at hS ⊢
  -- REGION 6
  refine tk (i := 0) (.int .u16 q) hS rfl (by kernel_rfl) (by kernel_rfl) (by kernel_rfl) (fun _ _ _ h => h) (by kernel_rfl) (by intro _ _; exact rfl) ?_
  simp only [Act.put, List.setIfInBounds_toArray, List.set_cons_zero, List.set_cons_succ]
  refine tk (i := 1) (.slice A l.length c) hS rfl (by kernel_rfl) (by kernel_rfl) (by kernel_rfl) (fun _ _ _ h => h) (by kernel_rfl) (by intro _ _; exact rfl) ?_
  simp only [Act.put, List.setIfInBounds_toArray, List.set_cons_zero, List.set_cons_succ]
  refine tk (i := 2) (.slice A 4 c) hS rfl (by kernel_rfl) (by kernel_rfl) (by kernel_rfl) (fun _ _ _ h => h) (by kernel_rfl) (by intro w' _; exact ex_slice (by exact rfl) (by exact rfl) (hs1.1 w')) ?_
  simp only [Act.put, List.setIfInBounds_toArray, List.set_cons_zero, List.set_cons_succ]
  refine tk (i := 3) (.slice A5 l.length k5) hS rfl (by kernel_rfl) (by kernel_rfl) (by kernel_rfl) (fun _ _ _ h => h) (by kernel_rfl) (by intro _ _; exact rfl) ?_
  simp only [Act.put, List.setIfInBounds_toArray, List.set_cons_zero, List.set_cons_succ]
  refine tk (i := 4) (.slice A5 4 k5) hS rfl (by kernel_rfl) (by kernel_rfl) (by kernel_rfl) (fun _ _ _ h => h) (by kernel_rfl) (by intro w' _; exact ex_slice (by exact rfl) (by exact rfl) (hs2.1 w')) ?_
  simp only [Act.put, List.setIfInBounds_toArray, List.set_cons_zero, List.set_cons_succ]
  refine tk_one (by kernel_rfl) (op_callx (i := 5) (fun v w' => ∃ q2 e2, v = .tuple #[.int .u16 q2, .int .i64 e2] ∧ Hid (q2 = (updateS q (l.take 4) ((rwOut l src dst).take 4)).1) ∧ Below W0.heap.size W0 w') rfl (by kernel_rfl) (by exact ex_call (by exact rfl) Try.func62 (by kernel_rfl) (by kernel_rfl) (by simp only [List.map_toArray, List.map_cons, List.map_nil] <;> rfl)) (by have hx := update_any q hqr A A5 c k5 (l.take 4) ((rwOut l src dst).take 4) _ (by rw [hl4.out]; exact (hs1.2.below hS.b (Nat.le_refl _)).more hS.big) (by rw [ho4.out]; exact (hs2.2.below hS.b (Nat.le_refl _)).more hS.big); rw [hl4.out, ho4.out] at hx; exact hx.mono fun e w' g => by obtain ⟨⟨q2, e2, rfl, hq2⟩, hb⟩ := g; exact ⟨_, rfl, ⟨q2, e2, rfl, Lib.hid hq2.out.1, hb⟩, hS.keep (hb.mono hS.big)⟩) ?_)
  rintro v1 W1 ⟨q2, e2, rfl, hq2, hb⟩ hS1
  simp only [Act.put, List.setIfInBounds_toArray, List.set_cons_zero, List.set_cons_succ]
  refine tk (i := 6) (.tuple #[.int .u16 q2, .int .i64 e2]) hS1 rfl (by kernel_rfl) (by kernel_rfl) (by kernel_rfl) (fun _ _ _ h => h) (by kernel_rfl) (by intro _ _; exact rfl) ?_
  simp only [Act.put, List.setIfInBounds_toArray, List.set_cons_zero, List.set_cons_succ]
  refine tk (i := 7) (.int .u16 q2) hS1 rfl (by kernel_rfl) (by kernel_rfl) (by kernel_rfl) (fun _ _ _ h => h) (by kernel_rfl) (by intro _ _; exact rfl) ?_
  simp only [Act.put, List.setIfInBounds_toArray, List.set_cons_zero, List.set_cons_succ]
  refine tk (i := 8) (.int .i64 e2) hS1 rfl (by kernel_rfl) (by kernel_rfl) (by kernel_rfl) (fun _ _ _ h => h) (by kernel_rfl) (by intro _ _; exact rfl) ?_
  simp only [Act.put, List.setIfInBounds_toArray, List.set_cons_zero, List.set_cons_succ]
  refine tk (i := 9) (.int .u16 q2) hS1 rfl (by kernel_rfl) (by kernel_rfl) (by kernel_rfl) (fun _ _ _ h => h) (by kernel_rfl) (by intro _ _; exact rfl) ?_
  simp only [Act.put, List.setIfInBounds_toArray, List.set_cons_zero, List.set_cons_succ]
  refine wpAnyH_done (by kernel_rfl) ?_ _
  have ho := ho.below hS1.b
  have hB := hB.trans (hS1.b.mono hB.size)
  -- END 6
  have hq2' : q2 = rwSum1 6 l f t src dst := by rw [hq2.out, rwOut_take, hqH.out]; rfl
  have hr2 : 0 ≤ q2 ∧ q2 < 65536 := by rw [hq2']; exact rwSum1_rng y.rng y1.rng y2.rng hsr hds
  have hsm : rwSum 6 l f t src dst = if q2 = 0 ∧ (6 : Int) = 17 then 65535 else q2 := by rw [rwSum, ← hq2']
  have hsmH := Lib.hid hsm
  have hlo := rwOut_len h4 src dst
  have hloH := Lib.hid hlo
  have hsl : 16 + 1 < l.length := by omega
  have hslH := Lib.hid hsl
  clear hq2 hq2' hsm hlo hsl hS hS1 hs1 hs2 yl yo hb
  by_cases h0 : q2 = 0
  · subst h0
    go_wp2_with fail
    refine (set_own w.heap.size A5 l.length k5 (rwOut l src dst) _ ho hloH.out.symm 16 hslH.out hs 0 (by decide)).mono ?_
    rintro e w7 ⟨rfl, ho', hg⟩
    have hB := hB.trans (below_own ho.own hg hB.size)
    go_wp2
    go_ret2
    exact ⟨_, _, rfl, Lib.hid rfl, by rw [hr, hsmH.out]; exact ho', hB⟩
  · have h0' : (q2 == 0) = false := by simp [h0]
    go_wp2_with fail
    refine (set_own w.heap.size A5 l.length k5 (rwOut l src dst) _ ho hloH.out.symm 16 hslH.out hs q2 hr2).mono ?_
    rintro e w7 ⟨rfl, ho', hg⟩
    have hB := hB.trans (below_own ho.own hg hB.size)
    go_wp2
    go_ret2
    exact ⟨_, _, rfl, Lib.hid rfl, by rw [hr, hsmH.out, if_neg (by simp [h0])]; exact ho', hB⟩

set_option maxRecDepth 100000 in
set_option maxHeartbeats 2000000 in
theorem rw_ok17 (A : Option Addr) (c : Nat) (l : List Int) (A1 : Option Addr) (c1 : Nat) (f : List Int) (A2 : Option Addr) (c2 : Nat) (t : List Int) (src dst : Int) (hsr : 0 ≤ src ∧ src < 65536) (hds : 0 ≤ dst ∧ dst < 65536) (w : World) (y : By w.heap.size w A l.length c l) (y1 : By w.heap.size w A1 f.length c1 f) (y2 : By w.heap.size w A2 t.length c2 t) (hs : l.length ≤ 140737488355328) (h4 : 4 ≤ l.length) (hft : f.length = t.length) (hev : t.length % 2 = 0) :
    Calls Try.prog 38 #[.int .u8 17, .slice A l.length c, .slice A1 f.length c1, .slice A2 t.length c2, .int .u16 src, .int .u16 dst] w fun e w' => ToldB (rwBytes 17 l f t src dst) 0 w e w' := by
  have hz : rwErr 17 l f t = 0 := by unfold rwErr; rw [if_neg (by decide), if_neg (by omega), if_neg (by simp [hft, hev])]
  have hat : rwAt 17 = 6 := rfl
  have hb1 := Nat.le_trans y1.cap y1.big
  have hb2 := Nat.le_trans y2.cap y2.big
  have hbytes : rwBytes 17 l f t src dst = if rwNone 17 l then rwOut l src dst else set2 (rwOut l src dst) 6 (rwSum 17 l f t src dst) := by unfold rwBytes; rw [if_neg (by simp [hz])]; rfl
  have hnone : rwNone 17 l ↔ (l.length < 8 ∨ be2 l 6 = 0) := by unfold rwNone; rw [hat]; simp
  have h4' : (4 : Int) ≤ (l.length : Int) := by omega
  have hev' : (t.length : Int) % 2 = 0 := by omega
  have hne : ((f.length : Int) != (t.length : Int)) = false := by simp [hft]
  have hfe : (f.length : Int) % 2 = 0 := by omega
  have hbH := Lib.hid hbytes
  clear hbytes hft
  go_enter Try.func38, Try.ntmps38
  go_wp2_with fail
  refine (clone_n A c l.length l w y hs).mono ?_
  rintro e w1 ⟨v, rfl, ho, hb⟩
  obtain ⟨A5, k5, rfl, _⟩ := own_shape ho.own
  have hB := hb
  clear hb
  go_wp2_with fail
  refine (set_own w.heap.size A5 l.length k5 l w1 ho rfl 0 (by omega) hs src hsr).mono ?_
  rintro e w2 ⟨rfl, ho', hg⟩
  have hB := hB.trans (below_own ho.own hg hB.size)
  clear hg ho
  go_wp2_with fail
  refine (set_own w.heap.size A5 l.length k5 (set2 l 0 src) w2 ho' (by simp [set2_len]) 2 (by omega) hs dst hds).mono ?_
  rintro e w3 ⟨rfl, ho, hg⟩
  have hB := hB.trans (below_own ho'.own hg hB.size)
  clear hg ho'
  rw [rwOut_set h4] at ho
  by_cases hsh : l.length < 8
  case pos =>
    have hr : rwBytes 17 l f t src dst = rwOut l src dst := by rw [hbH.out, if_pos (hnone.2 (.inl hsh))]
    have hsh' : (l.length : Int) < 8 := by omega
    clear hnone
    go_wp2
    go_ret2
    exact ⟨_, _, rfl, Lib.hid rfl, by rw [hr]; exact ho, hB⟩
  case neg =>
  have hsh' : ¬ ((l.length : Int) < 8) := by omega
  have rr := be2_rng y.rng 6
  by_cases h0 : be2 l 6 = 0
  case pos =>
    have hr : rwBytes 17 l f t src dst = rwOut l src dst := by rw [hbH.out, if_pos (hnone.2 (.inr h0))]
    clear hnone
    go_wp2_with fail
    refine (two6_any A _ c l _ ((y.below hB (Nat.le_refl _)).more hB.size) 6 (by omega)).mono ?_
    rintro e w4 ⟨rfl, hb⟩
    have ho := ho.below hb
    have hB := hB.trans (hb.mono hB.size)
    clear hb
    go_wp2
    go_ret2
    exact ⟨_, _, rfl, Lib.hid rfl, by rw [hr]; exact ho, hB⟩
  case neg =>
    have hz0 : (be2 l 6 == 0) = false := by simp [h0]
    have hr : rwBytes 17 l f t src dst = set2 (rwOut l src dst) 6 (rwSum 17 l f t src dst) := by rw [hbH.out, if_neg (fun h => (hnone.1 h).elim hsh h0)]
    clear hnone
    go_wp2_with fail
    refine (two6_any A _ c l _ ((y.below hB (Nat.le_refl _)).more hB.size) 6 (by omega)).mono ?_
    rintro e w4 ⟨rfl, hb⟩
    have ho := ho.below hb
    have hB := hB.trans (hb.mono hB.size)
    clear hb
    go_wp2_with fail
    refine (two6_any A _ c l _ ((y.below hB (Nat.le_refl _)).more hB.size) 6 (by omega)).mono ?_
    rintro e w4 ⟨rfl, hb⟩
    have ho := ho.below hb
    have hB := hB.trans (hb.mono hB.size)
    clear hb
    go_wp2_with fail
    refine (update_any (be2 l 6) rr A1 A2 c1 c2 f t _ ((y1.below hB (Nat.le_refl _)).more hB.size) ((y2.below hB (Nat.le_refl _)).more hB.size)).mono ?_
    rintro e w5 ⟨⟨q, er, rfl, hqe⟩, hb⟩
    have hq : q = (updateS (be2 l 6) f t).1 := hqe.out.1
    have hqr : 0 ≤ q ∧ q < 65536 := by rw [hq]; exact updateS_rng _ rr f t y1.rng y2.rng
    have ho := ho.below hb
    have hB := hB.trans (hb.mono hB.size)
    have hqH := Lib.hid hq
    clear hb hqe hq
    have yl := (y.below hB (Nat.le_refl _)).more hB.size
    have hs1 := yl.to_ (P := Try.prog) 24 Try.underlying24 (by kernel_rfl) (k := 4) h4
    have yo := own_byN ho
    have hs2 := yo.to_ (P := Try.prog) 24 Try.underlying24 (by kernel_rfl) (k := 4) h4
    have hl4 : (l.take 4).length = 4 := by rw [List.length_take]; omega
    have ho4 : ((rwOut l src dst).take 4).length = 4 := rfl
    have hl4 := Lib.hid hl4
    have ho4 := Lib.hid ho4
    go_wp2_with fail
    refine wp_region_held_drew (S := SG w5) (by kernel_rfl) ⟨below_drew _ _⟩ (fun hS => ?_)
    generalize w5.drew = W0 at hS ⊢
    -- REGION 17
    refine tk (i := 0) (.int .u16 q) hS rfl (by kernel_rfl) (by kernel_rfl) (by kernel_rfl) (fun _ _ _ h => h) (by kernel_rfl) (by intro _ _; exact rfl) ?_
    simp only [Act.put, List.setIfInBounds_toArray, List.set_cons_zero, List.set_cons_succ]
    refine tk (i := 1) (.slice A l.length c) hS rfl (by kernel_rfl) (by kernel_rfl) (by kernel_rfl) (fun _ _ _ h => h) (by kernel_rfl) (by intro _ _; exact rfl) ?_
    simp only [Act.put, List.setIfInBounds_toArray, List.set_cons_zero, List.set_cons_succ]
    refine tk (i := 2) (.slice A 4 c) hS rfl (by kernel_rfl) (by kernel_rfl) (by kernel_rfl) (fun _ _ _ h => h) (by kernel_rfl) (by intro w' _; exact ex_slice (by exact rfl) (by exact rfl) (hs1.1 w')) ?_
    simp only [Act.put, List.setIfInBounds_toArray, List.set_cons_zero, List.set_cons_succ]
    refine tk (i := 3) (.slice A5 l.length k5) hS rfl (by kernel_rfl) (by kernel_rfl) (by kernel_rfl) (fun _ _ _ h => h) (by kernel_rfl) (by intro _ _; exact rfl) ?_
    simp only [Act.put, List.setIfInBounds_toArray, List.set_cons_zero, List.set_cons_succ]
    refine tk (i := 4) (.slice A5 4 k5) hS rfl (by kernel_rfl) (by kernel_rfl) (by kernel_rfl) (fun _ _ _ h => h) (by kernel_rfl) (by intro w' _; exact ex_slice (by exact rfl) (by exact rfl) (hs2.1 w')) ?_
    simp only [Act.put, List.setIfInBounds_toArray, List.set_cons_zero, List.set_cons_succ]
    refine tk_one (by kernel_rfl) (op_callx (i := 5) (fun v w' => ∃ q2 e2, v = .tuple #[.int .u16 q2, .int .i64 e2] ∧ Hid (q2 = (updateS q (l.take 4) ((rwOut l src dst).take 4)).1) ∧ Below W0.heap.size W0 w') rfl (by kernel_rfl) (by exact ex_call (by exact rfl) Try.func62 (by kernel_rfl) (by kernel_rfl) (by simp only [List.map_toArray, List.map_cons, List.map_nil] <;> rfl)) (by have hx := update_any q hqr A A5 c k5 (l.take 4) ((rwOut l src dst).take 4) _ (by rw [hl4.out]; exact (hs1.2.below hS.b (Nat.le_refl _)).more hS.big) (by rw [ho4.out]; exact (hs2.2.below hS.b (Nat.le_refl _)).more hS.big); rw [hl4.out, ho4.out] at hx; exact hx.mono fun e w' g => by obtain ⟨⟨q2, e2, rfl, hq2⟩, hb⟩ := g; exact ⟨_, rfl, ⟨q2, e2, rfl, Lib.hid hq2.out.1, hb⟩, hS.keep (hb.mono hS.big)⟩) ?_)
    rintro v1 W1 ⟨q2, e2, rfl, hq2, hb⟩ hS1
    simp only [Act.put, List.setIfInBounds_toArray, List.set_cons_zero, List.set_cons_succ]
    refine tk (i := 6) (.tuple #[.int .u16 q2, .int .i64 e2]) hS1 rfl (by kernel_rfl) (by kernel_rfl) (by kernel_rfl) (fun _ _ _ h => h) (by kernel_rfl) (by intro _ _; exact rfl) ?_
    simp only [Act.put, List.setIfInBounds_toArray, List.set_cons_zero, List.set_cons_succ]
    refine tk (i := 7) (.int .u16 q2) hS1 rfl (by kernel_rfl) (by kernel_rfl) (by kernel_rfl) (fun _ _ _ h => h) (by kernel_rfl) (by intro _ _; exact rfl) ?_
    simp only [Act.put, List.setIfInBounds_toArray, List.set_cons_zero, List.set_cons_succ]
    refine tk (i := 8) (.int .i64 e2) hS1 rfl (by kernel_rfl) (by kernel_rfl) (by kernel_rfl) (fun _ _ _ h => h) (by kernel_rfl) (by intro _ _; exact rfl) ?_
    simp only [Act.put, List.setIfInBounds_toArray, List.set_cons_zero, List.set_cons_succ]
    refine tk (i := 9) (.int .u16 q2) hS1 rfl (by kernel_rfl) (by kernel_rfl) (by kernel_rfl) (fun _ _ _ h => h) (by kernel_rfl) (by intro _ _; exact rfl) ?_
    simp only [Act.put, List.setIfInBounds_toArray, List.set_cons_zero, List.set_cons_succ]
    refine wpAnyH_done (by kernel_rfl) ?_ _
    have ho := ho.below hS1.b
    have hB := hB.trans (hS1.b.mono hB.size)
    -- END 17
    have hq2' : q2 = rwSum1 17 l f t src dst := by rw [hq2.out, rwOut_take, hqH.out]; rfl
    have hr2 : 0 ≤ q2 ∧ q2 < 65536 := by rw [hq2']; exact rwSum1_rng y.rng y1.rng y2.rng hsr hds
    have hsm : rwSum 17 l f t src dst = if q2 = 0 ∧ (17 : Int) = 17 then 65535 else q2 := by rw [rwSum, ← hq2']
    have hsmH := Lib.hid hsm
    have hlo := rwOut_len h4 src dst
    have hloH := Lib.hid hlo
    have hsl : 6 + 1 < l.length := by omega
    have hslH := Lib.hid hsl
    clear hq2 hq2' hsm hlo hsl hS hS1 hs1 hs2 yl yo hb
    by_cases h0 : q2 = 0
    · subst h0
      go_wp2_with fail
      refine (set_own w.heap.size A5 l.length k5 (rwOut l src dst) _ ho hloH.out.symm 6 hslH.out hs 65535 (by decide)).mono ?_
      rintro e w7 ⟨rfl, ho', hg⟩
      have hB := hB.trans (below_own ho.own hg hB.size)
      go_wp2
      go_ret2
      exact ⟨_, _, rfl, Lib.hid rfl, by rw [hr, hsmH.out]; exact ho', hB⟩
    · have h0' : (q2 == 0) = false := by simp [h0]
      go_wp2_with fail
      refine (set_own w.heap.size A5 l.length k5 (rwOut l src dst) _ ho hloH.out.symm 6 hslH.out hs q2 hr2).mono ?_
      rintro e w7 ⟨rfl, ho', hg⟩
      have hB := hB.trans (below_own ho.own hg hB.size)
      go_wp2
      go_ret2
      exact ⟨_, _, rfl, Lib.hid rfl, by rw [hr, hsmH.out, if_neg (by simp [h0])]; exact ho', hB⟩
end Go.Proofs.Ytaobnbjkhgcmlaa
