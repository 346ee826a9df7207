/-
  The walks of the laws of chapter 1: SumOneWord, SumChanges, SumNeutral.
-/
import Derived.Test.YtiplnjpgaiibhaaLawSumA
namespace Go.Proofs.Ytiplnjpgaiibhaa
open Go.RowKit Go.Shelf

theorem InB.two {a : Int} (h0 : 0 ≤ a) (h1 : a < 65536) : InB [a / 256, a % 256] := fun x hx => by
  simp only [List.mem_cons, List.not_mem_nil, or_false] at hx
  omega
theorem oneWord_law (h t : List Int) (hh : h.length % 2 = 0) (rh : InB h) (rt : InB t) (a b : Int) (ha : 0 ≤ a ∧ a < 65536) (hb : 0 ≤ b ∧ b < 65536) :
    ((65535 - sumw (h ++ ([a / 256, a % 256] ++ t))) % 65535 = (65535 - sumw (h ++ ([b / 256, b % 256] ++ t))) % 65535) ↔ (a % 65535 = b % 65535) := by
  have r1 := rh.app ((InB.two ha.1 ha.2).app rt)
  have r2 := rh.app ((InB.two hb.1 hb.2).app rt)
  rw [sumw_wt _ r1, sumw_wt _ r2]
  have n1 := wt_nonneg _ r1
  have n2 := wt_nonneg _ r2
  have m1 := cs_mod _ n1
  have m2 := cs_mod _ n2
  rw [wt_append _ _ hh, wt_append [a / 256, a % 256] _ (by simp), wt_two] at m1 n1
  rw [wt_append _ _ hh, wt_append [b / 256, b % 256] _ (by simp), wt_two] at m2 n2
  rw [wt_append _ _ hh, wt_append [a / 256, a % 256] _ (by simp), wt_two]
  rw [wt_append _ _ hh, wt_append [b / 256, b % 256] _ (by simp), wt_two]
  rw [show a / 256 * 256 + a % 256 = a from by omega] at *
  rw [show b / 256 * 256 + b % 256 = b from by omega] at *
  generalize cs (wt h + (a + wt t)) = x at *
  generalize cs (wt h + (b + wt t)) = y at *
  omega

set_option maxRecDepth 100000 in
set_option maxHeartbeats 1000000 in
theorem sumOneWord_walk (A0 : Option Addr) (c0 : Nat) (l0 : List Int) (a b : Int) (A3 : Option Addr) (c3 : Nat) (l3 : List Int) (w : World) (h0 : By w.heap.size w A0 l0.length c0 l0) (ha0 : 0 ≤ a) (ha1 : a < 65536) (hbb0 : 0 ≤ b) (hbb1 : b < 65536) (h3 : By w.heap.size w A3 l3.length c3 l3) :
    Calls Try.prog 6 #[.slice A0 l0.length c0, .int .u16 a, .int .u16 b, .slice A3 l3.length c3] w fun e w' => e = .returned (.bool true) ∧ Below w.heap.size w w' := by
  go_enter Try.func6, Try.ntmps6
  go_wp2_with fail
  refine (cut_any _ _ _ _ _ h0).mono ?_
  rintro e w1 ⟨rfl, y0, rfl⟩
  go_wp2_with fail
  refine (cut_any _ _ _ _ _ h3).mono ?_
  rintro e w1 ⟨rfl, y3, rfl⟩
  have z0 := cutS_le l0
  have z3 := cutS_le l3
  generalize cutS l0 = m0 at *
  generalize cutS l3 = m3 at *
  by_cases hev : m0.length % 2 = 0
  · have hm : ((m0.length : Int) % 2 != 0) = false := by simp; omega
    have hevH := Lib.hid hev
    clear hev
    go_wp2_with fail
    refine (of_new [(A0, c0, m0), (some ⟨w.heap.size, 0, none⟩, 2, [a / 256, a % 256]), (A3, c3, m3)] _ (Has.newAt (by simp)) rfl (all3
      (((y0.alloc (Nat.le_refl _) _).alloc (by simp) _).more (by simp; omega))
      (By.blk (t := 5) (fz := (0, 0)) (Has.newAt rfl).alloc (Nat.le_refl _) (InB.two ha0 ha1) (by simp) rfl rfl)
      (((y3.alloc (Nat.le_refl _) _).alloc (by simp) _).more (by simp; omega))) (by simp)).mono ?_
    rintro e w1 ⟨q1, rfl, hq1, hr1, hb1⟩
    have hB1 : Below w.heap.size w w1 := (((Below.refl _ w).alloc (Nat.le_refl _) _).alloc (by simp) _).trans (hb1.mono (by simp; omega))
    have hs1 := hB1.size
    have y0' := (y0.below hB1 (Nat.le_refl _)).more hs1
    have y3' := (y3.below hB1 (Nat.le_refl _)).more hs1
    clear hb1
    go_wp2_with fail
    refine (of_new [(A0, c0, m0), (some ⟨w1.heap.size, 0, none⟩, 2, [b / 256, b % 256]), (A3, c3, m3)] _ (Has.newAt (by simp)) rfl (all3
      (((y0'.alloc (Nat.le_refl _) _).alloc (by simp) _).more (by simp; omega))
      (By.blk (t := 5) (fz := (0, 0)) (Has.newAt rfl).alloc (Nat.le_refl _) (InB.two hbb0 hbb1) (by simp) rfl rfl)
      (((y3'.alloc (Nat.le_refl _) _).alloc (by simp) _).more (by simp; omega))) (by simp)).mono ?_
    rintro e w2 ⟨q2, rfl, hq2, hr2, hb2⟩
    have hB2 : Below w.heap.size w w2 := hB1.trans ((((Below.refl _ w1).alloc (Nat.le_refl _) _).alloc (by simp) _).trans (hb2.mono (by simp; omega)) |>.mono hs1)
    clear hb2
    have law := oneWord_law m0 m3 hevH.out y0.rng y3.rng a b ⟨ha0, ha1⟩ ⟨hbb0, hbb1⟩
    have e1 := hq1.out
    have e2 := hq2.out
    simp only [flat, List.map_cons, List.map_nil, List.flatten_cons, List.flatten_nil, List.append_nil] at e1 e2
    rw [← e1, ← e2] at law
    have hd : (decide (q1 % 65535 = q2 % 65535) == (a % 65535 == b % 65535)) = true := by
      rw [beq_iff_eq, Bool.eq_iff_iff]; simpa using law
    clear e1 e2 law hq1 hq2
    go_wp2_with fail
    refine (alike_any _ _ _ hr1 hr2).mono ?_
    rintro e w3 ⟨rfl, rfl⟩
    go_wp2_with fail
    refine (alive_any _).mono ?_
    rintro e w4 ⟨rfl, hb4⟩
    go_wp2
    go_ret
    exact ⟨rfl, hB2.trans (hb4.mono hB2.size)⟩
  · have hm : ((m0.length : Int) % 2 != 0) = true := by simp; omega
    clear hev
    go_wp2_with fail
    refine (alive_any _).mono ?_
    rintro e w1 ⟨rfl, hb1⟩
    go_wp2
    go_ret
    exact ⟨rfl, hb1⟩
end Go.Proofs.Ytiplnjpgaiibhaa
