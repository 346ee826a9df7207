/-
  The walk of the law SumNeutral.
-/
import Derived.Test.YtiplnjpgaiibhaaLawSumA
namespace Go.Proofs.Ytiplnjpgaiibhaa
open Go.RowKit Go.Shelf

/-- a word makes up for the change of others -/
theorem neutral_law (h f t l : List Int) (hh : h.length % 2 = 0) (hft : f.length = t.length) (hf : f.length % 2 = 0) (rh : InB h) (rf : InB f) (rt : InB t) (rl : InB l) :
    (changedS 0 t f).2 = 0 ∧ (65535 - sumw (h ++ ([0, 0] ++ (f ++ l)))) % 65535 = (65535 - sumw (h ++ ([(changedS 0 t f).1 / 256, (changedS 0 t f).1 % 256] ++ (t ++ l)))) % 65535 := by
  have hev : t.length = f.length ∧ f.length % 2 = 0 := ⟨hft.symm, hf⟩
  have hn := changedS_rng 0 (by omega) t f rt rf
  have r0 : InB [0, 0] := fun x hx => by simp at hx; omega
  have r3 : InB [(changedS 0 t f).1 / 256, (changedS 0 t f).1 % 256] := fun x hx => by
    simp only [List.mem_cons, List.not_mem_nil, or_false] at hx
    omega
  have r1 := rh.app (r0.app (rf.app rl))
  have r2 := rh.app (r3.app (rt.app rl))
  have n1 := wt_nonneg _ r1
  have n2 := wt_nonneg _ r2
  have m1 := cs_mod _ n1
  have m2 := cs_mod _ n2
  rw [sumw_wt _ r1, sumw_wt _ r2]
  have nt := neg_rng _ (wds_rng _ rt)
  have pt := tot_nonneg _ nt
  have pf := wt_nonneg _ rf
  have hk : (changedS 0 t f).1 = cs (0 + (65535 * ((wds t).length : Int) - wt t) + wt f) := by
    unfold changedS
    rw [if_pos hev]
    simp only
    rw [fold_tot 0 (by omega) _ nt, fold_cs _ (wds_rng _ rf) _ (by omega), tot_neg]
    rfl
  have m3 := cs_mod (0 + (65535 * ((wds t).length : Int) - wt t) + wt f) (by rw [tot_neg] at pt; unfold wt at pf ⊢; omega)
  rw [← hk] at m3
  refine ⟨by unfold changedS; rw [if_pos hev], ?_⟩
  clear hk
  generalize (changedS 0 t f).1 = q at *
  generalize cs (wt (h ++ ([0, 0] ++ (f ++ l)))) = x at *
  generalize cs (wt (h ++ ([q / 256, q % 256] ++ (t ++ l)))) = y at *
  rw [wt_append _ _ hh, wt_append [0, 0] _ (by simp), wt_two, wt_append _ _ hf] at m1
  rw [wt_append _ _ hh, wt_append [q / 256, q % 256] _ (by simp), wt_two, wt_append _ _ (by omega)] at m2
  rw [show q / 256 * 256 + q % 256 = q from by omega] at m2
  generalize (wds t).length = k at *
  omega

set_option maxRecDepth 100000 in
set_option maxHeartbeats 1000000 in
theorem sumNeutral_walk (A0 : Option Addr) (c0 : Nat) (l0 : List Int) (A1 : Option Addr) (c1 : Nat) (l1 : List Int) (A2 : Option Addr) (c2 : Nat) (l2 : List Int) (A3 : Option Addr) (c3 : Nat) (l3 : List Int) (w : World) (h0 : By w.heap.size w A0 l0.length c0 l0) (h1 : By w.heap.size w A1 l1.length c1 l1) (h2 : By w.heap.size w A2 l2.length c2 l2) (h3 : By w.heap.size w A3 l3.length c3 l3) :
    Calls Try.prog 9 #[.slice A0 l0.length c0, .slice A1 l1.length c1, .slice A2 l2.length c2, .slice A3 l3.length c3] w fun e w' => e = .returned (.bool true) ∧ Below w.heap.size w w' := by
  go_enter Try.func9, Try.ntmps9
  go_wp2_with fail
  refine (cut_any _ _ _ _ _ h0).mono ?_
  rintro e w1 ⟨rfl, y0, rfl⟩
  go_wp2_with fail
  refine (cut_any _ _ _ _ _ h1).mono ?_
  rintro e w1 ⟨rfl, y1, rfl⟩
  go_wp2_with fail
  refine (cut_any _ _ _ _ _ h2).mono ?_
  rintro e w1 ⟨rfl, y2, rfl⟩
  go_wp2_with fail
  refine (cut_any _ _ _ _ _ h3).mono ?_
  rintro e w1 ⟨rfl, y3, rfl⟩
  generalize cutS l0 = m0 at *
  generalize cutS l1 = m1 at *
  generalize cutS l2 = m2 at *
  generalize cutS l3 = m3 at *
  by_cases hev : m0.length % 2 = 0 ∧ m1.length = m2.length ∧ m1.length % 2 = 0
  · have t1 : ((m0.length : Int) % 2 != 0) = false := by simp; omega
    have t2 : ((m1.length : Int) != (m2.length : Int)) = false := by simp; omega
    have t3 : ((m1.length : Int) % 2 != 0) = false := by simp; omega
    have hevH := Lib.hid hev
    clear hev
    go_wp2_with fail
    refine (neutral_any _ _ _ _ _ _ _ y1 y2).mono ?_
    rintro e w2 ⟨⟨q2, e2, rfl, hq2⟩, hB2⟩
    have hs2 := hB2.size
    have law := neutral_law m0 m1 m2 m3 hevH.out.1 hevH.out.2.1 hevH.out.2.2 y0.rng y1.rng y2.rng y3.rng
    have hr2 : 0 ≤ q2 ∧ q2 < 65536 := by
      rw [hq2.out.1]; exact changedS_rng 0 (by omega) _ _ y2.rng y1.rng
    rw [← hq2.out.1, ← hq2.out.2] at law
    obtain ⟨rfl, law⟩ := law
    have lawH := Lib.hid law
    clear law hq2
    have y0' := (y0.below hB2 (Nat.le_refl _)).more hs2
    have y1' := (y1.below hB2 (Nat.le_refl _)).more hs2
    have y2' := (y2.below hB2 (Nat.le_refl _)).more hs2
    have y3' := (y3.below hB2 (Nat.le_refl _)).more hs2
    have r0 : InB [0, 0] := fun x hx => by simp at hx; omega
    have r3 : InB [q2 / 256, q2 % 256] := fun x hx => by
      simp only [List.mem_cons, List.not_mem_nil, or_false] at hx
      omega
    go_wp2_with fail
    refine (of_new [(A0, c0, m0), (some ⟨w2.heap.size, 0, none⟩, 2, [0, 0]), (A1, c1, m1), (A3, c3, m3)] _ (Has.newAt (by simp)) rfl (all4
      (((y0'.alloc (Nat.le_refl _) _).alloc (by simp) _).more (by simp; omega))
      (By.blk (t := 5) (fz := (0, 0)) (Has.newAt rfl).alloc (Nat.le_refl _) r0 (by simp) rfl rfl)
      (((y1'.alloc (Nat.le_refl _) _).alloc (by simp) _).more (by simp; omega))
      (((y3'.alloc (Nat.le_refl _) _).alloc (by simp) _).more (by simp; omega))) (by simp)).mono ?_
    rintro e w3 ⟨q3, rfl, hq3, hr3, hb3⟩
    have hb3' : Below w2.heap.size w2 w3 := (((Below.refl _ w2).alloc (Nat.le_refl _) _).alloc (by simp) _).trans (hb3.mono (by simp; omega))
    have hB3 := hB2.trans (hb3'.mono hs2)
    have hs3 := hB3.size
    clear hb3
    go_wp2_with fail
    refine (of_new [(A0, c0, m0), (some ⟨w3.heap.size, 0, none⟩, 2, [q2 / 256, q2 % 256]), (A2, c2, m2), (A3, c3, m3)] _ (Has.newAt (by simp)) rfl (all4
      (((((y0'.below hb3' (Nat.le_refl _)).more hb3'.size).alloc (Nat.le_refl _) _).alloc (by simp) _).more (by simp; omega))
      (By.blk (t := 5) (fz := (0, 0)) (Has.newAt rfl).alloc (Nat.le_refl _) r3 (by simp) rfl rfl)
      (((((y2'.below hb3' (Nat.le_refl _)).more hb3'.size).alloc (Nat.le_refl _) _).alloc (by simp) _).more (by simp; omega))
      (((((y3'.below hb3' (Nat.le_refl _)).more hb3'.size).alloc (Nat.le_refl _) _).alloc (by simp) _).more (by simp; omega))) (by simp)).mono ?_
    rintro e w4 ⟨q4, rfl, hq4, hr4, hb4⟩
    have hB4 : Below w.heap.size w w4 := hB3.trans ((((Below.refl _ w3).alloc (Nat.le_refl _) _).alloc (by simp) _).trans (hb4.mono (by simp; omega)) |>.mono hs3)
    have e3 := hq3.out
    have e4 := hq4.out
    simp only [flat, List.map_cons, List.map_nil, List.flatten_cons, List.flatten_nil, List.append_nil] at e3 e4
    have hd : decide (q3 % 65535 = q4 % 65535) = true := by rw [e3, e4]; exact decide_eq_true lawH.out
    clear e3 e4 hq3 hq4 hb4
    go_wp2_with fail
    refine (alike_any _ _ _ hr3 hr4).mono ?_
    rintro e w5 ⟨rfl, rfl⟩
    rw [hd]
    go_wp2_with fail
    refine (alive_any _).mono ?_
    rintro e w5 ⟨rfl, hb5⟩
    go_wp2
    go_ret
    exact ⟨rfl, hB4.trans (hb5.mono hB4.size)⟩
  · have hal : ∀ w : World, Calls Try.prog 12 #[] w fun e w' => e = .returned (.bool true) ∧ Below w.heap.size w w' := alive_any
    have halH := Lib.hid hal
    clear hal
    by_cases g0 : m0.length % 2 = 0
    · have t1 : ((m0.length : Int) % 2 != 0) = false := by simp; omega
      by_cases g1 : m1.length = m2.length
      · have t2 : ((m1.length : Int) != (m2.length : Int)) = false := by simp; omega
        have t3 : ((m1.length : Int) % 2 != 0) = true := by simp; omega
        clear g1 g0 hev
        go_wp2_with fail
        refine (halH.out _).mono ?_
        rintro e w1 ⟨rfl, hb1⟩
        go_wp2
        go_ret
        exact ⟨rfl, hb1⟩
      · have t2 : ((m1.length : Int) != (m2.length : Int)) = true := by simp; omega
        clear g1 g0 hev
        go_wp2_with fail
        refine (halH.out _).mono ?_
        rintro e w1 ⟨rfl, hb1⟩
        go_wp2
        go_ret
        exact ⟨rfl, hb1⟩
    · have t1 : ((m0.length : Int) % 2 != 0) = true := by simp; omega
      clear g0 hev
      go_wp2_with fail
      refine (halH.out _).mono ?_
      rintro e w1 ⟨rfl, hb1⟩
      go_wp2
      go_ret
      exact ⟨rfl, hb1⟩
end Go.Proofs.Ytiplnjpgaiibhaa
