/-
  The walk of the law SumChanges.
-/
import Derived.Test.YtiplnjpgaiibhaaLawSumA
namespace Go.Proofs.Ytiplnjpgaiibhaa
open Go.RowKit Go.Shelf

/-- the checksum behind a change is told without what did not change -/
theorem changes_law (h f t l : List Int) (hh : h.length % 2 = 0) (hft : f.length = t.length) (hf : f.length % 2 = 0) (rh : InB h) (rf : InB f) (rt : InB t) (rl : InB l) :
    (updateS (65535 - sumw (h ++ (f ++ l))) f t).2 = 0 ∧ (updateS (65535 - sumw (h ++ (f ++ l))) f t).1 % 65535 = (65535 - sumw (h ++ (t ++ l))) % 65535 := by
  have r1 := rh.app (rf.app rl)
  have r2 := rh.app (rt.app rl)
  have hev : f.length = t.length ∧ t.length % 2 = 0 := ⟨hft, by omega⟩
  unfold updateS changedS
  rw [if_pos hev, if_pos hev]
  refine ⟨rfl, ?_⟩
  simp only
  rw [sumw_wt _ r1, sumw_wt _ r2]
  have n1 := wt_nonneg _ r1
  have n2 := wt_nonneg _ r2
  have c1 := cs_rng n1
  have m1 := cs_mod _ n1
  have m2 := cs_mod _ n2
  have nf := neg_rng _ (wds_rng _ rf)
  have pf := tot_nonneg _ nf
  have pt := wt_nonneg _ rt
  have hk : fold (fold (65535 - (65535 - cs (wt (h ++ (f ++ l))))) (neg (wds f))) (wds t) = cs (wt (h ++ (f ++ l)) + (65535 * ((wds f).length : Int) - wt f) + wt t) := by
    rw [show 65535 - (65535 - cs (wt (h ++ (f ++ l)))) = cs (wt (h ++ (f ++ l))) from by omega, fold_cs _ nf _ n1, fold_cs _ (wds_rng _ rt) _ (by omega), tot_neg]
    rfl
  rw [hk]
  have m3 := cs_mod (wt (h ++ (f ++ l)) + (65535 * ((wds f).length : Int) - wt f) + wt t) (by rw [tot_neg] at pf; unfold wt at pt n1 ⊢; omega)
  generalize cs (wt (h ++ (f ++ l)) + (65535 * ((wds f).length : Int) - wt f) + wt t) = x at *
  generalize cs (wt (h ++ (t ++ l))) = y at *
  rw [wt_append _ _ hh, wt_append _ _ hf] at m3
  rw [wt_append _ _ hh, wt_append _ _ (by omega)] at m2
  generalize (wds f).length = k at *
  omega

set_option maxRecDepth 100000 in
set_option maxHeartbeats 1000000 in
theorem sumChanges_walk (A0 : Option Addr) (c0 : Nat) (l0 : List Int) (A1 : Option Addr) (c1 : Nat) (l1 : List Int) (A2 : Option Addr) (c2 : Nat) (l2 : List Int) (A3 : Option Addr) (c3 : Nat) (l3 : List Int) (w : World) (h0 : By w.heap.size w A0 l0.length c0 l0) (h1 : By w.heap.size w A1 l1.length c1 l1) (h2 : By w.heap.size w A2 l2.length c2 l2) (h3 : By w.heap.size w A3 l3.length c3 l3) :
    Calls Try.prog 5 #[.slice A0 l0.length c0, .slice A1 l1.length c1, .slice A2 l2.length c2, .slice A3 l3.length c3] w fun e w' => e = .returned (.bool true) ∧ Below w.heap.size w w' := by
  go_enter Try.func5, Try.ntmps5
  go_wp2_with fail
  refine (cut_any _ _ _ _ _ h0).mono ?_
  rintro e w1 ⟨rfl, y0, rfl⟩
  go_wp2_with fail
  refine (cut_any _ _ _ _ _ h1).mono ?_
  rintro e w1 ⟨rfl, y1, rfl⟩
  go_wp2_with fail
  refine (cut_any _ _ _ _ _ h2).mono ?_
  rintro e w1 ⟨rfl, y2, rfl⟩
  go_wp2_with fail
  refine (cut_any _ _ _ _ _ h3).mono ?_
  rintro e w1 ⟨rfl, y3, rfl⟩
  generalize cutS l0 = m0 at *
  generalize cutS l1 = m1 at *
  generalize cutS l2 = m2 at *
  generalize cutS l3 = m3 at *
  by_cases hev : m0.length % 2 = 0 ∧ m1.length = m2.length ∧ m1.length % 2 = 0
  · have t1 : ((m0.length : Int) % 2 != 0) = false := by simp; omega
    have t2 : ((m1.length : Int) != (m2.length : Int)) = false := by simp; omega
    have t3 : ((m1.length : Int) % 2 != 0) = false := by simp; omega
    have hevH := Lib.hid hev
    clear hev
    go_wp2_with fail
    refine (of_new [(A0, c0, m0), (A1, c1, m1), (A3, c3, m3)] _ (Has.newAt (by simp)) rfl (all3
      ((y0.alloc (Nat.le_refl _) _).more (by simp)) ((y1.alloc (Nat.le_refl _) _).more (by simp)) ((y3.alloc (Nat.le_refl _) _).more (by simp))) (by simp)).mono ?_
    rintro e w1 ⟨q1, rfl, hq1, hr1, hb1⟩
    have hB1 : Below w.heap.size w w1 := ((Below.refl _ w).alloc (Nat.le_refl _) _).trans (hb1.mono (by simp))
    have hs1 := hB1.size
    clear hb1
    go_wp2_with fail
    refine (update_any q1 hr1 _ _ _ _ _ _ _ ((y1.below hB1 (Nat.le_refl _)).more hs1) ((y2.below hB1 (Nat.le_refl _)).more hs1)).mono ?_
    rintro e w2 ⟨⟨q2, e2, rfl, hq2⟩, hb2⟩
    have hB2 := hB1.trans (hb2.mono hs1)
    have hs2 := hB2.size
    have law := changes_law m0 m1 m2 m3 hevH.out.1 hevH.out.2.1 hevH.out.2.2 y0.rng y1.rng y2.rng y3.rng
    have e1 := hq1.out
    simp only [flat, List.map_cons, List.map_nil, List.flatten_cons, List.flatten_nil, List.append_nil] at e1
    rw [← e1, ← hq2.out.1, ← hq2.out.2] at law
    obtain ⟨rfl, law⟩ := law
    have lawH := Lib.hid law
    have hr2 : 0 ≤ q2 ∧ q2 < 65536 := by
      rw [hq2.out.1]; exact updateS_rng q1 hr1 _ _ y1.rng y2.rng
    clear law e1 hb2 hq1 hq2
    go_wp2_with fail
    refine (of_new [(A0, c0, m0), (A2, c2, m2), (A3, c3, m3)] _ (Has.newAt (by simp)) rfl (all3
      ((((y0.below hB2 (Nat.le_refl _)).alloc hs2 _)).more (by simp; omega)) ((((y2.below hB2 (Nat.le_refl _)).alloc hs2 _)).more (by simp; omega)) ((((y3.below hB2 (Nat.le_refl _)).alloc hs2 _)).more (by simp; omega))) (by simp)).mono ?_
    rintro e w3 ⟨q3, rfl, hq3, hr3, hb3⟩
    have hB3 : Below w.heap.size w w3 := hB2.trans (((Below.refl _ w2).alloc (Nat.le_refl _) _).trans (hb3.mono (by simp)) |>.mono hs2)
    have e3 := hq3.out
    simp only [flat, List.map_cons, List.map_nil, List.flatten_cons, List.flatten_nil, List.append_nil] at e3
    have hd : decide (q2 % 65535 = q3 % 65535) = true := by rw [e3]; exact decide_eq_true lawH.out
    clear e3 hq3 hb3
    go_wp2_with fail
    refine (alike_any _ _ _ hr2 hr3).mono ?_
    rintro e w4 ⟨rfl, rfl⟩
    rw [hd]
    go_wp2_with fail
    refine (alive_any _).mono ?_
    rintro e w4 ⟨rfl, hb4⟩
    go_wp2
    go_ret
    exact ⟨rfl, hB3.trans (hb4.mono hB3.size)⟩
  · have hal : ∀ w : World, Calls Try.prog 12 #[] w fun e w' => e = .returned (.bool true) ∧ Below w.heap.size w w' := alive_any
    have halH := Lib.hid hal
    clear hal
    by_cases g0 : m0.length % 2 = 0
    · have t1 : ((m0.length : Int) % 2 != 0) = false := by simp; omega
      by_cases g1 : m1.length = m2.length
      · have t2 : ((m1.length : Int) != (m2.length : Int)) = false := by simp; omega
        have t3 : ((m1.length : Int) % 2 != 0) = true := by simp; omega
        clear g1 g0 hev
        go_wp2_with fail
        refine (halH.out _).mono ?_
        rintro e w1 ⟨rfl, hb1⟩
        go_wp2
        go_ret
        exact ⟨rfl, hb1⟩
      · have t2 : ((m1.length : Int) != (m2.length : Int)) = true := by simp; omega
        clear g1 g0 hev
        go_wp2_with fail
        refine (halH.out _).mono ?_
        rintro e w1 ⟨rfl, hb1⟩
        go_wp2
        go_ret
        exact ⟨rfl, hb1⟩
    · have t1 : ((m0.length : Int) % 2 != 0) = true := by simp; omega
      clear g0 hev
      go_wp2_with fail
      refine (halH.out _).mono ?_
      rintro e w1 ⟨rfl, hb1⟩
      go_wp2
      go_ret
      exact ⟨rfl, hb1⟩
end Go.Proofs.Ytiplnjpgaiibhaa
