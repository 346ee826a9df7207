/-
  The walk of the law SumFolds.
-/
import Derived.Test.YtiplnjpgaiibhaaFew
namespace Go.Proofs.Ytiplnjpgaiibhaa
open Go.RowKit Go.Shelf

set_option maxRecDepth 100000 in
set_option maxHeartbeats 1000000 in
theorem sumFolds_walk (A : Option Addr) (c : Nat) (xs : List Sl) (w : World) (hI : Parts w.heap.size w A xs.length c xs) :
    Calls Try.prog 4 #[.slice A xs.length c] w fun e w' => e = .returned (.bool true) ∧ Below w.heap.size w w' := by
  go_enter Try.func4, Try.ntmps4
  go_wp2_with fail
  refine (few_any _ _ _ _ hI).mono ?_
  rintro e w1 ⟨A1, c1, rfl, hown, hy, hB1⟩
  have hs1 := hB1.size
  have hc1 := own_cap hown
  have hP : Parts w1.heap.size w1 A1 (fewS xs).length c1 (fewS xs) := Parts.own hown hc1 (Nat.le_refl _) (fun x hx => ((hy x hx).below hB1 (Nat.le_refl _)).more hs1)
  have hfl := flat_few_le xs
  clear hown hy
  generalize fewS xs = ys at *
  have hrng := sumw_rng _ hP.rng
  obtain ⟨n, hn⟩ : ∃ n, sumw (flat ys) = n := ⟨_, rfl⟩
  rw [hn] at hrng
  go_wp2_with fail
  refine (rfold_any _ _ _ _ hP (by omega)).mono ?_
  rintro e w2 ⟨rfl, hb2⟩
  rw [hn]
  have hs2 := hb2.size
  go_wp2_with fail
  refine (fold_any _ _ _ _ ((hP.below hb2 (Nat.le_refl _)).more hs2)).mono ?_
  rintro e w3 ⟨rfl, hb3⟩
  rw [hn]
  have hb13 := hb2.trans (hb3.mono hs2)
  have hs3 := hb13.size
  go_wp2_with fail
  refine (of_any _ _ _ _ ((hP.below hb13 (Nat.le_refl _)).more hs3)).mono ?_
  rintro e w4 ⟨rfl, hb4⟩
  rw [hn]
  have hb14 := hb13.trans (hb4.mono hs3)
  have hs4 := hb14.size
  go_wp2_with fail
  refine (good_any _ _ _ _ ((hP.below hb14 (Nat.le_refl _)).more hs4)).mono ?_
  rintro e w5 ⟨rfl, hb5⟩
  rw [hn]
  have hb15 := hb14.trans (hb5.mono hs4)
  have hB5 := hB1.trans (hb15.mono hs1)
  have hd : (decide (n = 65535) == (n == 65535)) = true := by rw [beq_iff_eq, Bool.eq_iff_iff]; simp
  clear hn
  go_wp2_with fail
  refine (alive_any _).mono ?_
  rintro e w6 ⟨rfl, hb6⟩
  go_wp2
  go_ret
  exact ⟨rfl, hB5.trans (hb6.mono hB5.size)⟩
end Go.Proofs.Ytiplnjpgaiibhaa
