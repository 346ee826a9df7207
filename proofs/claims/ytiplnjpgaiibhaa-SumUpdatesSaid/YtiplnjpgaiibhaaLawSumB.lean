/-
  The walks of the laws of chapter 1, the first ones: SumUpdates.
-/
import Derived.Test.YtiplnjpgaiibhaaLawSumA
namespace Go.Proofs.Ytiplnjpgaiibhaa
open Go.RowKit Go.Shelf

set_option maxRecDepth 100000 in
set_option maxHeartbeats 1000000 in
theorem sumUpdates_walk (was : Int) (A1 : Option Addr) (c1 : Nat) (l1 : List Int) (A2 : Option Addr) (c2 : Nat) (l2 : List Int) (other : Int) (w : World) (hw0 : 0 ≤ was) (hw1 : was < 65536) (h1 : By w.heap.size w A1 l1.length c1 l1) (h2 : By w.heap.size w A2 l2.length c2 l2) (ho0 : 0 ≤ other) (ho1 : other < 65536) :
    Calls Try.prog 8 #[.int .u16 was, .slice A1 l1.length c1, .slice A2 l2.length c2, .int .u16 other] w fun e w' => e = .returned (.bool true) ∧ Below w.heap.size w w' := by
  go_enter Try.func8, Try.ntmps8
  go_wp2_with fail
  refine (cut_any _ _ _ _ _ h1).mono ?_
  rintro e w1 ⟨rfl, hy1, rfl⟩
  go_wp2_with fail
  refine (cut_any _ _ _ _ _ h2).mono ?_
  rintro e w1 ⟨rfl, hy2, rfl⟩
  have hz1 := cutS_le l1
  have hz2 := cutS_le l2
  generalize cutS l1 = m1 at *
  generalize cutS l2 = m2 at *
  go_wp2_with fail
  refine (update_any was ⟨hw0, hw1⟩ _ _ _ _ _ _ _ hy1 hy2).mono ?_
  rintro e w1 ⟨⟨q1, e1, rfl, hq1⟩, hb1⟩
  have hs1 := hb1.size
  go_wp2_with fail
  refine (rupdate_any was ⟨hw0, hw1⟩ _ _ _ _ _ _ _ ((hy1.below hb1 (Nat.le_refl _)).more hs1) ((hy2.below hb1 (Nat.le_refl _)).more hs1) ⟨by omega, by omega⟩).mono ?_
  rintro e w2 ⟨⟨q2, e2, rfl, hq2⟩, hb2⟩
  obtain rfl : q2 = q1 := hq2.out.1.trans hq1.out.1.symm
  obtain rfl : e2 = e1 := hq2.out.2.trans hq1.out.2.symm
  have hB2 := hb1.trans (hb2.mono hs1)
  have hs2 := hB2.size
  go_wp2_with fail
  refine (neutral_any _ _ _ _ _ _ _ ((hy1.below hB2 (Nat.le_refl _)).more hs2) ((hy2.below hB2 (Nat.le_refl _)).more hs2)).mono ?_
  rintro e w3 ⟨⟨q3, e3, rfl, hq3⟩, hb3⟩
  have hB3 := hB2.trans (hb3.mono hs2)
  have hs3 := hB3.size
  go_wp2_with fail
  refine (rneutral_any _ _ _ _ _ _ _ ((hy1.below hB3 (Nat.le_refl _)).more hs3) ((hy2.below hB3 (Nat.le_refl _)).more hs3) ⟨by omega, by omega⟩).mono ?_
  rintro e w4 ⟨⟨q4, e4, rfl, hq4⟩, hb4⟩
  obtain rfl : q4 = q3 := hq4.out.1.trans hq3.out.1.symm
  obtain rfl : e4 = e3 := hq4.out.2.trans hq3.out.2.symm
  have hB4 := hB3.trans (hb4.mono hs3)
  clear hq1 hq2 hq3 hq4
  go_wp2_with fail
  refine (alike_any _ _ _ ⟨hw0, hw1⟩ ⟨ho0, ho1⟩).mono ?_
  rintro e w5 ⟨rfl, rfl⟩
  go_wp2_with fail
  refine (ralike_any _ _ _ ⟨hw0, hw1⟩ ⟨ho0, ho1⟩).mono ?_
  rintro e w5 ⟨rfl, rfl⟩
  go_wp2_with fail
  refine (alive_any _).mono ?_
  rintro e w5 ⟨rfl, hb5⟩
  go_wp2
  go_ret
  exact ⟨rfl, hB4.trans (hb5.mono hB4.size)⟩
end Go.Proofs.Ytiplnjpgaiibhaa
