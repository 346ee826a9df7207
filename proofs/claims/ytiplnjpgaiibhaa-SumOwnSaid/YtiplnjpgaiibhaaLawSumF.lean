/-
  The walk of the law SumOwn.
-/
import Derived.Test.YtiplnjpgaiibhaaLawSumA
namespace Go.Proofs.Ytiplnjpgaiibhaa
open Go.RowKit Go.Shelf

set_option maxRecDepth 100000 in
set_option maxHeartbeats 1000000 in
theorem sumOwn_walk (A0 : Option Addr) (c0 : Nat) (l0 : List Int) (A1 : Option Addr) (c1 : Nat) (l1 : List Int) (w : World) (h0 : By w.heap.size w A0 l0.length c0 l0) (h1 : By w.heap.size w A1 l1.length c1 l1) :
    Calls Try.prog 7 #[.slice A0 l0.length c0, .slice A1 l1.length c1] w fun e w' => e = .returned (.bool true) ∧ Below w.heap.size w w' := by
  go_enter Try.func7, Try.ntmps7
  go_wp2_with fail
  refine (cut_any _ _ _ _ _ h0).mono ?_
  rintro e w1 ⟨rfl, y0, rfl⟩
  go_wp2_with fail
  refine (cut_any _ _ _ _ _ h1).mono ?_
  rintro e w1 ⟨rfl, y1, rfl⟩
  have z0 := cutS_le l0
  have z1 := cutS_le l1
  generalize cutS l0 = m0 at *
  generalize cutS l1 = m1 at *
  go_wp2_with (first
    | (at_builtin; refine wpList_appB _ rfl (.tmp 13) (.tmp 14) _ rfl Try.underlying23 info8 w.heap.size _ [] rfl (OwnB.made w _ (Nat.le_refl _)) _ _ _ _ m0 rfl (y0.alloc (Nat.le_refl _) _) (by simp; omega) (by simp) ?_; intro v1 w1 hown1 hg1 hat1; have hB1 : Below w.heap.size w w1 := ((Below.refl _ w).alloc (Nat.le_refl _) _).trans (below_app (OwnB.made w _ (Nat.le_refl _)) hg1 (by simp)); rw [List.nil_append] at hown1; obtain ⟨A3, c3, rfl, hy3⟩ := hown1.by_)
    | (at_builtin; refine wpList_appB _ rfl (.tmp 16) (.tmp 17) _ rfl Try.underlying23 info8 w1.heap.size _ [] rfl (OwnB.made w1 _ (Nat.le_refl _)) _ _ _ _ m1 rfl (((y1.below hB1 (Nat.le_refl _)).more hB1.size).alloc (Nat.le_refl _) _) (by simp; omega) (by simp) ?_; intro v2 w2 hown2 hg2 hat2; have hB2 : Below w1.heap.size w1 w2 := ((Below.refl _ w1).alloc (Nat.le_refl _) _).trans (below_app (OwnB.made w1 _ (Nat.le_refl _)) hg2 (by simp)); rw [List.nil_append] at hown2; obtain ⟨A4, c4, rfl, hy4⟩ := hown2.by_))
  have hy3' := (hy3.below hB2 (Nat.le_refl _)).more hB2.size
  have hW2 := hB1.trans (hB2.mono hB1.size)
  have hs2 := hW2.size
  clear hown1 hown2 hg1 hg2 hat1 hat2 hy3
  refine (update_any 1 (by omega) _ _ _ _ _ _ _ hy3' hy4).mono ?_
  rintro e w3 ⟨⟨q1, e1, rfl, _⟩, hb3⟩
  have hW3 := hW2.trans (hb3.mono hs2)
  have hs3 := hb3.size
  go_wp2_with fail
  refine (of_new [(A3, c3, m0), (A4, c4, m1)] _ (Has.newAt (by simp)) rfl (all2
    ((((hy3'.below hb3 (Nat.le_refl _)).more hs3).alloc (Nat.le_refl _) _).more (by simp)) ((((hy4.below hb3 (Nat.le_refl _)).more hs3).alloc (Nat.le_refl _) _).more (by simp))) (by simp)).mono ?_
  rintro e w4 ⟨q4, rfl, _, _, hb4⟩
  have hb34 : Below w3.heap.size w3 w4 := ((Below.refl _ w3).alloc (Nat.le_refl _) _).trans (hb4.mono (by simp))
  have hb24 := hb3.trans (hb34.mono hs3)
  have hs24 := hb24.size
  have hy34 := (hy3'.below hb24 (Nat.le_refl _)).more hs24
  have hy44 := (hy4.below hb24 (Nat.le_refl _)).more hs24
  have hW4 := hW2.trans (hb24.mono hs2)
  clear hb4 hb34 hb3
  have hev : (changedS 0 m1 m0).2 = if m0.length = m1.length ∧ m0.length % 2 = 0 then 0 else 10 := by
    unfold changedS; split <;> split <;> first | rfl | omega
  have hevH := Lib.hid hev
  clear hev
  go_wp2_with fail
  refine (neutral_any _ _ _ _ _ _ _ hy34 hy44).mono ?_
  rintro e w5 ⟨⟨q5, e5, rfl, hq5⟩, hb5⟩
  have hs5 := hb5.size
  have hW5 := hW4.trans (hb5.mono hW4.size)
  have k1 := ((hy34.below hb5 (Nat.le_refl _))).conv (P := Try.prog) 23 9 Try.underlying23 Try.underlying5 Try.underlying9
  have k2 := ((hy44.below hb5 (Nat.le_refl _))).conv (P := Try.prog) 23 9 Try.underlying23 Try.underlying5 Try.underlying9
  have k3 := ((y0.below hW5 (Nat.le_refl _))).conv (P := Try.prog) 23 9 Try.underlying23 Try.underlying5 Try.underlying9
  have k4 := ((y1.below hW5 (Nat.le_refl _))).conv (P := Try.prog) 23 9 Try.underlying23 Try.underlying5 Try.underlying9
  have he5 := hq5.out.2
  rw [hevH.out] at he5
  clear hq5
  by_cases g1 : m0.length = m1.length ∧ m0.length % 2 = 0
  · rw [if_pos g1] at he5
    subst he5
    have t2 : ((m0.length : Int) == (m1.length : Int)) = true := by simp; omega
    have t3 : ((m0.length : Int) % 2 == 0) = true := by simp; omega
    clear g1
    go_wp2_with fail
    refine (alive_any _).mono ?_
    rintro e w6 ⟨rfl, hb6⟩
    go_wp2
    go_ret
    exact ⟨rfl, hW5.trans (hb6.mono hW5.size)⟩
  · rw [if_neg g1] at he5
    subst he5
    by_cases g2 : m0.length = m1.length
    · have t2 : ((m0.length : Int) == (m1.length : Int)) = true := by simp; omega
      have t3 : ((m0.length : Int) % 2 == 0) = false := by simp; omega
      clear g1 g2
      go_wp2_with fail
      refine (alive_any _).mono ?_
      rintro e w6 ⟨rfl, hb6⟩
      go_wp2
      go_ret
      exact ⟨rfl, hW5.trans (hb6.mono hW5.size)⟩
    · have t2 : ((m0.length : Int) == (m1.length : Int)) = false := by simp; omega
      clear g1 g2
      go_wp2_with fail
      refine (alive_any _).mono ?_
      rintro e w6 ⟨rfl, hb6⟩
      go_wp2
      go_ret
      exact ⟨rfl, hW5.trans (hb6.mono hW5.size)⟩
end Go.Proofs.Ytiplnjpgaiibhaa
