/-
  The walk of Ipv4Options.
-/
import Derived.Test.YtfkcejfjmfliaaaOe
import Derived.Test.YtfkcejfjmfliaaaOf
import Derived.Test.YtfkcejfjmfliaaaOh
import Derived.Test.YtfkcejfjmfliaaaLaw4A
namespace Go.Proofs.Ytfkcejfjmfliaaa
open Go.RowKit Go.Shelf

set_option maxRecDepth 100000 in
set_option maxHeartbeats 4000000 in
theorem ipv4options_walk (A : Option Addr) (c : Nat) (l : List Int) (A2 : Option Addr) (c2 : Nat) (ps : List Kd) (w : World) (y : By w.heap.size w A l.length c l) (K : Kds w.heap.size w A2 ps.length c2 ps) (hs : l.length ≤ 1048576) :
    Calls Try.prog 9 #[.slice A l.length c, .slice A2 ps.length c2] w fun e w' => e = .returned (.bool true) ∧ Below w.heap.size w w' := by
  have k1 := fun W (h : Below w.heap.size w W) => options_any A c l W ((y.below h (Nat.le_refl _)).more h.size) hs
  have k2 := fun W (h : Below w.heap.size w W) => roptions_any A c l W ((y.below h (Nat.le_refl _)).more h.size) hs
  have k3 := fun W (h : Below w.heap.size w W) => routed_any A c l W ((y.below h (Nat.le_refl _)).more h.size) hs
  have k4 := fun W (h : Below w.heap.size w W) => rrouted_any A c l W ((y.below h (Nat.le_refl _)).more h.size) hs
  have k5 := fun W (h : Below w.heap.size w W) => pack_any A2 ps.length c2 ps W ((K.below h (Nat.le_refl _)).more h.size)
  have k6 := fun W (h : Below w.heap.size w W) => rpack_any A2 ps.length c2 ps W ((K.below h (Nat.le_refl _)).more h.size)
  generalize optsOf l = V at k1 k2
  obtain ⟨os, at_, err⟩ := V
  generalize routOf l = V at k3 k4
  unfold ToldPk at k5 k6
  generalize pkErr (kdL ps) = E at k5 k6
  generalize pkBytes (kdL ps) = R at k5 k6
  generalize ps.length = M at k5 k6 ⊢
  generalize l.length = n at k1 k2 k3 k4 ⊢
  dsimp only at k1 k2
  have k1 := Lib.hid k1
  have k2 := Lib.hid k2
  have k3 := Lib.hid k3
  have k4 := Lib.hid k4
  have k5 := Lib.hid k5
  have k6 := Lib.hid k6
  clear y K hs
  go_enter Try.func9, Try.ntmps9
  go_wp2_with fail
  refine (k1.out _ (Below.refl w.heap.size w)).mono ?_
  rintro e v1 ⟨v, p1, rfl, h1, o1, hB⟩
  obtain ⟨B1, d1, rfl, K1⟩ := o1.kds
  clear o1
  go_wp2_with fail
  refine (k2.out _ hB).mono ?_
  rintro e v2 ⟨v, p2, rfl, h2, o2, hb⟩
  obtain ⟨B2, d2, rfl, K2⟩ := o2.kds
  have K1 := (K1.below hb (Nat.le_refl _)).more hb.size
  have hB := hB.trans (hb.mono hB.size)
  clear hb o2
  have hX : ∃ (B3 : Option Addr) (n3 d3 : Nat) (p3 : List Kd), Kds v2.heap.size v2 B3 n3 d3 p3 ∧ Hid (kdL p1 = kdL p3) ∧ (err = 0 → B3 = B2 ∧ n3 = p2.length ∧ d3 = d2) ∧ (err ≠ 0 → B3 = none ∧ n3 = 0 ∧ d3 = 0) := by
    by_cases he : err = 0
    · exact ⟨B2, p2.length, d2, p2, K2, Lib.hid (by rw [h1.out, h2.out, if_pos he]), fun _ => ⟨rfl, rfl, rfl⟩, fun h => absurd he h⟩
    · exact ⟨none, 0, 0, [], Kds.nil _ _, Lib.hid (by rw [h1.out, if_neg he]; rfl), fun h => absurd h he, fun _ => ⟨rfl, rfl, rfl⟩⟩
  obtain ⟨B3, n3, d3, p3, K3, hsame, hy, hn⟩ := hX
  generalize p1.length = n1 at K1 ⊢
  generalize p2.length = n2 at K2 hy ⊢
  clear K2 h1 h2
  by_cases he : err = 0
  case' pos =>
    obtain ⟨rfl, rfl, rfl⟩ := hy he
    subst he
  case' neg =>
    obtain ⟨rfl, rfl, rfl⟩ := hn he
  all_goals
    clear hy hn
    go_wp2_with fail
    refine (k5.out _ hB).mono ?_
    rintro e v3 ⟨v, rfl, o3, hb⟩
    obtain ⟨A3, n4, rfl, x3⟩ := o3.by_
    have K1 := (K1.below hb (Nat.le_refl _)).more hb.size
    have K3 := (K3.below hb (Nat.le_refl _)).more hb.size
    have hB := hB.trans (hb.mono hB.size)
    clear hb o3
    go_wp2_with fail
    refine (k6.out _ hB).mono ?_
    rintro e v4 ⟨v, rfl, o4, hb⟩
    obtain ⟨A4, n5, rfl, x4⟩ := o4.by_
    have K1 := (K1.below hb (Nat.le_refl _)).more hb.size
    have K3 := (K3.below hb (Nat.le_refl _)).more hb.size
    have x3 := (x3.below hb (Nat.le_refl _)).more hb.size
    have hB := hB.trans (hb.mono hB.size)
    clear hb o4
    go_wp2_with fail
    refine (rsameo_any _ _ _ _ _ _ _ _ v4 K1 K3).mono ?_
    rintro e v5 ⟨rfl, hb⟩
    rw [decide_eq_true hsame.out]
    have q3 := (x3.below hb (Nat.le_refl _)).conv (P := Try.prog) 25 9 Try.underlying25 Try.underlying5 Try.underlying9
    have q4 := (x4.below hb (Nat.le_refl _)).conv (P := Try.prog) 25 9 Try.underlying25 Try.underlying5 Try.underlying9
    have hB := hB.trans (hb.mono hB.size)
    clear hb x3 x4 K1 K3
    go_wp2_with fail
    refine (k3.out _ hB).mono ?_
    rintro e v6 ⟨rfl, hb⟩
    have hB := hB.trans (hb.mono hB.size)
    clear hb q3 q4
    go_wp2_with fail
    refine (k4.out _ hB).mono ?_
    rintro e v7 ⟨rfl, hb⟩
    have hB := hB.trans (hb.mono hB.size)
    clear hb
    go_wp2_with fail
    refine (awake_any _).mono ?_
    rintro e v8 ⟨rfl, hb⟩
    have hB := hB.trans (hb.mono hB.size)
    go_wp2
    go_ret
    exact ⟨rfl, hB⟩
end Go.Proofs.Ytfkcejfjmfliaaa
