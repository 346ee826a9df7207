/-
  The walks of slices.Clone at bytes, bytes.Equal.
-/
import Derived.Test.YtndmmkadceobjaaConcat
import Derived.Test.YtndmmkadceobjaaMem2
import Derived.Lib.SliceRun
namespace Go.Proofs.Ytndmmkadceobjaa
open Go.RowKit Go.Shelf

theorem OwnB.blk {w : World} {g base n : Nat} {l : List Int} (h : Has w g (.cells (u8s l).toArray 5 (0, 0))) (hg : base ≤ g) (hn : n = l.length) (hl : InB l) (hm : l.length ≤ 9223372036854775807) : OwnB w base (.slice (some ⟨g, 0, none⟩) n n) l := by
  subst hn
  exact ⟨⟨by rw [Nat.mul_one]; exact u8s_length l, .inr ⟨g, l.length, _, rfl, hg, h, Nat.le_refl _, by simp only [maxLen]; omega, by simp [u8s_length], by rw [Nat.mul_one, List.take_of_length_le (by simp [u8s_length])]⟩⟩, hl⟩

theorem clone_any (A : Option Addr) (c : Nat) (l : List Int) (w : World) (hy : By w.heap.size w A l.length c l) (hb : l.length ≤ 140737488355328) :
    Calls Try.prog 39 #[.slice A l.length c] w fun e w' => ∃ v, e = .returned v ∧ OwnB w' w.heap.size v l ∧ Below w.heap.size w w' := by
  have q22 : ∀ (w : World) (a : Option Addr) (n c n' c' : Nat), (binOp .eql 26 (.slice a n c) (.slice none n' c')).run Try.prog w = .ok (.bool a.isNone) w := fun w a n c n' c' => Lib.run_eql_slice_nil w _ _ a n c n' c' Try.underlying26
  cases A with
  | none =>
    have h0 : l.length = 0 := by
      rcases Nat.eq_zero_or_pos l.length with h | h
      · exact h
      · obtain ⟨_, _, e, _⟩ := hy.row.at_ h; cases e
    have hl : l = [] := List.eq_nil_of_length_eq_zero h0
    subst hl
    go_enter Try.func39, Try.ntmps39
    go_wp2
    go_ret
    exact ⟨_, rfl, OwnB.nil _ _, Below.refl _ _⟩
  | some ad =>
    go_enter Try.func39, Try.ntmps39
    go_wp2_with (at_builtin; refine wpList_appB _ rfl _ _ _ rfl Try.underlying26 info8 w.heap.size _ _ rfl (OwnB.made w w.heap.size (Nat.le_refl _)) _ (some ad) l.length c l rfl (hy.alloc (Nat.le_refl _) _) (by simpa using hb) (by simp) ?_; intro v' w1 own hg hat; have hbel := below_app (OwnB.made w w.heap.size (Nat.le_refl _)) hg (by simp); obtain ⟨A', c', rfl, _⟩ := own_shape own.own)
    go_ret
    exact ⟨_, rfl, by simpa using own, ((Below.refl _ _).alloc (Nat.le_refl _) _).trans hbel⟩

theorem clone_n (A : Option Addr) (c n : Nat) (l : List Int) (w : World) (hy : By w.heap.size w A n c l) (hb : l.length ≤ 140737488355328) :
    Calls Try.prog 39 #[.slice A n c] w fun e w' => ∃ v, e = .returned v ∧ OwnB w' w.heap.size v l ∧ Below w.heap.size w w' := by
  have := hy.len
  subst this
  exact clone_any A c l w hy hb

theorem equal_any (B1 B2 : Nat) (A1 A2 : Option Addr) (c1 c2 : Nat) (l1 l2 : List Int) (w : World) (y1 : By B1 w A1 l1.length c1 l1) (y2 : By B2 w A2 l2.length c2 l2) :
    Calls Try.prog 30 #[.slice A1 l1.length c1, .slice A2 l2.length c2] w fun e w' => e = .returned (.bool (decide (l1 = l2))) ∧ w = w' := by
  have u1 := y1.conv (P := Try.prog) 26 9 Try.underlying26 Try.underlying5 Try.underlying9
  have u2 := y2.conv (P := Try.prog) 26 9 Try.underlying26 Try.underlying5 Try.underlying9
  have q := strOfNums_beq y1.rng y2.rng
  have hq := Lib.hid q
  clear q
  go_enter Try.func30, Try.ntmps30
  go_wp2
  go_ret
  exact ⟨ret_bool hq.out, rfl⟩

end Go.Proofs.Ytndmmkadceobjaa
