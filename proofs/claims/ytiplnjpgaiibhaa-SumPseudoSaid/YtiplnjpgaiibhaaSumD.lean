/-
  The walks of sum.Update, sum.Neutral.
-/
import Derived.Test.YtiplnjpgaiibhaaSumC
import Derived.Test.YtiplnjpgaiibhaaConcat
namespace Go.Proofs.Ytiplnjpgaiibhaa
open Go.RowKit Go.Shelf

/-- a result word and an error's number that read as said -/
def Two (p : Int × Int) (e : Ending) : Prop := ∃ q er : Int, e = .returned (.tuple #[.int .u16 q, .int .i64 er]) ∧ Hid (q = p.1 ∧ er = p.2)
theorem Two.mk {p : Int × Int} {q er : Int} (h1 : q = p.1) (h2 : er = p.2) : Two p (.returned (.tuple #[.int .u16 q, .int .i64 er])) := ⟨q, er, rfl, Lib.hid ⟨h1, h2⟩⟩

theorem changed_any (n : Int) (hn : 0 ≤ n ∧ n < 65536) (A1 A2 : Option Addr) (c1 c2 : Nat) (l1 l2 : List Int) (w : World) (h1 : By w.heap.size w A1 l1.length c1 l1) (h2 : By w.heap.size w A2 l2.length c2 l2) :
    Calls Try.prog 33 #[.int .u16 n, .slice A1 l1.length c1, .slice A2 l2.length c2] w fun e W' => Two (changedS n l1 l2) e ∧ Below w.heap.size w W' := by
  unfold changedS
  by_cases hd : l1.length = l2.length ∧ l2.length % 2 = 0
  · rw [if_pos hd]
    exact (changed_ok n hn A1 A2 c1 c2 l1 l2 w h1 h2 hd.1 hd.2).mono fun e w' ⟨he, hb⟩ => ⟨by rw [he]; exact Two.mk rfl rfl, hb⟩
  · rw [if_neg hd]
    exact (changed_err n A1 A2 c1 c2 l1 l2 w hd).mono fun e w' ⟨he, hb⟩ => ⟨by rw [he]; exact Two.mk rfl rfl, hb⟩

theorem changed_one (n : Int) (hn : 0 ≤ n ∧ n < 65536) (A1 A2 : Option Addr) (c1 c2 : Nat) (l1 l2 : List Int) (w : World) (h1 : By w.heap.size w A1 l1.length c1 l1) (h2 : By w.heap.size w A2 l2.length c2 l2) (hd : l1.length = l2.length ∧ l2.length % 2 = 0) :
    Calls Try.prog 33 #[.int .u16 n, .slice A1 l1.length c1, .slice A2 l2.length c2] w fun e W' => ∃ q : Int, e = .returned (.tuple #[.int .u16 q, .int .i64 0]) ∧ Hid (q = (changedS n l1 l2).1) ∧ (0 ≤ q ∧ q < 65536) ∧ Below w.heap.size w W' := by
  refine (changed_ok n hn A1 A2 c1 c2 l1 l2 w h1 h2 hd.1 hd.2).mono fun e w' ⟨he, hb⟩ => ⟨_, he, Lib.hid ?_, ?_, hb⟩
  · unfold changedS; rw [if_pos hd]
  · exact fold_rng _ (fold_rng _ hn _ (neg_rng _ (wds_rng _ h1.rng))) _ (wds_rng _ h2.rng)

/-- sum.Update -/
def updateS (was : Int) (f t : List Int) : Int × Int := if f.length = t.length ∧ t.length % 2 = 0 then (65535 - (changedS (65535 - was) f t).1, 0) else (0, 10)

theorem update_any (was : Int) (hn : 0 ≤ was ∧ was < 65536) (A1 A2 : Option Addr) (c1 c2 : Nat) (l1 l2 : List Int) (w : World) (h1 : By w.heap.size w A1 l1.length c1 l1) (h2 : By w.heap.size w A2 l2.length c2 l2) :
    Calls Try.prog 18 #[.int .u16 was, .slice A1 l1.length c1, .slice A2 l2.length c2] w fun e W' => Two (updateS was l1 l2) e ∧ Below w.heap.size w W' := by
  have hnot := not_u16 was hn.1 hn.2
  have hsg : IntKind.u16.signed = false := rfl
  by_cases hd : l1.length = l2.length ∧ l2.length % 2 = 0
  · have hdH := Lib.hid hd
    clear hd
    go_enter Try.func18, Try.ntmps18
    go_wp2_with (go_at_call 33; refine (changed_one (65535 - was) (by omega) _ _ _ _ _ _ _ h1 h2 hdH.out).mono ?_; rintro e w' ⟨q, rfl, hq, hr, hb⟩)
    have hnot2 := not_u16 q hr.1 hr.2
    go_ret2
    refine ⟨Two.mk ?_ ?_, hb⟩
    · unfold updateS; rw [if_pos hdH.out, ← hq.out]; exact hnot2
    · unfold updateS; rw [if_pos hdH.out]
  · go_enter Try.func18, Try.ntmps18
    go_wp2_with (go_at_call 33; refine (changed_err (65535 - was) _ _ _ _ _ _ _ hd).mono ?_; rintro e w' ⟨rfl, hb⟩)
    go_ret2
    refine ⟨Two.mk ?_ ?_, hb⟩
    · unfold updateS; rw [if_neg hd]
    · unfold updateS; rw [if_neg hd]

theorem changedS_rng (n : Int) (hn : 0 ≤ n ∧ n < 65536) (l1 l2 : List Int) (h1 : InB l1) (h2 : InB l2) : 0 ≤ (changedS n l1 l2).1 ∧ (changedS n l1 l2).1 < 65536 := by
  unfold changedS
  split
  · exact fold_rng _ (fold_rng _ hn _ (neg_rng _ (wds_rng _ h1))) _ (wds_rng _ h2)
  · simp
theorem updateS_rng (n : Int) (hn : 0 ≤ n ∧ n < 65536) (l1 l2 : List Int) (h1 : InB l1) (h2 : InB l2) : 0 ≤ (updateS n l1 l2).1 ∧ (updateS n l1 l2).1 < 65536 := by
  unfold updateS changedS
  split
  · have := fold_rng _ (fold_rng _ (show 0 ≤ 65535 - n ∧ 65535 - n < 65536 by omega) _ (neg_rng _ (wds_rng _ h1))) _ (wds_rng _ h2)
    simp only
    omega
  · simp

/-- sum.Neutral: the word that makes up for a change -/
theorem neutral_any (A1 A2 : Option Addr) (c1 c2 : Nat) (l1 l2 : List Int) (w : World) (h1 : By w.heap.size w A1 l1.length c1 l1) (h2 : By w.heap.size w A2 l2.length c2 l2) :
    Calls Try.prog 20 #[.slice A1 l1.length c1, .slice A2 l2.length c2] w fun e W' => Two (changedS 0 l2 l1) e ∧ Below w.heap.size w W' := by
  go_enter Try.func20, Try.ntmps20
  go_wp2_with (go_at_call 33; refine (changed_any 0 (by omega) _ _ _ _ _ _ _ h2 h1).mono ?_; rintro e w' ⟨⟨q, er, rfl, hq⟩, hb⟩)
  go_ret2
  exact ⟨Two.mk hq.out.1 hq.out.2, hb⟩

/-- sum.Of, its parts in a new row -/
theorem of_new {w : World} {g : Nat} (xs : List Sl) (n : Nat) (h : Has w g (.cells (xs.map fun x => Value.slice x.1 x.2.2.length x.2.1).toArray 23 (0, 0))) (hn : n = xs.length) (hy : ∀ x ∈ xs, By w.heap.size w x.1 x.2.2.length x.2.1 x.2.2) (hb : xs.length ≤ 9223372036854775807) :
    Calls Try.prog 16 #[.slice (some ⟨g, 0, none⟩) n n] w fun e W' => ∃ q : Int, e = .returned (.int .u16 q) ∧ Hid (q = 65535 - sumw (flat xs)) ∧ (0 ≤ q ∧ q < 65536) ∧ Below w.heap.size w W' := by
  subst hn
  have hP := Parts.blk h (Nat.le_refl _) rfl hy hb
  have hr := sumw_rng _ hP.rng
  exact (of_any _ _ xs _ hP).mono fun e w' ⟨he, hb⟩ => ⟨_, he, Lib.hid rfl, by omega, hb⟩
theorem good_new {w : World} {g : Nat} (xs : List Sl) (n : Nat) (h : Has w g (.cells (xs.map fun x => Value.slice x.1 x.2.2.length x.2.1).toArray 23 (0, 0))) (hn : n = xs.length) (hy : ∀ x ∈ xs, By w.heap.size w x.1 x.2.2.length x.2.1 x.2.2) (hb : xs.length ≤ 9223372036854775807) :
    Calls Try.prog 17 #[.slice (some ⟨g, 0, none⟩) n n] w fun e W' => ∃ q : Bool, e = .returned (.bool q) ∧ Hid (q = decide (sumw (flat xs) = 65535)) ∧ Below w.heap.size w W' := by
  subst hn
  exact (good_any _ _ xs _ (Parts.blk h (Nat.le_refl _) rfl hy hb)).mono fun e w' ⟨he, hb⟩ => ⟨_, he, Lib.hid rfl, hb⟩
end Go.Proofs.Ytiplnjpgaiibhaa
