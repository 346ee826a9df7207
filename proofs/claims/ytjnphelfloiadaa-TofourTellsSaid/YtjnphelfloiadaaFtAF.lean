/-
  Lemmas and walks for the row of TofourTells (part 6 of 37).
-/
import Derived.Test.YtjnphelfloiadaaFtAB
import Derived.Test.YtjnphelfloiadaaFtAC
import Derived.Test.YtjnphelfloiadaaFtAD
import Derived.Test.YtjnphelfloiadaaFtAE
set_option linter.unusedVariables false
set_option linter.unusedSimpArgs false
namespace Go.Proofs.Ytjnphelfloiadaa
open Go.RowKit Go.Shelf
attribute [local go_sem] Oper.semAt_some

theorem of_any (A : Option Addr) (c : Nat) (xs : List Sl) (w : World) (hI : Parts w.heap.size w A xs.length c xs) :
  Calls Try.prog 53 #[.slice A xs.length c] w fun e W' => e = .returned (.int .u16 (65535 - sumw (flat xs))) ∧ Below w.heap.size w W' := by
 go_enter Try.func53, Try.ntmps53
 go_wp2_with (go_at_call 82; refine (fold_any _ _ _ _ hI).mono ?_; rintro e w' ⟨rfl, hb⟩)
 go_ret
 have h := sumw_rng _ hI.rng
 exact ⟨ret_int (not_u16 _ h.1 h.2), hb⟩
theorem good_any (A : Option Addr) (c : Nat) (xs : List Sl) (w : World) (hI : Parts w.heap.size w A xs.length c xs) :
  Calls Try.prog 95 #[.slice A xs.length c] w fun e W' => e = .returned (.bool (decide (sumw (flat xs) = 65535))) ∧ Below w.heap.size w W' := by
 go_enter Try.func95, Try.ntmps95
 go_wp2_with (go_at_call 82; refine (fold_any _ _ _ _ hI).mono ?_; rintro e w' ⟨rfl, hb⟩)
 go_ret
 exact ⟨rfl, hb⟩

/-- sum.Of, its parts in a new row -/
theorem of_new {w : World} {g : Nat} (xs : List Sl) (n : Nat) (h : Has w g (.cells (xs.map fun x => Value.slice x.1 x.2.2.length x.2.1).toArray 26 (0, 0))) (hn : n = xs.length) (hy : ∀ x ∈ xs, By w.heap.size w x.1 x.2.2.length x.2.1 x.2.2) (hb : xs.length ≤ 9223372036854775807) :
  Calls Try.prog 53 #[.slice (some ⟨g, 0, none⟩) n n] w fun e W' => ∃ q : Int, e = .returned (.int .u16 q) ∧ Hid (q = 65535 - sumw (flat xs)) ∧ (0 ≤ q ∧ q < 65536) ∧ Below w.heap.size w W' := by
 subst hn
 have hP := Parts.blk h (Nat.le_refl _) rfl hy hb
 have hr := sumw_rng _ hP.rng
 exact (of_any _ _ xs _ hP).mono fun e w' ⟨he, hb⟩ => ⟨_, he, Lib.hid rfl, by omega, hb⟩
theorem good_new {w : World} {g : Nat} (xs : List Sl) (n : Nat) (h : Has w g (.cells (xs.map fun x => Value.slice x.1 x.2.2.length x.2.1).toArray 26 (0, 0))) (hn : n = xs.length) (hy : ∀ x ∈ xs, By w.heap.size w x.1 x.2.2.length x.2.1 x.2.2) (hb : xs.length ≤ 9223372036854775807) :
  Calls Try.prog 95 #[.slice (some ⟨g, 0, none⟩) n n] w fun e W' => ∃ q : Bool, e = .returned (.bool q) ∧ Hid (q = decide (sumw (flat xs) = 65535)) ∧ Below w.heap.size w W' := by
 subst hn
 exact (good_any _ _ xs _ (Parts.blk h (Nat.le_refl _) rfl hy hb)).mono fun e w' ⟨he, hb⟩ => ⟨_, he, Lib.hid rfl, hb⟩
end Go.Proofs.Ytjnphelfloiadaa
namespace Go.Proofs.Ytjnphelfloiadaa
open Go.RowKit Go.Shelf
attribute [local go_sem] Oper.semAt_some
theorem fold_neg_w16 (n : Int) (hn : 0 ≤ n ∧ n < 65536) (l : List W16) : 0 ≤ fold n (neg (ints l)) ∧ fold n (neg (ints l)) < 65536 := fold_rng n hn _ (neg_rng _ (fun x hx => by
 obtain ⟨y, _, rfl⟩ := List.mem_map.1 hx
 exact y.2))
theorem changed_err (n : Int) (A1 A2 : Option Addr) (c1 c2 : Nat) (l1 l2 : List Int) (w : World) (hd : ¬ (l1.length = l2.length ∧ l2.length % 2 = 0)) :
  Calls Try.prog 106 #[.int .u16 n, .slice A1 l1.length c1, .slice A2 l2.length c2] w fun e W' => e = .returned (.tuple #[.int .u16 0, .int .i64 10]) ∧ Below w.heap.size w W' := by
 by_cases he : l1.length = l2.length
 ·have ho : ¬ (l2.length % 2 = 0) := fun h => hd ⟨he, h⟩
  go_enter Try.func106, Try.ntmps106
  go_wp2
  go_ret2
  exact ⟨rfl, (Below.refl _ _).alloc (Nat.le_refl _) _⟩
 ·go_enter Try.func106, Try.ntmps106
  go_wp2
  go_ret2
  exact ⟨rfl, (Below.refl _ _).alloc (Nat.le_refl _) _⟩

set_option maxRecDepth 100000 in
set_option maxHeartbeats 4000000 in
theorem changed_ok (n : Int) (hn : 0 ≤ n ∧ n < 65536) (A1 A2 : Option Addr) (c1 c2 : Nat) (l1 l2 : List Int) (w : World) (h1 : By w.heap.size w A1 l1.length c1 l1) (h2 : By w.heap.size w A2 l2.length c2 l2)
  (hd : l1.length = l2.length) (hd2 : l2.length % 2 = 0) :
  Calls Try.prog 106 #[.int .u16 n, .slice A1 l1.length c1, .slice A2 l2.length c2] w fun e W' => e = .returned (.tuple #[.int .u16 (fold (fold n (neg (wds l1))) (wds l2)), .int .i64 0]) ∧ Below w.heap.size w W' := by
 have hb2 : l2.length ≤ 9223372036854775807 := by have := h2.big; have := h2.cap; omega
 have hdH := Lib.hid hd
 rw [hd] at h1
 have hm : ((l2.length : Int) % 2 != 0) = false := by simp; omega
 refine (callsIn_wide (n := 7)).1 ?_
 refine callsIn_of_wp_marks Try.func106 rfl trivial ?_ rfl
 simp only [Try.ntmps106, List.size_toArray, List.length_cons, List.length_nil, Nat.reduceAdd, Nat.reduceSub, Array.replicate_succ, Array.replicate_zero, List.push_toArray, List.append_toArray, List.nil_append, List.cons_append]
 rw [hd]
 clear hd
 gi_wp2_with (refine ⟨trivial, ?_⟩; gi_at_call 104; refine (words_in Fence.wide _ trivial rfl _ _ _ _).mono ?_; rintro e w' ⟨rfl, rfl⟩)
 obtain ⟨W0, hW0⟩ : ∃ W0, (((w.alloc (.cells #[.int .u16 n] 33)).alloc (.cells #[.slice A1 l2.length c1] 26)).alloc (.cells #[Value.slice (some ⟨w.heap.size + 1, 0, none⟩) 1 1] 100)) = W0 := ⟨_, rfl⟩
 have hz0 : W0.heap.size = w.heap.size + 3 := by rw [← hW0]; simp
 have bS := ((Boxed.new w 33 (.int .u16 n)).alloc (.cells #[.slice A1 l2.length c1] 26)).alloc (.cells #[Value.slice (some ⟨w.heap.size + 1, 0, none⟩) 1 1] 100)
 have bN := Boxed.new ((w.alloc (.cells #[.int .u16 n] 33)).alloc (.cells #[.slice A1 l2.length c1] 26)) 100 (Value.slice (some ⟨w.heap.size + 1, 0, none⟩) 1 1)
 have bR := (Boxed.new (w.alloc (.cells #[.int .u16 n] 33)) 26 (.slice A1 l2.length c1)).alloc (.cells #[Value.slice (some ⟨w.heap.size + 1, 0, none⟩) 1 1] 100)
 have hB0 : Below w.heap.size w (((w.alloc (.cells #[.int .u16 n] 33)).alloc (.cells #[.slice A1 l2.length c1] 26)).alloc (.cells #[Value.slice (some ⟨w.heap.size + 1, 0, none⟩) 1 1] 100)) := (((Below.refl _ w).alloc (Nat.le_refl _) _).alloc (by simp) _).alloc (by simp; omega) _
 simp only [World.size_alloc] at bN bR
 rw [hW0] at bS bN bR hB0 ⊢
 clear hW0
 have hy1 : By w.heap.size W0 A1 l1.length c1 l1 := by rw [hdH.out]; exact h1.below hB0 (Nat.le_refl _)
 have hRow : ∀ W, Below W0.heap.size W0 W → W.cell? ⟨w.heap.size + 1, 0, none⟩ = some (.slice A1 l1.length c1) := fun W h => by
  rw [hdH.out]; exact (h.cell (p := ⟨w.heap.size + 1, 0, none⟩) (by simp; omega)).trans bR.cell
 refine wpIn_rangeFunc_ownG (F := Fence.wide) (n := 7) rfl (by decide) (gf := 110) (lb := #[.pointer (some ⟨w.heap.size + 1 + 1, 0, none⟩)]) rfl trivial (enters_of Try.func110 (by kernel_rfl) rfl)
  (words_stops Fence.wide 6 trivial rfl (by decide) (w.heap.size + 1 + 1) (w.heap.size + 2) _ 1 [(A1, c1, l1)] (BelowX (w.heap.size + 2) w.heap.size) W0 (by omega) (by omega) bN.cell (Parts.of1 _ (by omega) (hRow _ (Below.refl _ _)) (hy1.more (by omega))) (fun W => BelowX.refl _ _ W) BelowX.trans
   (fun W W' h hb => Parts.of1 _ (by omega) ((hb.cell (p := ⟨w.heap.size + 1, 0, none⟩) (by simp) (by simp)).trans (hRow _ h)) ((hy1.below h (by omega)).belowX hb (by omega) (by omega))))
  BelowX.trans (belowX_b (by omega)) (Below.refl _ _) (fun _ => rfl)
  (fun pre W => (W.cell? ⟨w.heap.size, 0, none⟩ = some (.int .u16 (fold n (neg (ints pre)))) ∧ W.frozen? ⟨w.heap.size, 0, none⟩ = false) ∧ Below w.heap.size w W)
  (fun _ _ _ => False)
  (OwnFrom.and (Own.from (fun s A B row hs hg hr => ⟨cell_kept hs.1 hg hr, (frozen_kept hs.1 hg hr).trans hs.2⟩) _) (ownFrom_below (Nat.le_refl _) (by omega)))
  (fun _ _ _ _ _ hs _ _ => hs)
  ⟨⟨bS.cell, bS.frozen⟩, hB0⟩
  ?a1 ?assign ?body ?done ?stop
 case assign =>
  intro l x W K hK
  gi_wp2
  exact hK
 case body =>
  rintro l pre x W ⟨⟨hc, hf⟩, hB⟩ _
  have hr := fold_neg_w16 n hn pre
  have hx := x.2
  have hnot := not_u16 x.1 x.2.1 x.2.2
  gi_wp2_with (refine ⟨trivial, ?_⟩; gi_at_call 105; refine (CallsIn.inRound l (callsIn_wide.2 (add_any _ _ _ hr.1 hr.2 (by omega) (by omega)))).mono ?_; rintro e w' ⟨rfl, rfl⟩)
  exact ⟨(KeepsOthers.setCell _ _ _).from _, (BelowX.refl _ _ W).setCell (p := ⟨w.heap.size, 0, none⟩) rfl _, ⟨by rw [ints_snoc, neg_snoc, fold_snoc]; exact World.cell?_setCell_same' _ _ _ (by rw [hc]; rfl), by rw [World.frozen?_setCell]; exact hf⟩, hB.setCell (p := ⟨w.heap.size, 0, none⟩) (Nat.le_refl _) _⟩
 case stop =>
  rintro D c pre W _ _ h _
  exact h.elim
 case done =>
  rintro D ys W hD hys ⟨⟨hc, hf⟩, hB⟩ hK
  have hsD : D < W.heap.size := (Array.getElem?_eq_some_iff.1 hK).1
  have hr := fold_neg_w16 n hn ys
  have hv : flat [(A1, c1, l1)] = l1 := by simp [flat]
  rw [hv] at hys
  rw [hys] at hc hr
  clear hys hv bS bN bR hRow hy1
  gi_wp2_with (refine ⟨trivial, ?_⟩; gi_at_call 104; refine (words_in Fence.wide _ trivial rfl _ _ _ _).mono ?_; rintro e w' ⟨rfl, rfl⟩)
  obtain ⟨W2, hW2⟩ : ∃ W2, ((W.alloc (.cells #[.slice A2 l2.length c2] 26)).alloc (.cells #[Value.slice (some ⟨W.heap.size, 0, none⟩) 1 1] 100)) = W2 := ⟨_, rfl⟩
  have hz2 : W2.heap.size = W.heap.size + 2 := by rw [← hW2]; simp
  have bN := Boxed.new (W.alloc (.cells #[.slice A2 l2.length c2] 26)) 100 (Value.slice (some ⟨W.heap.size, 0, none⟩) 1 1)
  have bR := (Boxed.new W 26 (.slice A2 l2.length c2)).alloc (.cells #[Value.slice (some ⟨W.heap.size, 0, none⟩) 1 1] 100)
  have hBW : Below W.heap.size W ((W.alloc (.cells #[.slice A2 l2.length c2] 26)).alloc (.cells #[Value.slice (some ⟨W.heap.size, 0, none⟩) 1 1] 100)) := ((Below.refl _ W).alloc (Nat.le_refl _) _).alloc (by simp) _
  simp only [World.size_alloc] at bN
  rw [hW2] at bN bR hBW ⊢
  clear hW2
  have hwW : w.heap.size + 3 ≤ W.heap.size := by omega
  have hB2 : Below w.heap.size w W2 := hB.trans (hBW.mono hB.size)
  have hcX : W2.cell? ⟨w.heap.size, 0, none⟩ = some (.int .u16 (fold n (neg (wds l1)))) := (hBW.cell (p := ⟨w.heap.size, 0, none⟩) (by simp; omega)).trans hc
  have hfX : W2.frozen? ⟨w.heap.size, 0, none⟩ = false := (hBW.frozen (p := ⟨w.heap.size, 0, none⟩) (by simp; omega)).trans hf
  have hK2 : W2.heap[D]? = some (.deferred (some [])) := (hBW.block D hsD).trans hK
  have hy2 : By w.heap.size W2 A2 l2.length c2 l2 := h2.below hB2 (Nat.le_refl _)
  have hRow : ∀ X, Below W2.heap.size W2 X → X.cell? ⟨W.heap.size, 0, none⟩ = some (.slice A2 l2.length c2) := fun X h => (h.cell (p := ⟨W.heap.size, 0, none⟩) (by simp; omega)).trans bR.cell
  clear hc hf hK
  refine wpIn_rangeFunc_ownG (F := Fence.wide) (n := 7) rfl (by decide) (gf := 110) (lb := #[.pointer (some ⟨W.heap.size + 1, 0, none⟩)]) rfl trivial (enters_of Try.func110 (by kernel_rfl) rfl)
   (words_stops Fence.wide 6 trivial rfl (by decide) (W.heap.size + 1) (W.heap.size + 1) _ 1 [(A2, c2, l2)] (BelowX (W.heap.size + 1) w.heap.size) W2 (by omega) (by omega) bN.cell (Parts.of1 _ (by omega) (hRow _ (Below.refl _ _)) (hy2.more (by omega))) (fun W => BelowX.refl _ _ W) BelowX.trans
    (fun X X' h hb => Parts.of1 _ (by omega) ((hb.cell (p := ⟨W.heap.size, 0, none⟩) (by simp) (by simp; omega)).trans (hRow _ h)) ((hy2.below h (by omega)).belowX hb (by omega) (by omega))))
   BelowX.trans (belowX_b (by omega)) (Below.refl _ _) (fun _ => rfl)
   (fun pre W => ((W.cell? ⟨w.heap.size, 0, none⟩ = some (.int .u16 (fold (fold n (neg (wds l1))) (ints pre))) ∧ W.frozen? ⟨w.heap.size, 0, none⟩ = false) ∧ Below w.heap.size w W) ∧ W.heap[D]? = some (.deferred (some [])))
   (fun _ _ _ => False)
   (OwnFrom.and (OwnFrom.and (Own.from (fun s A B row hs hg hr => ⟨cell_kept hs.1 hg hr, (frozen_kept hs.1 hg hr).trans hs.2⟩) _) (ownFrom_below (Nat.le_refl _) (by omega))) (ownFrom_heap (by omega)))
   (fun _ _ _ _ _ hs _ _ => hs)
   ⟨⟨⟨hcX, hfX⟩, hB2⟩, hK2⟩
   ?a2 ?assign2 ?body2 ?done2 ?stop2
  case assign2 =>
   intro l x W K hK
   gi_wp2
   exact hK
  case body2 =>
   rintro l pre x X ⟨⟨⟨hc, hf⟩, hB⟩, hKX⟩ _
   have hr2 := fold_w16 (fold n (neg (wds l1))) hr pre
   have hx := x.2
   gi_wp2_with (refine ⟨trivial, ?_⟩; gi_at_call 105; refine (CallsIn.inRound l (callsIn_wide.2 (add_any _ _ _ hr2.1 hr2.2 hx.1 hx.2))).mono ?_; rintro e w' ⟨rfl, rfl⟩)
   exact ⟨(KeepsOthers.setCell _ _ _).from _, (BelowX.refl _ _ X).setCell (p := ⟨w.heap.size, 0, none⟩) rfl _, ⟨⟨by rw [ints_snoc, fold_snoc]; exact World.cell?_setCell_same' _ _ _ (by rw [hc]; rfl), by rw [World.frozen?_setCell]; exact hf⟩, hB.setCell (p := ⟨w.heap.size, 0, none⟩) (Nat.le_refl _) _⟩, (KeepsOthers.setCell _ _ _).same D _ hKX rfl⟩
  case stop2 =>
   rintro D c pre W _ _ h _
   exact h.elim
  case done2 =>
   rintro D2 ys2 X hD2 hys ⟨⟨⟨hc, hf⟩, hB⟩, hKX⟩ hK
   have hv : flat [(A2, c2, l2)] = l2 := by simp [flat]
   rw [hv] at hys
   rw [hys] at hc
   clear hys hv hcX hfX hK2 bN bR
   gi_wp2
   have hK1 : (X.putObj D2 (.deferred none)).heap[D]? = some (.deferred (some [])) := (World.putObj_heap_other (by omega)).trans hKX
   refine ⟨by simp, .inl ⟨_, _, rfl, run_takeDeferred hK, ⟨by simp, .inl ⟨_, _, rfl, run_takeDeferred hK1, ?_⟩⟩⟩⟩
   refine ⟨_, results_tmp2 rfl _ _ _, rfl, ?_⟩
   exact (hB.trans (belowK_b (w := w) (Nat.le_refl _) X D2 _ _ (by omega) hK rfl rfl)).trans (belowK_b (w := w) (Nat.le_refl _) _ D _ _ (by omega) hK1 rfl rfl)

/-- a result word and an error's number that read as said -/
def Two (p : Int × Int) (e : Ending) : Prop := ∃ q er : Int, e = .returned (.tuple #[.int .u16 q, .int .i64 er]) ∧ Hid (q = p.1 ∧ er = p.2)
theorem Two.mk {p : Int × Int} {q er : Int} (h1 : q = p.1) (h2 : er = p.2) : Two p (.returned (.tuple #[.int .u16 q, .int .i64 er])) := ⟨q, er, rfl, Lib.hid ⟨h1, h2⟩⟩

theorem changed_one (n : Int) (hn : 0 ≤ n ∧ n < 65536) (A1 A2 : Option Addr) (c1 c2 : Nat) (l1 l2 : List Int) (w : World) (h1 : By w.heap.size w A1 l1.length c1 l1) (h2 : By w.heap.size w A2 l2.length c2 l2) (hd : l1.length = l2.length ∧ l2.length % 2 = 0) :
  Calls Try.prog 106 #[.int .u16 n, .slice A1 l1.length c1, .slice A2 l2.length c2] w fun e W' => ∃ q : Int, e = .returned (.tuple #[.int .u16 q, .int .i64 0]) ∧ Hid (q = (changedS n l1 l2).1) ∧ (0 ≤ q ∧ q < 65536) ∧ Below w.heap.size w W' := by
 refine (changed_ok n hn A1 A2 c1 c2 l1 l2 w h1 h2 hd.1 hd.2).mono fun e w' ⟨he, hb⟩ => ⟨_, he, Lib.hid ?_, ?_, hb⟩
 ·unfold changedS; rw [if_pos hd]
 ·exact fold_rng _ (fold_rng _ hn _ (neg_rng _ (wds_rng _ h1.rng))) _ (wds_rng _ h2.rng)

/-- sum.Update -/
def updateS (was : Int) (f t : List Int) : Int × Int := if f.length = t.length ∧ t.length % 2 = 0 then (65535 - (changedS (65535 - was) f t).1, 0) else (0, 10)

theorem update_any (was : Int) (hn : 0 ≤ was ∧ was < 65536) (A1 A2 : Option Addr) (c1 c2 : Nat) (l1 l2 : List Int) (w : World) (h1 : By w.heap.size w A1 l1.length c1 l1) (h2 : By w.heap.size w A2 l2.length c2 l2) :
  Calls Try.prog 83 #[.int .u16 was, .slice A1 l1.length c1, .slice A2 l2.length c2] w fun e W' => Two (updateS was l1 l2) e ∧ Below w.heap.size w W' := by
 have hnot := not_u16 was hn.1 hn.2
 have hsg : IntKind.u16.signed = false := rfl
 by_cases hd : l1.length = l2.length ∧ l2.length % 2 = 0
 ·have hdH := Lib.hid hd
  clear hd
  go_enter Try.func83, Try.ntmps83
  go_wp2_with (go_at_call 106; refine (changed_one (65535 - was) (by omega) _ _ _ _ _ _ _ h1 h2 hdH.out).mono ?_; rintro e w' ⟨q, rfl, hq, hr, hb⟩)
  have hnot2 := not_u16 q hr.1 hr.2
  go_ret2
  refine ⟨Two.mk ?_ ?_, hb⟩
  ·unfold updateS; rw [if_pos hdH.out, ← hq.out]; exact hnot2
  ·unfold updateS; rw [if_pos hdH.out]
 ·go_enter Try.func83, Try.ntmps83
  go_wp2_with (go_at_call 106; refine (changed_err (65535 - was) _ _ _ _ _ _ _ hd).mono ?_; rintro e w' ⟨rfl, hb⟩)
  go_ret2
  refine ⟨Two.mk ?_ ?_, hb⟩
  ·unfold updateS; rw [if_neg hd]
  ·unfold updateS; rw [if_neg hd]

theorem updateS_rng (n : Int) (hn : 0 ≤ n ∧ n < 65536) (l1 l2 : List Int) (h1 : InB l1) (h2 : InB l2) : 0 ≤ (updateS n l1 l2).1 ∧ (updateS n l1 l2).1 < 65536 := by
 unfold updateS changedS
 split
 ·have := fold_rng _ (fold_rng _ (show 0 ≤ 65535 - n ∧ 65535 - n < 65536 by omega) _ (neg_rng _ (wds_rng _ h1))) _ (wds_rng _ h2)
  simp only
  omega
 ·simp
end Go.Proofs.Ytjnphelfloiadaa
namespace Go.Proofs.Ytjnphelfloiadaa
open Go.RowKit

def two17 (l : List Int) (k : Nat) : Int := l.getD k 0 * 256 + l.getD (k + 1) 0
def put17 (b : List Int) (k : Nat) (n : Int) : List Int := (b.set k (n / 256)).set (k + 1) (n % 256)
def fix17 (udp : Bool) (n : Int) : Int := if n = 0 ∧ udp = true then 65535 else n
/-- a body whose checksum at a place is carried over -/
def carry17 (udp : Bool) (f t b : List Int) (k : Nat) : List Int := put17 b k (fix17 udp (updateS (two17 b k) f t).1)
def D4.part (d : D4) : Bool := d.mf || decide (0 < d.off)
theorem put17_len (b : List Int) (k : Nat) (n : Int) : (put17 b k n).length = b.length := by simp [put17]
theorem InB.set {l : List Int} (h : InB l) (k : Nat) {n : Int} (hn : 0 ≤ n ∧ n ≤ 255) : InB (l.set k n) := by
 intro x hx
 rcases List.mem_or_eq_of_mem_set hx with h1 | rfl
 ·exact h x h1
 ·exact hn
theorem two17_rng {l : List Int} (h : InB l) (k : Nat) : 0 ≤ two17 l k ∧ two17 l k < 65536 := by
 have h1 := getD_rng h k
 have h2 := getD_rng h (k + 1)
 unfold two17
 omega
theorem carry17_len (udp : Bool) (f t b : List Int) (k : Nat) : (carry17 udp f t b k).length = b.length := put17_len _ _ _
end Go.Proofs.Ytjnphelfloiadaa
namespace Go.Proofs.Ytjnphelfloiadaa
open Go.RowKit

/-- two addresses of IPv4 -/
structure E4ok (s t : List Int) : Prop where
 sL : s.length = 4
 s : InB s
 tL : t.length = 4
 t : InB t
def e4c (s t : List Int) : Array Value := #[.int .u8 (s.getD 0 0), .int .u8 (s.getD 1 0), .int .u8 (s.getD 2 0), .int .u8 (s.getD 3 0), .int .u8 (t.getD 0 0), .int .u8 (t.getD 1 0), .int .u8 (t.getD 2 0), .int .u8 (t.getD 3 0)]
def pro18 (p : Int) : Int := if p = 58 then 1 else p
def wrong18 (p : Int) : Bool := decide (p = 0 ∨ p = 1 ∨ p = 43 ∨ p = 44 ∨ p = 60)
def rt18 (h : Int × List Int) : Bool := decide (h.1 = 43) && decide (h.2.getD 1 0 ≠ 0)
/-- is there a routing header that is not at its end? -/
def routed18 : List (Int × List Int) → Bool
 | [] => false
 | h :: t => rt18 h || routed18 t
def D6.part (d : D6) : Bool := d.frag && (d.more || decide (0 < d.off))
def head18 (d : D6) (s t bl : List Int) : D4 := ⟨d.cls, if d.frag then d.id % 65536 else 0, !d.frag, if d.frag then d.more else false, if d.frag then d.off else 0, d.hop, pro18 d.pro, s.getD 0 0, s.getD 1 0, s.getD 2 0, s.getD 3 0, t.getD 0 0, t.getD 1 0, t.getD 2 0, t.getD 3 0, [], bl⟩
def from18 (d : D6) : List Int := d.src ++ d.dst
def to18 (s t : List Int) : List Int := s ++ t ++ List.replicate 24 0
/-- a datagram's body on the other side, or why there is none -/
def body18 (d : D6) (s t : List Int) : List Int × Int :=
 if 0 < d.off then (d.bl, 0)
 else if d.pro = 6 then (if d.bl.length < 20 then ([], 173) else (carry17 false (from18 d) (to18 s t) d.bl 16, 0))
 else if d.pro = 17 then
  (if d.bl.length < 8 then ([], 173)
  else if d.bl.getD 6 0 = 0 ∧ d.bl.getD 7 0 = 0 then ([], 172)
  else (carry17 true (from18 d) (to18 s t) d.bl 6, 0))
 else (d.bl, 0)
def ptr18 (n : Int) : Int × Bool :=
 if n ≤ 1 then (n, true) else if n = 4 ∨ n = 5 then (2, true) else if n = 6 then (9, true) else if n = 7 then (8, true) else if 8 ≤ n ∧ n < 24 then (12, true) else if 24 ≤ n ∧ n < 40 then (16, true) else (0, false)
def mtu18 (n : Int) : Int := if n < 88 then 68 else if 65555 < n then 65535 else n - 20
/-- type, code and rest of a message on the other side -/
def kind18 (m : D7) : (Int × Int × Int) × Bool :=
 if m.ty = 128 then ((8, m.code, m.rest), true) else if m.ty = 129 then ((0, m.code, m.rest), true)
 else if m.ty = 1 then (if m.code = 0 ∨ m.code = 2 ∨ m.code = 3 then ((3, 1, 0), true) else if m.code = 1 then ((3, 10, 0), true) else if m.code = 4 then ((3, 3, 0), true) else ((0, 0, 0), false))
 else if m.ty = 2 then (if m.code = 0 then ((3, 4, mtu18 m.rest), true) else ((0, 0, 0), false))
 else if m.ty = 3 then ((11, m.code, 0), true)
 else if m.ty = 4 then (if m.code = 0 then (if (ptr18 m.rest).2 then ((12, 0, (ptr18 m.rest).1 * 16777216), true) else ((0, 0, 0), false)) else if m.code = 1 then ((3, 2, 0), true) else ((0, 0, 0), false))
 else ((0, 0, 0), false)
def one18 (b : Int) : Int := if b = 128 then 8 else 0
/-- the body of a packet of which an error tells, as far as it is there -/
def told18 (d : D6) (s t : List Int) (n : Int) : List Int :=
 if 0 < d.off then d.bl
 else if d.pro = 6 ∧ 18 ≤ d.bl.length then carry17 false (from18 d) (to18 s t) d.bl 16
 else if d.pro = 17 ∧ 8 ≤ d.bl.length ∧ ¬ (d.bl.getD 6 0 = 0 ∧ d.bl.getD 7 0 = 0) then carry17 true (from18 d) (to18 s t) d.bl 6
 else if d.pro = 58 ∧ 4 ≤ d.bl.length then
  put17 (d.bl.set 0 (one18 (d.bl.getD 0 0))) 2 (updateS (two17 d.bl 2) (d.bl.take 2 ++ from18 d ++ [0, 0, n / 256, n % 256, 0, 58]) ([one18 (d.bl.getD 0 0), d.bl.getD 1 0] ++ List.replicate 38 0)).1
 else d.bl
def said18 (l : List Int) : Int := said6 l - ((got6 false l).ahead - 40)
/-- is an inner packet none? -/
def none18 (l : List Int) : Bool := decide ((g6 false l).err ≠ 0) || (decide ((got6 false l).off = 0) && (decide ((got6 false l).pro = 58) && (decide (0 < (got6 false l).bl.length) && (decide ((got6 false l).bl.getD 0 0 ≠ 128) && decide ((got6 false l).bl.getD 0 0 ≠ 129)))))
/-- twenty bytes with their own sum -/
def sum18 (h : List Int) : List Int := put17 (put17 h 10 0) 10 (65535 - sumw (put17 h 10 0))
def inside18 (l : List Int) (s t : List Int) : List Int × Int :=
 if none18 l then ([], 176) else if routed18 (got6 false l).hs then ([], 170) else if wrong18 (got6 false l).pro then ([], 171)
 else (sum18 (put17 ((head18 (got6 false l) s t []).first 0) 2 (min (said18 l + 20) 65535)) ++ told18 (got6 false l) s t (said18 l), 0)
def msg18 (m : D7) (s t : List Int) : D7 × Int :=
 if (kind18 m).2 = false then (zero7, 175) else if 65527 < m.bl.length then (zero7, 2)
 else if 128 ≤ m.ty then (⟨(kind18 m).1.1, (kind18 m).1.2.1, (kind18 m).1.2.2, m.bl⟩, 0)
 else if (inside18 m.bl s t).2 ≠ 0 then (zero7, (inside18 m.bl s t).2)
 else (⟨(kind18 m).1.1, (kind18 m).1.2.1, (kind18 m).1.2.2, (inside18 m.bl s t).1.take 548⟩, 0)
def ps18 (d : D6) : List Int := pse6 d.src d.dst d.bl.length 58
/-- a message's body on the other side, or why there is none -/
def icmp18 (d : D6) (s t : List Int) : List Int × Int :=
 if d.part then ([], 174) else if perr7 d.bl (ps18 d) ≠ 0 then ([], perr7 d.bl (ps18 d))
 else if (msg18 (parse7 d.bl (ps18 d)) s t).2 ≠ 0 then ([], (msg18 (parse7 d.bl (ps18 d)) s t).2)
 else ((msg18 (parse7 d.bl (ps18 d)) s t).1.write [], 0)
def any18 (d : D6) (s t s' t' : List Int) : List Int × Int := if d.pro = 58 then icmp18 d s' t' else body18 d s t
def zero18 : D4 := ⟨0, 0, false, false, 0, 0, 0, 0, 0, 0, 0, 0, 0, 0, 0, [], []⟩
def pack18 (d : D6) (s t s' t' : List Int) : D4 × Int :=
 if d.check ≠ 0 then (zero18, d.check) else if routed18 d.hs then (zero18, 170) else if wrong18 d.pro then (zero18, 171)
 else if (any18 d s t s' t').2 ≠ 0 then (zero18, (any18 d s t s' t').2)
 else if (head18 d s t (any18 d s t s' t').1).check ≠ 0 then (zero18, 2) else (head18 d s t (any18 d s t s' t').1, 0)
def z16 : List Int := [0, 0, 0, 0, 0, 0, 0, 0, 0, 0, 0, 0, 0, 0, 0, 0]
/-- of which packet a datagram tells: its addresses, whether it tells of one, the error -/
def tells18 (d : D6) : (List Int × List Int) × Bool × Int :=
 if d.check ≠ 0 then ((z16, z16), false, d.check)
 else if d.part = true ∨ d.pro ≠ 58 then ((z16, z16), false, 0)
 else if perr7 d.bl (ps18 d) ≠ 0 ∨ (parse7 d.bl (ps18 d)).ty < 1 ∨ 4 < (parse7 d.bl (ps18 d)).ty then ((z16, z16), false, 0)
 else if (g6 false (parse7 d.bl (ps18 d)).bl).err ≠ 0 then ((z16, z16), false, 0)
 else (((got6 false (parse7 d.bl (ps18 d)).bl).src, (got6 false (parse7 d.bl (ps18 d)).bl).dst), true, 0)

theorem from18_len {d : D6} (h : d.ok) : (from18 d).length = 32 := by simp [from18, h.srcL, h.dstL]
theorem to18_len {s t : List Int} (h : E4ok s t) : (to18 s t).length = 32 := by simp [to18, h.sL, h.tL]
end Go.Proofs.Ytjnphelfloiadaa
namespace Go.Proofs.Ytjnphelfloiadaa
open Go.RowKit

/-- what the first bytes of a datagram are, where they are some -/
theorem got6_part {l : List Int} (hB : InB l) (h : (g6 false l).err = 0) : (got6 false l).check = 0 ∧ (got6 false l).ahead + (got6 false l).bl.length = l.length ∧ 40 ≤ (got6 false l).ahead ∧ (0 ≤ said18 l ∧ said18 l < 65536) ∧ 40 ≤ l.length := by
 have hG := g6_gok hB h
 obtain ⟨h1, h2, h3, h4, _⟩ := g6_ok h
 have hok := of6_ok hB h
 have b4 := getD_byte hB 4
 have b5 := getD_byte hB 5
 have b1 := getD_byte hB 1
 have b2 := getD_byte hB 2
 have b3 := getD_byte hB 3
 have hs6 : said6 l ≤ 65535 := by unfold said6; omega
 have hps := hG.pos
 have hle := hG.le
 have ht := hG.tail hB
 unfold said18 got6
 rw [if_pos h]
 have hah : (of6 l (g6 false l)).ahead = (g6 false l).pos := by
  have e : (of6 l (g6 false l)).frag = (g6 false l).frag := rfl
  unfold D6.ahead
  rw [e]
  simp only [of6]
  simp only [hsz] at hps
  cases hf : (g6 false l).frag <;> simp only [hf, if_true, Bool.false_eq_true, if_false] at hps ⊢ <;> omega
 have hbl : (of6 l (g6 false l)).bl.length = l.length - (g6 false l).pos := by simp [of6]
 have h40 : 40 ≤ (of6 l (g6 false l)).ahead := by unfold D6.ahead; omega
 have hlab : (of6 l (g6 false l)).lab < 1048576 := by simp only [of6]; omega
 have htl : (of6 l (g6 false l)).tail = true := by
  have e : (of6 l (g6 false l)).frag = (g6 false l).frag := rfl
  unfold D6.tail
  rw [e]
  cases hf : (g6 false l).frag with
  | true =>
   rw [hf, if_pos rfl] at ht
   rw [if_pos rfl]
   exact decide_eq_true ht
  | false =>
   rw [hf, if_neg (by simp)] at ht
   rw [if_neg (by simp)]
   exact decide_eq_true ht
 have hri : (of6 l (g6 false l)).right = true := by
  unfold D6.right
  rw [htl, decide_eq_true hlab]
  have e1 : (of6 l (g6 false l)).hs = (g6 false l).hs := rfl
  rw [e1, hG.okh, decide_eq_true hG.len]
  rfl
 refine ⟨?_, by omega, h40, by omega, h1⟩
 unfold D6.check
 rw [hri, if_neg (by decide), if_neg (by omega)]
/-- what holds of a datagram that may be -/
theorem check18 {d : D6} (h : d.check = 0) : okH 0 d.hs = true ∧ (0 ≤ d.off ∧ d.off ≤ 8191) ∧ d.bl.length ≤ 65535 := by
 obtain ⟨hr, hl⟩ := D6.ok_of_check h
 obtain ⟨-, -, ho, ht⟩ := D6.right_true hr
 refine ⟨ho, ?_, by omega⟩
 unfold D6.tail at ht
 split at ht
 ·exact of_decide_eq_true ht
 ·have := of_decide_eq_true ht
  omega
theorem pro18_rng {p : Int} (h : 0 ≤ p ∧ p ≤ 255) : 0 ≤ pro18 p ∧ pro18 p ≤ 255 := by unfold pro18; split <;> omega
theorem four_rng {s : List Int} (hL : s.length = 4) (h : InB s) : InB [s.getD 0 0, s.getD 1 0, s.getD 2 0, s.getD 3 0] := by
 match s, hL with
 | [_, _, _, _], _ => exact h
theorem head18_ok {d : D6} (hd : d.ok) {s t bl : List Int} (hE : E4ok s t) : (head18 d s t bl).ok := by
 have h1 := hd.id
 have h2 := hd.off
 refine ⟨hd.cls, ?_, ?_, hd.hop, pro18_rng hd.pro, four_rng hE.sL hE.s, four_rng hE.tL hE.t⟩
 ·show 0 ≤ (if d.frag then d.id % 65536 else 0) ∧ (if d.frag then d.id % 65536 else 0) < 65536
  split <;> omega
 ·show -9223372036854775808 ≤ (if d.frag then d.off else 0) ∧ (if d.frag then d.off else 0) ≤ 9223372036854775807
  split <;> omega
theorem head18_check {d : D6} (h : 0 ≤ d.off ∧ d.off ≤ 8191) (s t bl : List Int) : (head18 d s t bl).check = if 65515 < bl.length then 2 else 0 := by
 have e : (head18 d s t bl).off = if d.frag then d.off else 0 := rfl
 have e1 : (head18 d s t bl).ol = [] := rfl
 have e2 : (head18 d s t bl).bl = bl := rfl
 have h0 : ¬ ((head18 d s t bl).off < 0 ∨ (head18 d s t bl).off > 8191 ∨ (head18 d s t bl).ol.length > 40 ∨ (head18 d s t bl).ol.length % 4 ≠ 0) := by
  rw [e, e1]
  simp only [List.length_nil]
  split <;> omega
 unfold D4.check
 rw [if_neg h0, e1, e2]
 simp only [List.length_nil, Nat.sub_zero]
theorem head18_write {d : D6} (h : 0 ≤ d.off ∧ d.off ≤ 8191) (s t : List Int) : (head18 d s t []).write = (head18 d s t []).first (head18 d s t []).sum := by
 have hc : (head18 d s t []).check = 0 := by rw [head18_check h, if_neg (by simp)]
 unfold D4.write D4.bytes
 rw [if_pos hc]
 have e1 : (head18 d s t []).ol = [] := rfl
 have e2 : (head18 d s t []).bl = [] := rfl
 rw [e1, e2, List.append_nil, List.append_nil]
/-- the bytes of the sum do not matter where they are set anew -/
theorem sum18_any (d : D4) (q N : Int) : put17 (put17 (d.first q) 2 N) 10 0 = put17 (put17 (d.first 0) 2 N) 10 0 := rfl
theorem none18_iff {l : List Int} : none18 l = true ↔ ((g6 false l).err ≠ 0 ∨ ((got6 false l).off = 0 ∧ (got6 false l).pro = 58 ∧ 0 < (got6 false l).bl.length ∧ (got6 false l).bl.getD 0 0 ≠ 128 ∧ (got6 false l).bl.getD 0 0 ≠ 129)) := by
 simp only [none18, Bool.or_eq_true, Bool.and_eq_true, decide_eq_true_eq]
theorem inside18_none {l s t : List Int} (h : none18 l = true) : inside18 l s t = ([], 176) := by rw [inside18, if_pos h]
theorem inside18_route {l s t : List Int} (h : none18 l = false) (h1 : routed18 (got6 false l).hs = true) : inside18 l s t = ([], 170) := by rw [inside18, if_neg (by rw [h]; decide), if_pos h1]
theorem inside18_wrong {l s t : List Int} (h : none18 l = false) (h0 : routed18 (got6 false l).hs = false) (h1 : wrong18 (got6 false l).pro = true) : inside18 l s t = ([], 171) := by rw [inside18, if_neg (by rw [h]; decide), if_neg (by rw [h0]; decide), if_pos h1]
theorem inside18_ok {l s t : List Int} {D : D6} (hD : got6 false l = D) (h : none18 l = false) (h0 : routed18 D.hs = false) (h1 : wrong18 D.pro = false) : inside18 l s t = (sum18 (put17 ((head18 D s t []).first 0) 2 (min (said18 l + 20) 65535)) ++ told18 D s t (said18 l), 0) := by
 subst hD
 rw [inside18, if_neg (by rw [h]; decide), if_neg (by rw [h0]; decide), if_neg (by rw [h1]; decide)]
theorem ptr18_rng {n : Int} (h : 0 ≤ n) : 0 ≤ (ptr18 n).1 ∧ (ptr18 n).1 ≤ 255 := by
 unfold ptr18
 repeat' split
 all_goals (simp only []; omega)
theorem mtu18_rng (n : Int) : 0 ≤ mtu18 n ∧ mtu18 n < 65536 := by
 unfold mtu18
 split
 ·decide
 ·split
  ·decide
  ·omega
theorem kind18_ok {m : D7} (hm : m.ok) (bl : List Int) : (⟨(kind18 m).1.1, (kind18 m).1.2.1, (kind18 m).1.2.2, bl⟩ : D7).ok := by
 have h1 := hm.rest
 have h2 := hm.code
 have h3 := mtu18_rng m.rest
 have h4 := ptr18_rng h1.1
 refine ⟨?_, ?_, ?_⟩
 all_goals (show 0 ≤ _ ∧ _)
 all_goals unfold kind18
 all_goals repeat' split
 all_goals (simp only []; omega)
theorem msg18_len {m : D7} {s t : List Int} : (msg18 m s t).1.bl.length ≤ 65527 := by
 unfold msg18
 split
 ·exact Nat.zero_le _
 ·split
  ·exact Nat.zero_le _
  ·split
   ·simp only []; omega
   ·split
    ·exact Nat.zero_le _
    ·simp only [List.length_take]; omega
end Go.Proofs.Ytjnphelfloiadaa
namespace Go.Proofs.Ytjnphelfloiadaa
open Go.RowKit

section
variable {P : Program}
theorem ex_index2 {ρ : Operand → Value} {o : Oper} {t e : TypeId} {x ix : Operand} {b off n c k : Nat} {w : World} (ho : o.op = .indexAddr t x ix) (ht : P.underlying t = some (.slice e)) (hs : (P.info? e).map (·.size) = some 2) (hx : ρ x = .slice (some ⟨b, off, none⟩) n c) (hi : ρ ix = .int .i64 (k : Int)) (hk : k < n) :
  (execOp ρ o).run P w = .ok (.value (.pointer (some ⟨b, off + k * 2, none⟩))) w := by
 have hsz : (sizeOf e).run P w = .ok 2 w := by
  cases hq : P.info? e with
  | none => simp [hq] at hs
  | some i => simp [hq] at hs; simp [sizeOf, typeInfo, hq, hs]
 unfold execOp
 simp [ho, hx, hi, Instr.indexAt, run_underlying ht, hsz, hk, Go.WideShapes.add_plain, asIntOf]
theorem ex_field1 {ρ : Operand → Value} {o : Oper} {s : TypeId} {x : Operand} {k g q : Nat} {fs : Array Field} {f : Field} {w : World} (ho : o.op = .fieldAddr s x k) (hs : P.underlying s = some (.struct fs)) (hf : fs[k]? = some f) (hoff : f.offset = 1) (hz : (P.info? f.type).map (·.size) = some 1) (hx : ρ x = .pointer (some ⟨g, q, none⟩)) :
  (execOp ρ o).run P w = .ok (.value (.pointer (some ⟨g, q + 1, none⟩))) w := by
 have hsz : (sizeOf f.type).run P w = .ok 1 w := by
  cases hq : P.info? f.type with
  | none => simp [hq] at hz
  | some i => simp [hq] at hz; simp [sizeOf, typeInfo, hq, hz]
 unfold execOp
 simp [ho, hx, Instr.fieldAt, run_underlying hs, hf, Instr.sureAddr, fieldPlace, hsz, Go.WideShapes.add_plain, hoff]
end
end Go.Proofs.Ytjnphelfloiadaa
