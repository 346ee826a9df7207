/-
  Merged by merge.py from Upd6 Rup6 P6W P6B P6N P6O Rw6 Rw7 Reg8 Tw7 Pt4 Pt6 Pt7.
-/
import Derived.Test.YtaobnbjkhgcmlaaSumOf
import Derived.Test.YtaobnbjkhgcmlaaConcat
import Derived.Test.YtaobnbjkhgcmlaaRefSum
import Derived.Test.YtaobnbjkhgcmlaaP6P
import Derived.Test.YtaobnbjkhgcmlaaP6S
import Derived.Test.YtaobnbjkhgcmlaaSg4
import Derived.Test.YtaobnbjkhgcmlaaClone
import Derived.Test.YtaobnbjkhgcmlaaReg7
import Derived.Test.YtaobnbjkhgcmlaaReg6

section
/-
  The walk of sum.Update.
-/
namespace Go.Proofs.Ytaobnbjkhgcmlaa
open Go.RowKit Go.Shelf
attribute [local go_sem] Oper.semAt_some
theorem fold_neg_w16 (n : Int) (hn : 0 ≤ n ∧ n < 65536) (l : List W16) : 0 ≤ fold n (neg (ints l)) ∧ fold n (neg (ints l)) < 65536 := fold_rng n hn _ (neg_rng _ (fun x hx => by
  obtain ⟨y, _, rfl⟩ := List.mem_map.1 hx
  exact y.2))
theorem changed_err (n : Int) (A1 A2 : Option Addr) (c1 c2 : Nat) (l1 l2 : List Int) (w : World) (hd : ¬ (l1.length = l2.length ∧ l2.length % 2 = 0)) :
    Calls Try.prog 72 #[.int .u16 n, .slice A1 l1.length c1, .slice A2 l2.length c2] w fun e W' => e = .returned (.tuple #[.int .u16 0, .int .i64 10]) ∧ Below w.heap.size w W' := by
  by_cases he : l1.length = l2.length
  · have ho : ¬ (l2.length % 2 = 0) := fun h => hd ⟨he, h⟩
    go_enter Try.func72, Try.ntmps72
    go_wp2
    go_ret2
    exact ⟨rfl, (Below.refl _ _).alloc (Nat.le_refl _) _⟩
  · go_enter Try.func72, Try.ntmps72
    go_wp2
    go_ret2
    exact ⟨rfl, (Below.refl _ _).alloc (Nat.le_refl _) _⟩

set_option maxRecDepth 100000 in
set_option maxHeartbeats 4000000 in
theorem changed_ok (n : Int) (hn : 0 ≤ n ∧ n < 65536) (A1 A2 : Option Addr) (c1 c2 : Nat) (l1 l2 : List Int) (w : World) (h1 : By w.heap.size w A1 l1.length c1 l1) (h2 : By w.heap.size w A2 l2.length c2 l2)
    (hd : l1.length = l2.length) (hd2 : l2.length % 2 = 0) :
    Calls Try.prog 72 #[.int .u16 n, .slice A1 l1.length c1, .slice A2 l2.length c2] w fun e W' => e = .returned (.tuple #[.int .u16 (fold (fold n (neg (wds l1))) (wds l2)), .int .i64 0]) ∧ Below w.heap.size w W' := by
  have hb2 : l2.length ≤ 9223372036854775807 := by have := h2.big; have := h2.cap; omega
  have hdH := Lib.hid hd
  rw [hd] at h1
  have hm : ((l2.length : Int) % 2 != 0) = false := by simp; omega
  refine (callsIn_wide (n := 7)).1 ?_
  refine callsIn_of_wp_marks Try.func72 rfl trivial ?_ rfl
  simp only [Try.ntmps72, List.size_toArray, List.length_cons, List.length_nil, Nat.reduceAdd, Nat.reduceSub, Array.replicate_succ, Array.replicate_zero, List.push_toArray, List.append_toArray, List.nil_append, List.cons_append]
  rw [hd]
  clear hd
  gi_wp2_with (refine ⟨trivial, ?_⟩; gi_at_call 77; refine (words_in Fence.wide _ trivial rfl _ _ _ _).mono ?_; rintro e w' ⟨rfl, rfl⟩)
  obtain ⟨W0, hW0⟩ : ∃ W0, (((w.alloc (.cells #[.int .u16 n] 22)).alloc (.cells #[.slice A1 l2.length c1] 24)).alloc (.cells #[Value.slice (some ⟨w.heap.size + 1, 0, none⟩) 1 1] 44)) = W0 := ⟨_, rfl⟩
  have hz0 : W0.heap.size = w.heap.size + 3 := by rw [← hW0]; simp
  have bS := ((Boxed.new w 22 (.int .u16 n)).alloc (.cells #[.slice A1 l2.length c1] 24)).alloc (.cells #[Value.slice (some ⟨w.heap.size + 1, 0, none⟩) 1 1] 44)
  have bN := Boxed.new ((w.alloc (.cells #[.int .u16 n] 22)).alloc (.cells #[.slice A1 l2.length c1] 24)) 44 (Value.slice (some ⟨w.heap.size + 1, 0, none⟩) 1 1)
  have bR := (Boxed.new (w.alloc (.cells #[.int .u16 n] 22)) 24 (.slice A1 l2.length c1)).alloc (.cells #[Value.slice (some ⟨w.heap.size + 1, 0, none⟩) 1 1] 44)
  have hB0 : Below w.heap.size w (((w.alloc (.cells #[.int .u16 n] 22)).alloc (.cells #[.slice A1 l2.length c1] 24)).alloc (.cells #[Value.slice (some ⟨w.heap.size + 1, 0, none⟩) 1 1] 44)) := (((Below.refl _ w).alloc (Nat.le_refl _) _).alloc (by simp) _).alloc (by simp; omega) _
  simp only [World.size_alloc] at bN bR
  rw [hW0] at bS bN bR hB0 ⊢
  clear hW0
  have hy1 : By w.heap.size W0 A1 l1.length c1 l1 := by rw [hdH.out]; exact h1.below hB0 (Nat.le_refl _)
  have hRow : ∀ W, Below W0.heap.size W0 W → W.cell? ⟨w.heap.size + 1, 0, none⟩ = some (.slice A1 l1.length c1) := fun W h => by
    rw [hdH.out]; exact (h.cell (p := ⟨w.heap.size + 1, 0, none⟩) (by simp; omega)).trans bR.cell
  refine wpIn_rangeFunc_ownG (F := Fence.wide) (n := 7) rfl (by decide) (gf := 79) (lb := #[.pointer (some ⟨w.heap.size + 1 + 1, 0, none⟩)]) rfl trivial (enters_of Try.func79 (by kernel_rfl) rfl)
    (words_stops Fence.wide 6 trivial rfl (by decide) (w.heap.size + 1 + 1) (w.heap.size + 2) _ 1 [(A1, c1, l1)] (BelowX (w.heap.size + 2) w.heap.size) W0 (by omega) (by omega) bN.cell (Parts.of1 _ (by omega) (hRow _ (Below.refl _ _)) (hy1.more (by omega))) (fun W => BelowX.refl _ _ W) BelowX.trans
      (fun W W' h hb => Parts.of1 _ (by omega) ((hb.cell (p := ⟨w.heap.size + 1, 0, none⟩) (by simp) (by simp)).trans (hRow _ h)) ((hy1.below h (by omega)).belowX hb (by omega) (by omega))))
    BelowX.trans (belowX_b (by omega)) (Below.refl _ _) (fun _ => rfl)
    (fun pre W => (W.cell? ⟨w.heap.size, 0, none⟩ = some (.int .u16 (fold n (neg (ints pre)))) ∧ W.frozen? ⟨w.heap.size, 0, none⟩ = false) ∧ Below w.heap.size w W)
    (fun _ _ _ => False)
    (OwnFrom.and (Own.from (fun s A B row hs hg hr => ⟨cell_kept hs.1 hg hr, (frozen_kept hs.1 hg hr).trans hs.2⟩) _) (ownFrom_below (Nat.le_refl _) (by omega)))
    (fun _ _ _ _ _ hs _ _ => hs)
    ⟨⟨bS.cell, bS.frozen⟩, hB0⟩
    ?a1 ?assign ?body ?done ?stop
  case assign =>
    intro l x W K hK
    gi_wp2
    exact hK
  case body =>
    rintro l pre x W ⟨⟨hc, hf⟩, hB⟩ _
    have hr := fold_neg_w16 n hn pre
    have hx := x.2
    have hnot := not_u16 x.1 x.2.1 x.2.2
    gi_wp2_with (refine ⟨trivial, ?_⟩; gi_at_call 78; refine (CallsIn.inRound l (callsIn_wide.2 (add_any _ _ _ hr.1 hr.2 (by omega) (by omega)))).mono ?_; rintro e w' ⟨rfl, rfl⟩)
    exact ⟨(KeepsOthers.setCell _ _ _).from _, (BelowX.refl _ _ W).setCell (p := ⟨w.heap.size, 0, none⟩) rfl _, ⟨by rw [ints_snoc, neg_snoc, fold_snoc]; exact World.cell?_setCell_same' _ _ _ (by rw [hc]; rfl), by rw [World.frozen?_setCell]; exact hf⟩, hB.setCell (p := ⟨w.heap.size, 0, none⟩) (Nat.le_refl _) _⟩
  case stop =>
    rintro D c pre W _ _ h _
    exact h.elim
  case done =>
    rintro D ys W hD hys ⟨⟨hc, hf⟩, hB⟩ hK
    have hsD : D < W.heap.size := (Array.getElem?_eq_some_iff.1 hK).1
    have hr := fold_neg_w16 n hn ys
    have hv : flat [(A1, c1, l1)] = l1 := by simp [flat]
    rw [hv] at hys
    rw [hys] at hc hr
    clear hys hv bS bN bR hRow hy1
    gi_wp2_with (refine ⟨trivial, ?_⟩; gi_at_call 77; refine (words_in Fence.wide _ trivial rfl _ _ _ _).mono ?_; rintro e w' ⟨rfl, rfl⟩)
    obtain ⟨W2, hW2⟩ : ∃ W2, ((W.alloc (.cells #[.slice A2 l2.length c2] 24)).alloc (.cells #[Value.slice (some ⟨W.heap.size, 0, none⟩) 1 1] 44)) = W2 := ⟨_, rfl⟩
    have hz2 : W2.heap.size = W.heap.size + 2 := by rw [← hW2]; simp
    have bN := Boxed.new (W.alloc (.cells #[.slice A2 l2.length c2] 24)) 44 (Value.slice (some ⟨W.heap.size, 0, none⟩) 1 1)
    have bR := (Boxed.new W 24 (.slice A2 l2.length c2)).alloc (.cells #[Value.slice (some ⟨W.heap.size, 0, none⟩) 1 1] 44)
    have hBW : Below W.heap.size W ((W.alloc (.cells #[.slice A2 l2.length c2] 24)).alloc (.cells #[Value.slice (some ⟨W.heap.size, 0, none⟩) 1 1] 44)) := ((Below.refl _ W).alloc (Nat.le_refl _) _).alloc (by simp) _
    simp only [World.size_alloc] at bN
    rw [hW2] at bN bR hBW ⊢
    clear hW2
    have hwW : w.heap.size + 3 ≤ W.heap.size := by omega
    have hB2 : Below w.heap.size w W2 := hB.trans (hBW.mono hB.size)
    have hcX : W2.cell? ⟨w.heap.size, 0, none⟩ = some (.int .u16 (fold n (neg (wds l1)))) := (hBW.cell (p := ⟨w.heap.size, 0, none⟩) (by simp; omega)).trans hc
    have hfX : W2.frozen? ⟨w.heap.size, 0, none⟩ = false := (hBW.frozen (p := ⟨w.heap.size, 0, none⟩) (by simp; omega)).trans hf
    have hK2 : W2.heap[D]? = some (.deferred (some [])) := (hBW.block D hsD).trans hK
    have hy2 : By w.heap.size W2 A2 l2.length c2 l2 := h2.below hB2 (Nat.le_refl _)
    have hRow : ∀ X, Below W2.heap.size W2 X → X.cell? ⟨W.heap.size, 0, none⟩ = some (.slice A2 l2.length c2) := fun X h => (h.cell (p := ⟨W.heap.size, 0, none⟩) (by simp; omega)).trans bR.cell
    clear hc hf hK
    refine wpIn_rangeFunc_ownG (F := Fence.wide) (n := 7) rfl (by decide) (gf := 79) (lb := #[.pointer (some ⟨W.heap.size + 1, 0, none⟩)]) rfl trivial (enters_of Try.func79 (by kernel_rfl) rfl)
      (words_stops Fence.wide 6 trivial rfl (by decide) (W.heap.size + 1) (W.heap.size + 1) _ 1 [(A2, c2, l2)] (BelowX (W.heap.size + 1) w.heap.size) W2 (by omega) (by omega) bN.cell (Parts.of1 _ (by omega) (hRow _ (Below.refl _ _)) (hy2.more (by omega))) (fun W => BelowX.refl _ _ W) BelowX.trans
        (fun X X' h hb => Parts.of1 _ (by omega) ((hb.cell (p := ⟨W.heap.size, 0, none⟩) (by simp) (by simp; omega)).trans (hRow _ h)) ((hy2.below h (by omega)).belowX hb (by omega) (by omega))))
      BelowX.trans (belowX_b (by omega)) (Below.refl _ _) (fun _ => rfl)
      (fun pre W => ((W.cell? ⟨w.heap.size, 0, none⟩ = some (.int .u16 (fold (fold n (neg (wds l1))) (ints pre))) ∧ W.frozen? ⟨w.heap.size, 0, none⟩ = false) ∧ Below w.heap.size w W) ∧ W.heap[D]? = some (.deferred (some [])))
      (fun _ _ _ => False)
      (OwnFrom.and (OwnFrom.and (Own.from (fun s A B row hs hg hr => ⟨cell_kept hs.1 hg hr, (frozen_kept hs.1 hg hr).trans hs.2⟩) _) (ownFrom_below (Nat.le_refl _) (by omega))) (ownFrom_heap (by omega)))
      (fun _ _ _ _ _ hs _ _ => hs)
      ⟨⟨⟨hcX, hfX⟩, hB2⟩, hK2⟩
      ?a2 ?assign2 ?body2 ?done2 ?stop2
    case assign2 =>
      intro l x W K hK
      gi_wp2
      exact hK
    case body2 =>
      rintro l pre x X ⟨⟨⟨hc, hf⟩, hB⟩, hKX⟩ _
      have hr2 := fold_w16 (fold n (neg (wds l1))) hr pre
      have hx := x.2
      gi_wp2_with (refine ⟨trivial, ?_⟩; gi_at_call 78; refine (CallsIn.inRound l (callsIn_wide.2 (add_any _ _ _ hr2.1 hr2.2 hx.1 hx.2))).mono ?_; rintro e w' ⟨rfl, rfl⟩)
      exact ⟨(KeepsOthers.setCell _ _ _).from _, (BelowX.refl _ _ X).setCell (p := ⟨w.heap.size, 0, none⟩) rfl _, ⟨⟨by rw [ints_snoc, fold_snoc]; exact World.cell?_setCell_same' _ _ _ (by rw [hc]; rfl), by rw [World.frozen?_setCell]; exact hf⟩, hB.setCell (p := ⟨w.heap.size, 0, none⟩) (Nat.le_refl _) _⟩, (KeepsOthers.setCell _ _ _).same D _ hKX rfl⟩
    case stop2 =>
      rintro D c pre W _ _ h _
      exact h.elim
    case done2 =>
      rintro D2 ys2 X hD2 hys ⟨⟨⟨hc, hf⟩, hB⟩, hKX⟩ hK
      have hv : flat [(A2, c2, l2)] = l2 := by simp [flat]
      rw [hv] at hys
      rw [hys] at hc
      clear hys hv hcX hfX hK2 bN bR
      gi_wp2
      have hK1 : (X.putObj D2 (.deferred none)).heap[D]? = some (.deferred (some [])) := (World.putObj_heap_other (by omega)).trans hKX
      refine ⟨by simp, .inl ⟨_, _, rfl, run_takeDeferred hK, ⟨by simp, .inl ⟨_, _, rfl, run_takeDeferred hK1, ?_⟩⟩⟩⟩
      refine ⟨_, results_tmp2 rfl _ _ _, rfl, ?_⟩
      exact (hB.trans (belowK_b (w := w) (Nat.le_refl _) X D2 _ _ (by omega) hK rfl rfl)).trans (belowK_b (w := w) (Nat.le_refl _) _ D _ _ (by omega) hK1 rfl rfl)

/-- a result word and an error's number that read as said -/
def Two (p : Int × Int) (e : Ending) : Prop := ∃ q er : Int, e = .returned (.tuple #[.int .u16 q, .int .i64 er]) ∧ Hid (q = p.1 ∧ er = p.2)
theorem Two.mk {p : Int × Int} {q er : Int} (h1 : q = p.1) (h2 : er = p.2) : Two p (.returned (.tuple #[.int .u16 q, .int .i64 er])) := ⟨q, er, rfl, Lib.hid ⟨h1, h2⟩⟩

theorem changed_any (n : Int) (hn : 0 ≤ n ∧ n < 65536) (A1 A2 : Option Addr) (c1 c2 : Nat) (l1 l2 : List Int) (w : World) (h1 : By w.heap.size w A1 l1.length c1 l1) (h2 : By w.heap.size w A2 l2.length c2 l2) :
    Calls Try.prog 72 #[.int .u16 n, .slice A1 l1.length c1, .slice A2 l2.length c2] w fun e W' => Two (changedS n l1 l2) e ∧ Below w.heap.size w W' := by
  unfold changedS
  by_cases hd : l1.length = l2.length ∧ l2.length % 2 = 0
  · rw [if_pos hd]
    exact (changed_ok n hn A1 A2 c1 c2 l1 l2 w h1 h2 hd.1 hd.2).mono fun e w' ⟨he, hb⟩ => ⟨by rw [he]; exact Two.mk rfl rfl, hb⟩
  · rw [if_neg hd]
    exact (changed_err n A1 A2 c1 c2 l1 l2 w hd).mono fun e w' ⟨he, hb⟩ => ⟨by rw [he]; exact Two.mk rfl rfl, hb⟩

theorem changed_one (n : Int) (hn : 0 ≤ n ∧ n < 65536) (A1 A2 : Option Addr) (c1 c2 : Nat) (l1 l2 : List Int) (w : World) (h1 : By w.heap.size w A1 l1.length c1 l1) (h2 : By w.heap.size w A2 l2.length c2 l2) (hd : l1.length = l2.length ∧ l2.length % 2 = 0) :
    Calls Try.prog 72 #[.int .u16 n, .slice A1 l1.length c1, .slice A2 l2.length c2] w fun e W' => ∃ q : Int, e = .returned (.tuple #[.int .u16 q, .int .i64 0]) ∧ Hid (q = (changedS n l1 l2).1) ∧ (0 ≤ q ∧ q < 65536) ∧ Below w.heap.size w W' := by
  refine (changed_ok n hn A1 A2 c1 c2 l1 l2 w h1 h2 hd.1 hd.2).mono fun e w' ⟨he, hb⟩ => ⟨_, he, Lib.hid ?_, ?_, hb⟩
  · unfold changedS; rw [if_pos hd]
  · exact fold_rng _ (fold_rng _ hn _ (neg_rng _ (wds_rng _ h1.rng))) _ (wds_rng _ h2.rng)

/-- sum.Update -/
def updateS (was : Int) (f t : List Int) : Int × Int := if f.length = t.length ∧ t.length % 2 = 0 then (65535 - (changedS (65535 - was) f t).1, 0) else (0, 10)

theorem update_any (was : Int) (hn : 0 ≤ was ∧ was < 65536) (A1 A2 : Option Addr) (c1 c2 : Nat) (l1 l2 : List Int) (w : World) (h1 : By w.heap.size w A1 l1.length c1 l1) (h2 : By w.heap.size w A2 l2.length c2 l2) :
    Calls Try.prog 62 #[.int .u16 was, .slice A1 l1.length c1, .slice A2 l2.length c2] w fun e W' => Two (updateS was l1 l2) e ∧ Below w.heap.size w W' := by
  have hnot := not_u16 was hn.1 hn.2
  have hsg : IntKind.u16.signed = false := rfl
  by_cases hd : l1.length = l2.length ∧ l2.length % 2 = 0
  · have hdH := Lib.hid hd
    clear hd
    go_enter Try.func62, Try.ntmps62
    go_wp2_with (go_at_call 72; refine (changed_one (65535 - was) (by omega) _ _ _ _ _ _ _ h1 h2 hdH.out).mono ?_; rintro e w' ⟨q, rfl, hq, hr, hb⟩)
    have hnot2 := not_u16 q hr.1 hr.2
    go_ret2
    refine ⟨Two.mk ?_ ?_, hb⟩
    · unfold updateS; rw [if_pos hdH.out, ← hq.out]; exact hnot2
    · unfold updateS; rw [if_pos hdH.out]
  · go_enter Try.func62, Try.ntmps62
    go_wp2_with (go_at_call 72; refine (changed_err (65535 - was) _ _ _ _ _ _ _ hd).mono ?_; rintro e w' ⟨rfl, hb⟩)
    go_ret2
    refine ⟨Two.mk ?_ ?_, hb⟩
    · unfold updateS; rw [if_neg hd]
    · unfold updateS; rw [if_neg hd]

theorem changedS_rng (n : Int) (hn : 0 ≤ n ∧ n < 65536) (l1 l2 : List Int) (h1 : InB l1) (h2 : InB l2) : 0 ≤ (changedS n l1 l2).1 ∧ (changedS n l1 l2).1 < 65536 := by
  unfold changedS
  split
  · exact fold_rng _ (fold_rng _ hn _ (neg_rng _ (wds_rng _ h1))) _ (wds_rng _ h2)
  · simp
theorem updateS_rng (n : Int) (hn : 0 ≤ n ∧ n < 65536) (l1 l2 : List Int) (h1 : InB l1) (h2 : InB l2) : 0 ≤ (updateS n l1 l2).1 ∧ (updateS n l1 l2).1 < 65536 := by
  unfold updateS changedS
  split
  · have := fold_rng _ (fold_rng _ (show 0 ≤ 65535 - n ∧ 65535 - n < 65536 by omega) _ (neg_rng _ (wds_rng _ h1))) _ (wds_rng _ h2)
    simp only
    omega
  · simp
end Go.Proofs.Ytaobnbjkhgcmlaa
end

section
/-
  The walk of the reference's Update.
-/
namespace Go.Proofs.Ytaobnbjkhgcmlaa
open Go.RowKit Go.Shelf

theorem even_t (A1 A2 : Option Addr) (c1 c2 : Nat) (l1 l2 : List Int) (w : World) (h : l1.length = l2.length ∧ l2.length % 2 = 0) :
    Calls Try.prog 73 #[.slice A1 l1.length c1, .slice A2 l2.length c2] w fun e W' => e = .returned (.bool true) ∧ w = W' := by
  obtain ⟨h1, h2⟩ := h
  rw [h1]
  have hm : ((l2.length : Int) % 2 == 0) = true := by simp; omega
  clear h1
  go_enter Try.func73, Try.ntmps73
  go_wp2
  go_ret
  exact ⟨rfl, rfl⟩
theorem even_f (A1 A2 : Option Addr) (c1 c2 : Nat) (l1 l2 : List Int) (w : World) (h : ¬ (l1.length = l2.length ∧ l2.length % 2 = 0)) :
    Calls Try.prog 73 #[.slice A1 l1.length c1, .slice A2 l2.length c2] w fun e W' => e = .returned (.bool false) ∧ w = W' := by
  by_cases h1 : l1.length = l2.length
  · rw [h1]
    have hm : ((l2.length : Int) % 2 == 0) = false := by simp; omega
    clear h1 h
    go_enter Try.func73, Try.ntmps73
    go_wp2
    go_ret
    exact ⟨rfl, rfl⟩
  · have hm : ((l1.length : Int) == (l2.length : Int)) = false := by simp; omega
    clear h
    go_enter Try.func73, Try.ntmps73
    go_wp2
    go_ret
    exact ⟨rfl, rfl⟩

theorem wpW (l : List Int) (hl : InB l) : ∀ x ∈ wds l, 0 ≤ x ∧ x < 65536 := wds_rng l hl

/-- the end of both: a fold of what was collected -/
theorem take_neg_succ {l : List Int} {k : Nat} (h : k < l.length) : neg (l.take (k + 1)) = neg (l.take k) ++ [65535 - l[k]] := by rw [List.take_succ_eq_append_getElem h, neg_snoc]
theorem neg_length (l : List Int) : (neg l).length = l.length := by simp [neg]

set_option maxHeartbeats 1000000 in
theorem rupdate_any (was : Int) (hn : 0 ≤ was ∧ was < 65536) (A1 A2 : Option Addr) (c1 c2 : Nat) (l1 l2 : List Int) (w : World) (h1 : By w.heap.size w A1 l1.length c1 l1) (h2 : By w.heap.size w A2 l2.length c2 l2) (hbig : l1.length ≤ 4398046511104 ∧ l2.length ≤ 4398046511104) :
    Calls Try.prog 63 #[.int .u16 was, .slice A1 l1.length c1, .slice A2 l2.length c2] w fun e W' => Two (updateS was l1 l2) e ∧ Below w.heap.size w W' := by
  have hbl1 := wds_len l1
  have hbl2 := wds_len l2
  by_cases hd : l1.length = l2.length ∧ l2.length % 2 = 0
  · have hS : updateS was l1 l2 = (65535 - fold 0 ([65535 - was] ++ neg (wds l1) ++ wds l2), 0) := by
      unfold updateS changedS; rw [if_pos hd, if_pos hd, rupdate_eq was hn l1 l2 h1.rng h2.rng]
    have hSH := Lib.hid hS
    clear hS
    have hdH := Lib.hid hd
    clear hd
    have hr1 := wds_rng l1 h1.rng
    have hr2 := wds_rng l2 h2.rng
    go_enter Try.func63, Try.ntmps63
    go_wp2_with fail
    refine (even_t _ _ _ _ _ _ _ hdH.out).mono ?_
    rintro e w1 ⟨rfl, rfl⟩
    go_wp2_with fail
    have hW : Below w.heap.size w (w.alloc (.cells #[Value.int .i64 (65535 - was)] 3)) := (Below.refl _ _).alloc (Nat.le_refl _) _
    have hown0 : (w.alloc (.cells #[Value.int .i64 (65535 - was)] 3)).ownsRow w.heap.size 3 1 (.slice (some ⟨w.heap.size, 0, none⟩) 1 1) 1 (i64s [65535 - was]) :=
      ⟨rfl, .inr ⟨w.heap.size, 1, _, rfl, Nat.le_refl _, World.alloc_heap_new _ _, Nat.le_refl _, by simp only [maxLen]; omega, rfl, rfl⟩⟩
    refine (rwords_any _ _ _ l1 _ (h1.below hW (Nat.le_refl _)) hW.size (by omega)).mono ?_
    rintro e w2 ⟨v, rfl, hown2, hb2⟩
    obtain ⟨A4, c4, rfl, hc4⟩ := own_shape hown2
    have hB2 := hW.trans (hb2.mono hW.size)
    have hown1 := own_below hown0 hb2
    have hne := ne_new hown0 hown2 (Nat.le_refl _)
    clear hown0 hb2 h1
    generalize hA : wds l1 = b at *
    have hAH := Lib.hid hA
    clear hA
    go_wp2
    go_loopw [8, 10] (fun v i wr => ∃ k : Nat, k ≤ b.length ∧ i = .int .i64 k ∧ wr.ownsRow w.heap.size 3 1 v ([65535 - was] ++ neg (b.take k)).length (i64s ([65535 - was] ++ neg (b.take k))) ∧ Below w.heap.size w wr ∧ wr.ownsRow (w.heap.size + 1) 3 1 (.slice A4 b.length c4) b.length (i64s b) ∧ NeB v (.slice A4 b.length c4)) (fun _ i _ => b.length - (intOf i).toNat)
    case atStart => exact ⟨0, Nat.zero_le _, rfl, by simpa [neg] using hown1, hB2, by simpa using hown2, hne⟩
    case round =>
      clear hown1 hB2 hown2 hne
      obtain ⟨k, hk, rfl, hown, hB, hown2, hne⟩ := hrel
      by_cases hlt : k < b.length
      · obtain ⟨bb, off, u, hA4, hb, hu, hcell⟩ := (own_row hown2).get hlt
        subst hA4
        obtain rfl : u = .int .i64 b[k] := by simpa [i64s, List.getElem?_eq_getElem hlt] using hu.symm
        have hx := hr1 b[k] (List.getElem_mem hlt)
        have hst : [65535 - was] ++ neg (b.take (k + 1)) = [65535 - was] ++ neg (b.take k) ++ [65535 - b[k]] := by rw [take_neg_succ hlt, List.append_assoc]
        have hlen : ([65535 - was] ++ neg (b.take k)).length ≤ 1 + k := by rw [List.length_append, neg_length, List.length_take]; simp; omega
        have hstH := Lib.hid hst
        clear hst hu
        generalize b[k] = x at hcell hx hstH
        have hk63 : k < 9223372036854775807 := by omega
        generalize hL : [65535 - was] ++ neg (b.take k) = L at hown hlen hstH
        clear hL
        go_wp2_with (at_builtin; refine wpList_appRow _ rfl _ _ _ rfl _ _ 8 Try.underlying78 info3 rfl _ _ _ _ rfl (hown.alloc _) _ _ _ _ (i64s [65535 - x]) rfl (Row.blk (t := 3) (fz := (0, 0)) (Has.newAt rfl) (Nat.le_refl _) rfl rfl) (i64s_one _) (by simp only [maxLen]; omega) (by omega) (by simp; have := hB.size; omega) ?_; intro v' w' hown' hg hat; have hB' := hB.trans (((Below.refl _ _).alloc hB.size _).grown hg (by simp; have := hB.size; omega) (fun k hk => (hown.lt k hk).1)))
        go_roundw
        case rel => exact ⟨k + 1, by omega, by go_num, by rw [hstH.out, List.length_append, i64s_append]; exact hown', hB', own_keep2 (hown2.alloc _) hne hg, ne_app (hown2.alloc _) hne (Nat.le_refl _) hat⟩
        case measure => simp [intOf]; omega
      · obtain rfl : k = b.length := by omega
        rw [List.take_length] at hown
        clear hown2 hne
        have hlen : ([65535 - was] ++ neg b).length = 1 + b.length := by rw [List.length_append, neg_length]; simp
        have hr3 : ∀ x ∈ [65535 - was] ++ neg b, 0 ≤ x ∧ x < 65536 := fun x hx => (List.mem_append.1 hx).elim (fun h => by simp at h; omega) (neg_rng _ hr1 x)
        generalize [65535 - was] ++ neg b = L at *
        have hlenH := Lib.hid hlen
        clear hlen
        obtain ⟨A5, c5, rfl, hc5⟩ := own_shape hown
        go_wp2_with fail
        refine (rwords_any _ _ _ l2 _ (h2.below hB (Nat.le_refl _)) hB.size (by omega)).mono ?_
        rintro e w3 ⟨v3, rfl, hown3, hb3⟩
        obtain ⟨A6, c6, rfl, hc6⟩ := own_shape hown3
        have hB3 := hB.trans (hb3.mono hB.size)
        have hownL := own_below hown hb3
        have hrow3 := own_row hown3
        generalize wds l2 = ws2 at *
        go_wp2_with (at_builtin; refine wpList_appRow _ rfl _ _ _ rfl _ _ 8 Try.underlying78 info3 rfl _ _ _ _ rfl hownL _ _ _ _ _ rfl hrow3 (i64s_one _) (by have := hlenH.out; simp only [maxLen]; omega) (by have := hlenH.out; omega) hB3.size ?_; intro v' w' hown' hg hat; have hB' := hB3.trans (below_own hownL hg hB3.size); rw [← i64s_append, ← List.length_append] at hown'; obtain ⟨L2, hL2⟩ : ∃ L2, L ++ ws2 = L2 := ⟨_, rfl⟩; rw [hL2] at hown'; have hL2H := Lib.hid hL2; clear hL2; obtain ⟨A7, c7, rfl, hc7⟩ := own_shape hown')
        have hsum : ∀ x ∈ L2, 0 ≤ x ∧ x < 65536 := fun x hx => by rw [← hL2H.out] at hx; exact (List.mem_append.1 hx).elim (hr3 x) (hr2 x)
        have hrng := fold_rng 0 (by omega) _ hsum
        refine (added_any _ _ _ _ _ (own_row hown') hc7 hsum).mono ?_
        rintro e w4 ⟨rfl, rfl⟩
        go_wp2
        go_ret2
        refine ⟨Two.mk ?_ ?_, hB'⟩
        · rw [hSH.out, hL2H.out]
        · rw [hSH.out]
  · have hdH := Lib.hid hd
    clear hd
    go_enter Try.func63, Try.ntmps63
    go_wp2_with fail
    refine (even_f _ _ _ _ _ _ _ hdH.out).mono ?_
    rintro e w1 ⟨rfl, rfl⟩
    go_wp2
    go_ret2
    refine ⟨Two.mk ?_ ?_, Below.refl _ _⟩
    · unfold updateS; rw [if_neg hdH.out]
    · unfold updateS; rw [if_neg hdH.out]
end Go.Proofs.Ytaobnbjkhgcmlaa
end

section
/-
  Bytes with other ports and addresses: in plain numbers.
-/
namespace Go.Proofs.Ytaobnbjkhgcmlaa
open Go.RowKit

def rwErr (proto : Int) (l f t : List Int) : Int := if proto ≠ 6 ∧ proto ≠ 17 then 64 else if l.length < 4 then 60 else if ¬ (f.length = t.length ∧ t.length % 2 = 0) then 10 else 0
def rwAt (proto : Int) : Nat := if proto = 6 then 16 else 6
def rwPorts (src dst : Int) : List Int := [src / 256, src % 256, dst / 256, dst % 256]
def rwOut (l : List Int) (src dst : Int) : List Int := rwPorts src dst ++ l.drop 4
def rwNone (proto : Int) (l : List Int) : Prop := l.length < rwAt proto + 2 ∨ (proto = 17 ∧ be2 l (rwAt proto) = 0)
def rwSum1 (proto : Int) (l f t : List Int) (src dst : Int) : Int := (updateS (updateS (be2 l (rwAt proto)) f t).1 (l.take 4) (rwPorts src dst)).1
def rwSum (proto : Int) (l f t : List Int) (src dst : Int) : Int := if rwSum1 proto l f t src dst = 0 ∧ proto = 17 then 65535 else rwSum1 proto l f t src dst
instance (proto : Int) (l : List Int) : Decidable (rwNone proto l) := by unfold rwNone; exact inferInstance
def rwBytes (proto : Int) (l f t : List Int) (src dst : Int) : List Int :=
  if rwErr proto l f t ≠ 0 then [] else if rwNone proto l then rwOut l src dst else set2 (rwOut l src dst) (rwAt proto) (rwSum proto l f t src dst)
theorem rwOut_len {l : List Int} (h : 4 ≤ l.length) (src dst : Int) : (rwOut l src dst).length = l.length := by simp [rwOut, rwPorts]; omega
theorem rwOut_set {l : List Int} (h : 4 ≤ l.length) (src dst : Int) : set2 (set2 l 0 src) 2 dst = rwOut l src dst := by
  match l, h with
  | a :: b :: c :: d :: r, _ => rfl
theorem rwOut_take {l : List Int} (src dst : Int) : (rwOut l src dst).take 4 = rwPorts src dst := rfl
theorem rwPorts_rng {src dst : Int} (hs : 0 ≤ src ∧ src < 65536) (hd : 0 ≤ dst ∧ dst < 65536) : InB (rwPorts src dst) := by
  intro x hx
  simp only [rwPorts, List.mem_cons, List.not_mem_nil, or_false] at hx
  omega
theorem rwSum1_rng {proto : Int} {l f t : List Int} {src dst : Int} (hl : InB l) (hf : InB f) (ht : InB t) (hs : 0 ≤ src ∧ src < 65536) (hd : 0 ≤ dst ∧ dst < 65536) : 0 ≤ rwSum1 proto l f t src dst ∧ rwSum1 proto l f t src dst < 65536 :=
  updateS_rng _ (updateS_rng _ (be2_rng hl _) f t hf ht) _ _ (hl.take 4) (rwPorts_rng hs hd)
end Go.Proofs.Ytaobnbjkhgcmlaa
end

section
/-
  What is written is parsed as the same: in plain numbers.
-/
namespace Go.Proofs.Ytaobnbjkhgcmlaa
open Go.RowKit

theorem nz_ne (s : Int) : nz s ≠ 0 := by unfold nz; split <;> omega
theorem DU.bytes_eq (u : DU) (ps : List Int) : u.bytes ps = u.src / 256 :: u.src % 256 :: u.dst / 256 :: u.dst % 256 :: (8 + u.bl.length : Int) / 256 :: (8 + u.bl.length : Int) % 256 :: u.sum ps / 256 :: u.sum ps % 256 :: u.bl := by
  simp [DU.bytes, DU.first]
theorem DU.back (u : DU) (hu : u.ok) (h : u.bl.length ≤ 65527) (ps : List Int) (hp : InB ps) (hb : InB u.bl) (he : ps.length % 2 = 0) (must : Bool) :
    uErr must ps (u.bytes ps) = 0 ∧ uGot must ps (u.bytes ps) = u ∧ uNone must ps (u.bytes ps) = false := by
  have hs := u.sum_rng hu h hp hb
  have hsum := u.sum_right hu h ps hp hb he
  have hl : (u.bytes ps).length = 8 + u.bl.length := u.bytes_len ps
  have h4 : be2 (u.bytes ps) 4 = (u.bytes ps).length := by rw [hl, DU.bytes_eq]; simp only [be2, List.getD_cons_succ, List.getD_cons_zero]; omega
  have h6 : be2 (u.bytes ps) 6 = u.sum ps := by rw [DU.bytes_eq]; simp only [be2, List.getD_cons_succ, List.getD_cons_zero]; omega
  have h0 : be2 (u.bytes ps) 0 = u.src := by rw [DU.bytes_eq]; simp only [be2, List.getD_cons_succ, List.getD_cons_zero]; omega
  have h2 : be2 (u.bytes ps) 2 = u.dst := by rw [DU.bytes_eq]; simp only [be2, List.getD_cons_succ, List.getD_cons_zero]; omega
  have hd : (u.bytes ps).drop 8 = u.bl := by rw [DU.bytes_eq]; rfl
  have hne : u.sum ps ≠ 0 := nz_ne _
  have hz : uErr must ps (u.bytes ps) = 0 := by
    unfold uErr
    rw [if_neg (by omega), if_neg (by rw [h4]; simp), h6, if_neg (by simp [hne, hsum])]
  refine ⟨hz, ?_, ?_⟩
  · rw [(uGot_ok hz).1, uOf, h0, h2, hd]
  · rw [(uGot_ok hz).2, h6]; simp [hne]
theorem DT.bytes_eq (t : DT) (ps : List Int) : t.bytes ps = t.first (t.sum ps) ++ (t.ol ++ t.bl) := by simp [DT.bytes]
theorem getD_app {l m : List Int} {i : Nat} (h : i < l.length) : (l ++ m).getD i 0 = l.getD i 0 := by
  rw [List.getD_eq_getElem?_getD, List.getD_eq_getElem?_getD, List.getElem?_append_left h]
theorem be2_app {l m : List Int} {i : Nat} (h : i + 1 < l.length) : be2 (l ++ m) i = be2 l i := by unfold be2; rw [getD_app (by omega), getD_app h]
theorem be4_app {l m : List Int} {i : Nat} (h : i + 3 < l.length) : be4 (l ++ m) i = be4 l i := by unfold be4; rw [be2_app (by omega), be2_app (by omega)]
theorem DT.back (t : DT) (ht : t.ok) (hc : t.check = 0) (ps : List Int) (hp : InB ps) (ho : InB t.ol) (hb : InB t.bl) (he : ps.length % 2 = 0) :
    tErr ps (t.bytes ps) = 0 ∧ tGot ps (t.bytes ps) = t := by
  obtain ⟨k1, k2, k3, k4⟩ := DT.small hc
  have hs := t.sum_rng' ht k1 hp ho hb
  have hsum := t.sum_right ht k1 ps hp ho hb he
  have hl : (t.bytes ps).length = 20 + t.ol.length + t.bl.length := t.bytes_len ps
  have hf : (t.first (t.sum ps)).length = 20 := rfl
  have r1 := ht.src; have r2 := ht.dst; have r3 := ht.seq; have r4 := ht.ack; have r5 := ht.flags; have r6 := ht.window; have r7 := ht.urgent
  have g12 : (t.bytes ps).getD 12 0 = (20 + t.ol.length : Int) / 4 * 16 := by rw [DT.bytes_eq, getD_app (by rw [hf]; decide)]; rfl
  have g13 : (t.bytes ps).getD 13 0 = t.flags := by rw [DT.bytes_eq, getD_app (by rw [hf]; decide)]; rfl
  have g0 : be2 (t.bytes ps) 0 = t.src := by rw [DT.bytes_eq, be2_app (by rw [hf]; decide)]; show t.src / 256 * 256 + t.src % 256 = _; omega
  have g2 : be2 (t.bytes ps) 2 = t.dst := by rw [DT.bytes_eq, be2_app (by rw [hf]; decide)]; show t.dst / 256 * 256 + t.dst % 256 = _; omega
  have g4 : be4 (t.bytes ps) 4 = t.seq := by rw [DT.bytes_eq, be4_app (by rw [hf]; decide)]; show (t.seq / 16777216 * 256 + t.seq / 65536 % 256) * 65536 + (t.seq / 256 % 256 * 256 + t.seq % 256) = _; omega
  have g8 : be4 (t.bytes ps) 8 = t.ack := by rw [DT.bytes_eq, be4_app (by rw [hf]; decide)]; show (t.ack / 16777216 * 256 + t.ack / 65536 % 256) * 65536 + (t.ack / 256 % 256 * 256 + t.ack % 256) = _; omega
  have g14 : be2 (t.bytes ps) 14 = t.window := by rw [DT.bytes_eq, be2_app (by rw [hf]; decide)]; show t.window / 256 * 256 + t.window % 256 = _; omega
  have g18 : be2 (t.bytes ps) 18 = t.urgent := by rw [DT.bytes_eq, be2_app (by rw [hf]; decide)]; show t.urgent / 256 * 256 + t.urgent % 256 = _; omega
  have hh : tHead (t.bytes ps) = 20 + t.ol.length := by unfold tHead; rw [g12]; omega
  have hn : (tHead (t.bytes ps)).toNat = 20 + t.ol.length := by rw [hh]; omega
  have ho1 : ((t.bytes ps).take (20 + t.ol.length)).drop 20 = t.ol := by
    rw [DT.bytes_eq, List.take_append, hf, List.take_of_length_le (by rw [hf]; omega), show 20 + t.ol.length - 20 = t.ol.length from by omega, List.take_append_of_le_length (Nat.le_refl _), List.take_length, List.drop_append, hf, List.drop_of_length_le (by rw [hf]; exact Nat.le_refl _)]
    rfl
  have hb1 : (t.bytes ps).drop (20 + t.ol.length) = t.bl := by
    rw [DT.bytes_eq, List.drop_append, hf, List.drop_of_length_le (by rw [hf]; omega), show 20 + t.ol.length - 20 = t.ol.length from by omega, List.drop_append_of_le_length (Nat.le_refl _), List.drop_length]
    rfl
  have hz : tErr ps (t.bytes ps) = 0 := by
    unfold tErr
    rw [if_neg (by omega), hh, if_neg (by omega), if_neg (by omega), if_neg (by simp [hsum])]
  refine ⟨hz, ?_⟩
  rw [tGot_ok hz, tOf, hn, g0, g2, g4, g8, g13, g14, g18, ho1, hb1, show t.flags % 64 = t.flags from by omega]
end Go.Proofs.Ytaobnbjkhgcmlaa
end

section
/-
  What is written over some addresses and rewritten for others is, over these, the same but for its ports: in plain numbers.
-/
namespace Go.Proofs.Ytaobnbjkhgcmlaa
open Go.RowKit

/-- the checksum behind a change, as a residue -/
theorem update_mod {s : Int} (hs : 0 ≤ s ∧ s < 65536) {f t : List Int} (hf : InB f) (ht : InB t) (hl : f.length = t.length) (he : t.length % 2 = 0) :
    (updateS s f t).1 % 65535 = (s + wt f - wt t) % 65535 := by
  have hc : (updateS s f t).1 = 65535 - fold (fold (65535 - s) (neg (wds f))) (wds t) := by
    unfold updateS changedS
    rw [if_pos ⟨hl, he⟩, if_pos ⟨hl, he⟩]
  have h1 := neg_rng _ (wds_rng f hf)
  have h2 := wds_rng t ht
  have n1 := tot_nonneg _ h1
  have n2 := tot_nonneg _ h2
  rw [hc, fold_tot (65535 - s) (by omega) _ h1, fold_cs _ h2 _ (by omega)]
  have hm := cs_mod (65535 - s + tot (neg (wds f)) + tot (wds t)) (by omega)
  have e : tot (neg (wds f)) = 65535 * ((wds f).length : Int) - wt f := tot_neg (wds f)
  rw [e] at hm
  rw [e]
  have ew : tot (wds t) = wt t := rfl
  rw [ew] at hm ⊢
  omega
theorem cs_full {T : Int} (h : 0 < T) (hm : T % 65535 = 0) : cs T = 65535 := by unfold cs; rw [if_neg (by omega)]; omega
/-- a sum field n at a place behind which and ahead of which the words are even -/
theorem sum_field (A B : List Int) (n : Int) (hA : InB A) (hB : InB B) (hn : 0 ≤ n ∧ n < 65536) (he : A.length % 2 = 0) (hpos : 0 < wt A) (hm : (wt A + wt B + n) % 65535 = 0) : sumw (A ++ ([n / 256, n % 256] ++ B)) = 65535 := by
  have h2 : InB [n / 256, n % 256] := by
    intro x hx
    simp only [List.mem_cons, List.not_mem_nil, or_false] at hx
    omega
  have nB := wt_nonneg _ hB
  rw [sumw_wt _ (hA.app (h2.app hB)), wt_append _ _ he, wt_append _ _ (by simp), wt_two]
  exact cs_full (by omega) (by omega)

theorem wt_pse4 {a b : List Int} (ha : a.length = 4) (hb : b.length = 4) (n p : Int) : wt (pse4 a b n p) = wt a + wt b + p + (n / 256 * 256 + n % 256) := by
  unfold pse4
  rw [wt_append _ _ (by simp [ha, hb]), wt_append _ _ (by simp [ha]), show [0, p, n / 256, n % 256] = [0, p] ++ [n / 256, n % 256] from rfl, wt_append _ _ (by simp), wt_two, wt_two]
  omega
theorem wt_pse6 {a b : List Int} (ha : a.length = 16) (hb : b.length = 16) (n p : Int) : wt (pse6 a b n p) = wt a + wt b + p + (n / 256 * 256 + n % 256) := by
  unfold pse6
  rw [wt_append _ _ (by simp [ha, hb]), wt_append _ _ (by simp [ha]), show [0, 0, n / 256, n % 256, 0, 0, 0, p] = [0, 0] ++ ([n / 256, n % 256] ++ ([0, 0] ++ [0, p])) from rfl, wt_append _ _ (by simp), wt_append _ _ (by simp), wt_append _ _ (by simp), wt_two, wt_two, wt_two]
  omega
theorem wt_ports (s d : Int) : wt (rwPorts s d) = (s / 256 * 256 + s % 256) + (d / 256 * 256 + d % 256) := by
  unfold rwPorts
  rw [show [s / 256, s % 256, d / 256, d % 256] = [s / 256, s % 256] ++ [d / 256, d % 256] from rfl, wt_append _ _ (by simp), wt_two, wt_two]

/-- the datagram of UDP with other ports -/
def DU.to (u : DU) (src dst : Int) : DU := ⟨src, dst, u.bl⟩
theorem DU.nat (u : DU) (hu : u.ok) (h : u.bl.length ≤ 65527) (ps ps' f t : List Int) (src dst : Int) (hs : 0 ≤ src ∧ src < 65536) (hd : 0 ≤ dst ∧ dst < 65536) (hp : InB ps) (hp' : InB ps') (hf : InB f) (ht : InB t) (hb : InB u.bl)
    (he : ps.length % 2 = 0) (he' : ps'.length % 2 = 0) (hl : f.length = t.length) (hte : t.length % 2 = 0) (hw : wt ps - wt f = wt ps' - wt t) (hpos : 0 < wt ps') :
    rwErr 17 (u.bytes ps) f t = 0 ∧ uErr false ps' (rwBytes 17 (u.bytes ps) f t src dst) = 0 ∧ uErr true ps' (rwBytes 17 (u.bytes ps) f t src dst) = 0 ∧ uOf (rwBytes 17 (u.bytes ps) f t src dst) = u.to src dst ∧ (rwBytes 17 (u.bytes ps) f t src dst).length = 8 + u.bl.length := by
  have hsr := u.sum_rng hu h hp hb
  have hsum := u.sum_right hu h ps hp hb he
  have hlen : (u.bytes ps).length = 8 + u.bl.length := u.bytes_len ps
  have hne : u.sum ps ≠ 0 := nz_ne _
  have r1 := hu.src
  have r2 := hu.dst
  have hE : rwErr 17 (u.bytes ps) f t = 0 := by
    unfold rwErr
    rw [if_neg (by omega), if_neg (by omega), if_neg (by simp [hl, hte])]
  have h6 : be2 (u.bytes ps) 6 = u.sum ps := by rw [DU.bytes_eq]; simp only [be2, List.getD_cons_succ, List.getD_cons_zero]; omega
  have hN : ¬ rwNone 17 (u.bytes ps) := by
    unfold rwNone rwAt
    rw [if_neg (by decide), h6]
    omega
  -- the new sum
  obtain ⟨n, hn⟩ : ∃ n, rwSum 17 (u.bytes ps) f t src dst = n := ⟨_, rfl⟩
  have hrng := rwSum1_rng (proto := 17) (u.bytes_rng hu h hp hb) hf ht hs hd (l := u.bytes ps)
  have hP : InB ((u.bytes ps).take 4) := (u.bytes_rng hu h hp hb).take 4
  have hold : (u.bytes ps).take 4 = rwPorts u.src u.dst := by rw [DU.bytes_eq]; rfl
  have m1 := update_mod hsr hf ht hl hte
  have ru := updateS_rng _ hsr f t hf ht
  have m2 := update_mod ru (rwPorts_rng r1 r2) (rwPorts_rng hs hd) (by simp [rwPorts]) (by simp [rwPorts])
  have hs1 : rwSum1 17 (u.bytes ps) f t src dst = (updateS (updateS (u.sum ps) f t).1 (rwPorts u.src u.dst) (rwPorts src dst)).1 := by
    unfold rwSum1 rwAt
    rw [if_neg (by decide), h6, hold]
  have hnr : 0 ≤ n ∧ n < 65536 ∧ n ≠ 0 ∧ n % 65535 = rwSum1 17 (u.bytes ps) f t src dst % 65535 := by
    rw [← hn]
    unfold rwSum
    split <;> omega
  have hB : rwBytes 17 (u.bytes ps) f t src dst = src / 256 :: src % 256 :: dst / 256 :: dst % 256 :: (8 + u.bl.length : Int) / 256 :: (8 + u.bl.length : Int) % 256 :: n / 256 :: n % 256 :: u.bl := by
    unfold rwBytes
    rw [if_neg (by simp [hE]), if_neg hN, hn, DU.bytes_eq]
    rfl
  -- the totals
  have hX : (wt ps + (wt (rwPorts u.src u.dst) + (8 + u.bl.length : Int)) + u.sum ps + wt u.bl) % 65535 = 0 := by
    have hb2 := u.bytes_rng hu h hp hb
    rw [sumw_wt _ (hp.app hb2), wt_append _ _ he, DU.bytes_eq] at hsum
    have ew : wt (u.src / 256 :: u.src % 256 :: u.dst / 256 :: u.dst % 256 :: (8 + u.bl.length : Int) / 256 :: (8 + u.bl.length : Int) % 256 :: u.sum ps / 256 :: u.sum ps % 256 :: u.bl) = wt (rwPorts u.src u.dst) + (8 + u.bl.length : Int) + u.sum ps + wt u.bl := by
      rw [show (u.src / 256 :: u.src % 256 :: u.dst / 256 :: u.dst % 256 :: (8 + u.bl.length : Int) / 256 :: (8 + u.bl.length : Int) % 256 :: u.sum ps / 256 :: u.sum ps % 256 :: u.bl) = rwPorts u.src u.dst ++ ([(8 + u.bl.length : Int) / 256, (8 + u.bl.length : Int) % 256] ++ ([u.sum ps / 256, u.sum ps % 256] ++ u.bl)) from rfl,
        wt_append _ _ (by simp [rwPorts]), wt_append _ _ (by simp), wt_append _ _ (by simp), wt_two, wt_two]
      omega
    rw [ew] at hsum
    have nn : 0 ≤ wt ps + (wt (rwPorts u.src u.dst) + (8 + u.bl.length : Int) + u.sum ps + wt u.bl) := by
      have a1 := wt_nonneg _ hp
      have a2 := wt_nonneg _ (rwPorts_rng r1 r2)
      have a3 := wt_nonneg _ hb
      omega
    have := cs_mod _ nn
    rw [hsum] at this
    omega
  have hL : InB (rwPorts src dst ++ [(8 + u.bl.length : Int) / 256, (8 + u.bl.length : Int) % 256]) := (rwPorts_rng hs hd).app (by
    intro x hx
    simp only [List.mem_cons, List.not_mem_nil, or_false] at hx
    omega)
  have hwA : wt (ps' ++ (rwPorts src dst ++ [(8 + u.bl.length : Int) / 256, (8 + u.bl.length : Int) % 256])) = wt ps' + (wt (rwPorts src dst) + (8 + u.bl.length : Int)) := by
    rw [wt_append _ _ he', wt_append _ _ (by simp [rwPorts]), wt_two]
    omega
  have np := wt_nonneg _ hL
  rw [show wt (rwPorts src dst ++ [(8 + u.bl.length : Int) / 256, (8 + u.bl.length : Int) % 256]) = wt (rwPorts src dst) + (8 + u.bl.length : Int) from by rw [wt_append _ _ (by simp [rwPorts]), wt_two]; omega] at np
  have hsumN : sumw (ps' ++ rwBytes 17 (u.bytes ps) f t src dst) = 65535 := by
    have := sum_field (ps' ++ (rwPorts src dst ++ [(8 + u.bl.length : Int) / 256, (8 + u.bl.length : Int) % 256])) u.bl n (hp'.app hL) hb ⟨hnr.1, hnr.2.1⟩ (by simp [rwPorts]; omega) (by rw [hwA]; omega) (by
      rw [hwA]
      have h3 := hnr.2.2.2
      rw [hs1] at h3
      omega)
    rw [hB]
    rw [List.append_assoc] at this
    exact this
  have hlenB : (rwBytes 17 (u.bytes ps) f t src dst).length = 8 + u.bl.length := by rw [hB]; simp; omega
  have g4 : be2 (rwBytes 17 (u.bytes ps) f t src dst) 4 = (rwBytes 17 (u.bytes ps) f t src dst).length := by rw [hlenB, hB]; simp only [be2, List.getD_cons_succ, List.getD_cons_zero]; omega
  have g6 : be2 (rwBytes 17 (u.bytes ps) f t src dst) 6 = n := by rw [hB]; simp only [be2, List.getD_cons_succ, List.getD_cons_zero]; omega
  have g0 : be2 (rwBytes 17 (u.bytes ps) f t src dst) 0 = src := by rw [hB]; simp only [be2, List.getD_cons_succ, List.getD_cons_zero]; omega
  have g2 : be2 (rwBytes 17 (u.bytes ps) f t src dst) 2 = dst := by rw [hB]; simp only [be2, List.getD_cons_succ, List.getD_cons_zero]; omega
  have gd : (rwBytes 17 (u.bytes ps) f t src dst).drop 8 = u.bl := by rw [hB]; rfl
  refine ⟨hE, ?_, ?_, ?_, hlenB⟩
  · unfold uErr
    rw [if_neg (by omega), if_neg (by rw [g4]; simp), g6, if_neg (by simp [hnr.2.2.1, hsumN])]
  · unfold uErr
    rw [if_neg (by omega), if_neg (by rw [g4]; simp), g6, if_neg (by simp [hnr.2.2.1, hsumN])]
  · rw [uOf, g0, g2, gd]
    rfl
end Go.Proofs.Ytaobnbjkhgcmlaa
end

section
/-
  What is written over some addresses and rewritten for others is, over these, the same but for its ports: segments, in plain numbers.
-/
namespace Go.Proofs.Ytaobnbjkhgcmlaa
open Go.RowKit

def DT.to (t : DT) (src dst : Int) : DT := { t with src := src, dst := dst }
/-- bytes with a checksum of whatever kind, read -/
theorem DT.of_first (t : DT) (ht : t.ok) (hc : t.check = 0) (n : Int) :
    tHead (t.first n ++ (t.ol ++ t.bl)) = 20 + t.ol.length ∧ tOf (t.first n ++ (t.ol ++ t.bl)) = t ∧ (t.first n ++ (t.ol ++ t.bl)).length = 20 + t.ol.length + t.bl.length := by
  obtain ⟨k1, k2, k3, k4⟩ := DT.small hc
  have hf : (t.first n).length = 20 := rfl
  have r1 := ht.src; have r2 := ht.dst; have r3 := ht.seq; have r4 := ht.ack; have r5 := ht.flags; have r6 := ht.window; have r7 := ht.urgent
  have g12 : (t.first n ++ (t.ol ++ t.bl)).getD 12 0 = (20 + t.ol.length : Int) / 4 * 16 := by rw [getD_app (by rw [hf]; decide)]; rfl
  have g13 : (t.first n ++ (t.ol ++ t.bl)).getD 13 0 = t.flags := by rw [getD_app (by rw [hf]; decide)]; rfl
  have g0 : be2 (t.first n ++ (t.ol ++ t.bl)) 0 = t.src := by rw [be2_app (by rw [hf]; decide)]; show t.src / 256 * 256 + t.src % 256 = _; omega
  have g2 : be2 (t.first n ++ (t.ol ++ t.bl)) 2 = t.dst := by rw [be2_app (by rw [hf]; decide)]; show t.dst / 256 * 256 + t.dst % 256 = _; omega
  have g4 : be4 (t.first n ++ (t.ol ++ t.bl)) 4 = t.seq := by rw [be4_app (by rw [hf]; decide)]; show (t.seq / 16777216 * 256 + t.seq / 65536 % 256) * 65536 + (t.seq / 256 % 256 * 256 + t.seq % 256) = _; omega
  have g8 : be4 (t.first n ++ (t.ol ++ t.bl)) 8 = t.ack := by rw [be4_app (by rw [hf]; decide)]; show (t.ack / 16777216 * 256 + t.ack / 65536 % 256) * 65536 + (t.ack / 256 % 256 * 256 + t.ack % 256) = _; omega
  have g14 : be2 (t.first n ++ (t.ol ++ t.bl)) 14 = t.window := by rw [be2_app (by rw [hf]; decide)]; show t.window / 256 * 256 + t.window % 256 = _; omega
  have g18 : be2 (t.first n ++ (t.ol ++ t.bl)) 18 = t.urgent := by rw [be2_app (by rw [hf]; decide)]; show t.urgent / 256 * 256 + t.urgent % 256 = _; omega
  have hh : tHead (t.first n ++ (t.ol ++ t.bl)) = 20 + t.ol.length := by unfold tHead; rw [g12]; omega
  have hn : (tHead (t.first n ++ (t.ol ++ t.bl))).toNat = 20 + t.ol.length := by rw [hh]; omega
  have ho1 : ((t.first n ++ (t.ol ++ t.bl)).take (20 + t.ol.length)).drop 20 = t.ol := by
    rw [List.take_append, hf, List.take_of_length_le (by rw [hf]; omega), show 20 + t.ol.length - 20 = t.ol.length from by omega, List.take_append_of_le_length (Nat.le_refl _), List.take_length, List.drop_append, hf, List.drop_of_length_le (by rw [hf]; exact Nat.le_refl _)]
    rfl
  have hb1 : (t.first n ++ (t.ol ++ t.bl)).drop (20 + t.ol.length) = t.bl := by
    rw [List.drop_append, hf, List.drop_of_length_le (by rw [hf]; omega), show 20 + t.ol.length - 20 = t.ol.length from by omega, List.drop_append_of_le_length (Nat.le_refl _), List.drop_length]
    rfl
  refine ⟨hh, ?_, by rw [List.length_append, List.length_append, hf]; omega⟩
  rw [tOf, hn, g0, g2, g4, g8, g13, g14, g18, ho1, hb1, show t.flags % 64 = t.flags from by omega]
/-- what lies between the ports and the checksum -/
def DT.mid (t : DT) : List Int := [t.seq / 16777216, t.seq / 65536 % 256, t.seq / 256 % 256, t.seq % 256, t.ack / 16777216, t.ack / 65536 % 256, t.ack / 256 % 256, t.ack % 256, (20 + t.ol.length : Int) / 4 * 16, t.flags, t.window / 256, t.window % 256]
def DT.end_ (t : DT) : List Int := t.urgent / 256 :: t.urgent % 256 :: (t.ol ++ t.bl)
theorem DT.parted (t : DT) (n : Int) : t.first n ++ (t.ol ++ t.bl) = (rwPorts t.src t.dst ++ t.mid) ++ ([n / 256, n % 256] ++ t.end_) := rfl
theorem DT.check_to (t : DT) (src dst : Int) : (t.to src dst).check = t.check := rfl
theorem DT.nat (t : DT) (ht : t.ok) (hc : t.check = 0) (ps ps' f g : List Int) (src dst : Int) (hs : 0 ≤ src ∧ src < 65536) (hd : 0 ≤ dst ∧ dst < 65536) (hp : InB ps) (hp' : InB ps') (hf : InB f) (hg : InB g) (ho : InB t.ol) (hb : InB t.bl)
    (he : ps.length % 2 = 0) (he' : ps'.length % 2 = 0) (hl : f.length = g.length) (hte : g.length % 2 = 0) (hw : wt ps - wt f = wt ps' - wt g) (hpos : 0 < wt ps') :
    rwErr 6 (t.bytes ps) f g = 0 ∧ tErr ps' (rwBytes 6 (t.bytes ps) f g src dst) = 0 ∧ tOf (rwBytes 6 (t.bytes ps) f g src dst) = t.to src dst ∧ (rwBytes 6 (t.bytes ps) f g src dst).length = 20 + t.ol.length + t.bl.length := by
  obtain ⟨k1, k2, k3, k4⟩ := DT.small hc
  have hsr := t.sum_rng' ht k1 hp ho hb
  have hsum := t.sum_right ht k1 ps hp ho hb he
  have hlen : (t.bytes ps).length = 20 + t.ol.length + t.bl.length := t.bytes_len ps
  have r1 := ht.src
  have r2 := ht.dst
  have hrg := t.bytes_rng ht k1 hp ho hb
  have hE : rwErr 6 (t.bytes ps) f g = 0 := by
    unfold rwErr
    rw [if_neg (by omega), if_neg (by omega), if_neg (by simp [hl, hte])]
  have h16 : be2 (t.bytes ps) 16 = t.sum ps := by
    rw [DT.bytes_eq, be2_app (by show 16 + 1 < 20; decide)]
    show t.sum ps / 256 * 256 + t.sum ps % 256 = _
    omega
  have hN : ¬ rwNone 6 (t.bytes ps) := by
    unfold rwNone rwAt
    rw [if_pos rfl]
    omega
  obtain ⟨n, hn⟩ : ∃ n, rwSum 6 (t.bytes ps) f g src dst = n := ⟨_, rfl⟩
  have hrng := rwSum1_rng (proto := 6) hrg hf hg hs hd (l := t.bytes ps)
  have hold : (t.bytes ps).take 4 = rwPorts t.src t.dst := by rw [DT.bytes_eq, DT.parted]; rfl
  have m1 := update_mod hsr hf hg hl hte
  have ru := updateS_rng _ hsr f g hf hg
  have m2 := update_mod ru (rwPorts_rng r1 r2) (rwPorts_rng hs hd) (by simp [rwPorts]) (by simp [rwPorts])
  have hs1 : rwSum1 6 (t.bytes ps) f g src dst = (updateS (updateS (t.sum ps) f g).1 (rwPorts t.src t.dst) (rwPorts src dst)).1 := by
    unfold rwSum1 rwAt
    rw [if_pos rfl, h16, hold]
  have hn1 : n = rwSum1 6 (t.bytes ps) f g src dst := by
    rw [← hn]
    unfold rwSum
    rw [if_neg (by omega)]
  have hB : rwBytes 6 (t.bytes ps) f g src dst = (t.to src dst).first n ++ (t.ol ++ t.bl) := by
    unfold rwBytes
    rw [if_neg (by simp [hE]), if_neg hN, hn, DT.bytes_eq]
    rfl
  have ht' : (t.to src dst).ok := ⟨hs, hd, ht.seq, ht.ack, ht.flags, ht.window, ht.urgent⟩
  obtain ⟨q1, q2, q3⟩ := (t.to src dst).of_first ht' hc n
  have hM : InB t.mid := by
    have a1 := ht.seq; have a2 := ht.ack; have a3 := ht.flags; have a4 := ht.window
    intro x hx
    simp only [DT.mid, List.mem_cons, List.not_mem_nil, or_false] at hx
    omega
  have hEn : InB t.end_ := by
    have a1 := ht.urgent
    have : InB ([t.urgent / 256, t.urgent % 256] ++ (t.ol ++ t.bl)) := InB.app (fun x hx => by
      simp only [List.mem_cons, List.not_mem_nil, or_false] at hx
      omega) (ho.app hb)
    exact this
  have lm : t.mid.length % 2 = 0 := by simp [DT.mid]
  have lp : ∀ a b : Int, (rwPorts a b).length % 2 = 0 := fun a b => by simp [rwPorts]
  have hwl : ∀ (a b : Int) (qs : List Int), qs.length % 2 = 0 → wt (qs ++ (rwPorts a b ++ t.mid)) = wt qs + (wt (rwPorts a b) + wt t.mid) := fun a b qs hq => by
    rw [wt_append _ _ hq, wt_append _ _ (lp a b)]
  have nM := wt_nonneg _ hM
  have nE := wt_nonneg _ hEn
  have nP := wt_nonneg _ (rwPorts_rng hs hd)
  have hX : (wt ps + (wt (rwPorts t.src t.dst) + wt t.mid) + wt t.end_ + t.sum ps) % 65535 = 0 := by
    have a1 := wt_nonneg _ hp
    have a2 := wt_nonneg _ (rwPorts_rng r1 r2)
    rw [sumw_wt _ (hp.app hrg), DT.bytes_eq, DT.parted, ← List.append_assoc, wt_append _ _ (by simp [rwPorts, DT.mid]; omega), hwl _ _ _ he, wt_append _ _ (by simp), wt_two] at hsum
    have nn : 0 ≤ wt ps + (wt (rwPorts t.src t.dst) + wt t.mid) + (t.sum ps / 256 * 256 + t.sum ps % 256 + wt t.end_) := by omega
    have := cs_mod _ nn
    rw [hsum] at this
    omega
  have hsumN : sumw (ps' ++ rwBytes 6 (t.bytes ps) f g src dst) = 65535 := by
    have hA := hwl src dst ps' he'
    have := sum_field (ps' ++ (rwPorts src dst ++ t.mid)) t.end_ n (hp'.app ((rwPorts_rng hs hd).app hM)) hEn (by rw [hn1]; exact hrng) (by simp [rwPorts, DT.mid]; omega) (by rw [hA]; omega) (by
      rw [hA]
      have h3 := hn1
      rw [hs1] at h3
      omega)
    rw [hB]
    rw [List.append_assoc] at this
    exact this
  have ho2 : ((t.to src dst).first n ++ ((t.to src dst).ol ++ (t.to src dst).bl)) = (t.to src dst).first n ++ (t.ol ++ t.bl) := rfl
  rw [ho2] at q1 q2 q3
  rw [← hB] at q1 q2 q3
  have q1' : tHead (rwBytes 6 (t.bytes ps) f g src dst) = 20 + (t.ol.length : Int) := q1
  have q3' : (rwBytes 6 (t.bytes ps) f g src dst).length = 20 + t.ol.length + t.bl.length := q3
  refine ⟨hE, ?_, q2, q3'⟩
  unfold tErr
  rw [if_neg (by omega), q1', if_neg (by omega), if_neg (by omega), if_neg (by simp [hsumN])]
end Go.Proofs.Ytaobnbjkhgcmlaa
end

section
/-
  The walk of segment.Rewrite.
-/
namespace Go.Proofs.Ytaobnbjkhgcmlaa
open Go.RowKit Go.Shelf

def ToldB (v2 : List Int) (s : Int) (w : World) (e : Ending) (w' : World) : Prop := ∃ v s', e = .returned (.tuple #[v, .int .i64 s']) ∧ Hid (s' = s) ∧ OwnB w' w.heap.size v v2 ∧ Below w.heap.size w w'

set_option maxRecDepth 100000 in
theorem rw_err (proto : Int) (hp : 0 ≤ proto ∧ proto ≤ 255) (A : Option Addr) (c : Nat) (l : List Int) (A1 : Option Addr) (c1 : Nat) (f : List Int) (A2 : Option Addr) (c2 : Nat) (t : List Int) (src dst : Int) (w : World) (y : By w.heap.size w A l.length c l) (y1 : By w.heap.size w A1 f.length c1 f) (y2 : By w.heap.size w A2 t.length c2 t) (he : rwErr proto l f t ≠ 0) :
    Calls Try.prog 38 #[.int .u8 proto, .slice A l.length c, .slice A1 f.length c1, .slice A2 t.length c2, .int .u16 src, .int .u16 dst] w fun e w' => ToldB [] (rwErr proto l f t) w e w' := by
  have hb := Nat.le_trans y.cap y.big
  have hb1 := Nat.le_trans y1.cap y1.big
  have hb2 := Nat.le_trans y2.cap y2.big
  have hc : (proto ≠ 6 ∧ proto ≠ 17 ∧ rwErr proto l f t = 64) ∨ ((proto = 6 ∨ proto = 17) ∧ l.length < 4 ∧ rwErr proto l f t = 60) ∨ ((proto = 6 ∨ proto = 17) ∧ 4 ≤ l.length ∧ f.length ≠ t.length ∧ rwErr proto l f t = 10) ∨ ((proto = 6 ∨ proto = 17) ∧ 4 ≤ l.length ∧ f.length = t.length ∧ f.length % 2 = 1 ∧ rwErr proto l f t = 10) := by
    unfold rwErr at he ⊢
    split at he
    · rename_i h; left; exact ⟨h.1, h.2, by rw [if_pos h]⟩
    · rename_i h
      split at he
      · rename_i h2; right; left; exact ⟨by omega, h2, by rw [if_neg h, if_pos h2]⟩
      · rename_i h2
        split at he
        · rename_i h3
          right; right
          by_cases h4 : f.length = t.length
          · right; exact ⟨by omega, by omega, h4, by omega, by rw [if_neg h, if_neg h2, if_pos h3]⟩
          · left; exact ⟨by omega, by omega, h4, by rw [if_neg h, if_neg h2, if_pos h3]⟩
        · exact absurd rfl he
  rcases hc with ⟨h1, h2, h3⟩ | ⟨h1, h2, h3⟩ | ⟨h1, h2, h3, h4⟩ | ⟨h1, h2, h3, h4, h5⟩
  · rw [h3]
    have h5 : (proto == 6) = false := by simp [h1]
    have h6 : (proto == 17) = false := by simp [h2]
    clear he h3
    go_enter Try.func38, Try.ntmps38
    go_wp2
    go_ret2
    exact ⟨_, _, rfl, Lib.hid rfl, OwnB.nil _ _, Below.refl _ _⟩
  · rw [h3]
    have h2' : (l.length : Int) < 4 := by omega
    clear he h3
    rcases h1 with rfl | rfl
    all_goals
      go_enter Try.func38, Try.ntmps38
      go_wp2
      go_ret2
      exact ⟨_, _, rfl, Lib.hid rfl, OwnB.nil _ _, Below.refl _ _⟩
  · rw [h4]
    have h2' : (4 : Int) ≤ (l.length : Int) := by omega
    have h3' : ((f.length : Int) != (t.length : Int)) = true := by simp; omega
    clear he h4
    rcases h1 with rfl | rfl
    all_goals
      go_enter Try.func38, Try.ntmps38
      go_wp2
      go_ret2
      exact ⟨_, _, rfl, Lib.hid rfl, OwnB.nil _ _, Below.refl _ _⟩
  · rw [h5]
    have h2' : (4 : Int) ≤ (l.length : Int) := by omega
    have h4' : (t.length : Int) % 2 = 1 := by omega
    clear he h5 h4
    rw [h3]
    rcases h1 with rfl | rfl
    all_goals
      go_enter Try.func38, Try.ntmps38
      go_wp2
      go_ret2
      exact ⟨_, _, rfl, Lib.hid rfl, OwnB.nil _ _, Below.refl _ _⟩
end Go.Proofs.Ytaobnbjkhgcmlaa
end

section
/-
  The walk of segment.Rewrite where it answers.
-/
namespace Go.Proofs.Ytaobnbjkhgcmlaa
open Go.RowKit Go.Shelf

set_option maxRecDepth 100000 in
set_option maxHeartbeats 2000000 in
theorem rw_ok6 (A : Option Addr) (c : Nat) (l : List Int) (A1 : Option Addr) (c1 : Nat) (f : List Int) (A2 : Option Addr) (c2 : Nat) (t : List Int) (src dst : Int) (hsr : 0 ≤ src ∧ src < 65536) (hds : 0 ≤ dst ∧ dst < 65536) (w : World) (y : By w.heap.size w A l.length c l) (y1 : By w.heap.size w A1 f.length c1 f) (y2 : By w.heap.size w A2 t.length c2 t) (hs : l.length ≤ 140737488355328) (h4 : 4 ≤ l.length) (hft : f.length = t.length) (hev : t.length % 2 = 0) :
    Calls Try.prog 38 #[.int .u8 6, .slice A l.length c, .slice A1 f.length c1, .slice A2 t.length c2, .int .u16 src, .int .u16 dst] w fun e w' => ToldB (rwBytes 6 l f t src dst) 0 w e w' := by
  have hz : rwErr 6 l f t = 0 := by unfold rwErr; rw [if_neg (by decide), if_neg (by omega), if_neg (by simp [hft, hev])]
  have hat : rwAt 6 = 16 := rfl
  have hb1 := Nat.le_trans y1.cap y1.big
  have hb2 := Nat.le_trans y2.cap y2.big
  have hbytes : rwBytes 6 l f t src dst = if rwNone 6 l then rwOut l src dst else set2 (rwOut l src dst) 16 (rwSum 6 l f t src dst) := by unfold rwBytes; rw [if_neg (by simp [hz])]; rfl
  have hnone : rwNone 6 l ↔ (l.length < 18 ∨ False) := by unfold rwNone; rw [hat]; simp
  have h4' : (4 : Int) ≤ (l.length : Int) := by omega
  have hev' : (t.length : Int) % 2 = 0 := by omega
  have hne : ((f.length : Int) != (t.length : Int)) = false := by simp [hft]
  have hfe : (f.length : Int) % 2 = 0 := by omega
  have hbH := Lib.hid hbytes
  clear hbytes hft
  go_enter Try.func38, Try.ntmps38
  go_wp2_with fail
  refine (clone_n A c l.length l w y hs).mono ?_
  rintro e w1 ⟨v, rfl, ho, hb⟩
  obtain ⟨A5, k5, rfl, _⟩ := own_shape ho.own
  have hB := hb
  clear hb
  go_wp2_with fail
  refine (set_own w.heap.size A5 l.length k5 l w1 ho rfl 0 (by omega) hs src hsr).mono ?_
  rintro e w2 ⟨rfl, ho', hg⟩
  have hB := hB.trans (below_own ho.own hg hB.size)
  clear hg ho
  go_wp2_with fail
  refine (set_own w.heap.size A5 l.length k5 (set2 l 0 src) w2 ho' (by simp [set2_len]) 2 (by omega) hs dst hds).mono ?_
  rintro e w3 ⟨rfl, ho, hg⟩
  have hB := hB.trans (below_own ho'.own hg hB.size)
  clear hg ho'
  rw [rwOut_set h4] at ho
  by_cases hsh : l.length < 18
  case pos =>
    have hr : rwBytes 6 l f t src dst = rwOut l src dst := by rw [hbH.out, if_pos (hnone.2 (.inl hsh))]
    have hsh' : (l.length : Int) < 18 := by omega
    clear hnone
    go_wp2
    go_ret2
    exact ⟨_, _, rfl, Lib.hid rfl, by rw [hr]; exact ho, hB⟩
  case neg =>
  have hsh' : ¬ ((l.length : Int) < 18) := by omega
  have rr := be2_rng y.rng 16
  have hr : rwBytes 6 l f t src dst = set2 (rwOut l src dst) 16 (rwSum 6 l f t src dst) := by rw [hbH.out, if_neg (fun h => (hnone.1 h).elim hsh id)]
  clear hnone
  go_wp2_with fail
  refine (two6_any A _ c l _ ((y.below hB (Nat.le_refl _)).more hB.size) 16 (by omega)).mono ?_
  rintro e w4 ⟨rfl, hb⟩
  have ho := ho.below hb
  have hB := hB.trans (hb.mono hB.size)
  clear hb
  go_wp2_with fail
  refine (update_any (be2 l 16) rr A1 A2 c1 c2 f t _ ((y1.below hB (Nat.le_refl _)).more hB.size) ((y2.below hB (Nat.le_refl _)).more hB.size)).mono ?_
  rintro e w5 ⟨⟨q, er, rfl, hqe⟩, hb⟩
  have hq : q = (updateS (be2 l 16) f t).1 := hqe.out.1
  have hqr : 0 ≤ q ∧ q < 65536 := by rw [hq]; exact updateS_rng _ rr f t y1.rng y2.rng
  have ho := ho.below hb
  have hB := hB.trans (hb.mono hB.size)
  have hqH := Lib.hid hq
  clear hb hqe hq
  have yl := (y.below hB (Nat.le_refl _)).more hB.size
  have hs1 := yl.to_ (P := Try.prog) 24 Try.underlying24 (by kernel_rfl) (k := 4) h4
  have yo := own_byN ho
  have hs2 := yo.to_ (P := Try.prog) 24 Try.underlying24 (by kernel_rfl) (k := 4) h4
  have hl4 : (l.take 4).length = 4 := by rw [List.length_take]; omega
  have ho4 : ((rwOut l src dst).take 4).length = 4 := rfl
  have hl4 := Lib.hid hl4
  have ho4 := Lib.hid ho4
  go_wp2_with fail
  refine wp_region_held_drew (S := SG w5) (by kernel_rfl) ⟨below_drew _ _⟩ (fun hS => ?_)
  generalize w5.drew = W0 at hS ⊢
  -- REGION 6
  refine tk (i := 0) (.int .u16 q) hS rfl (by kernel_rfl) (by kernel_rfl) (by kernel_rfl) (fun _ _ _ h => h) (by kernel_rfl) (by intro _ _; exact rfl) ?_
  simp only [Act.put, List.setIfInBounds_toArray, List.set_cons_zero, List.set_cons_succ]
  refine tk (i := 1) (.slice A l.length c) hS rfl (by kernel_rfl) (by kernel_rfl) (by kernel_rfl) (fun _ _ _ h => h) (by kernel_rfl) (by intro _ _; exact rfl) ?_
  simp only [Act.put, List.setIfInBounds_toArray, List.set_cons_zero, List.set_cons_succ]
  refine tk (i := 2) (.slice A 4 c) hS rfl (by kernel_rfl) (by kernel_rfl) (by kernel_rfl) (fun _ _ _ h => h) (by kernel_rfl) (by intro w' _; exact ex_slice (by exact rfl) (by exact rfl) (hs1.1 w')) ?_
  simp only [Act.put, List.setIfInBounds_toArray, List.set_cons_zero, List.set_cons_succ]
  refine tk (i := 3) (.slice A5 l.length k5) hS rfl (by kernel_rfl) (by kernel_rfl) (by kernel_rfl) (fun _ _ _ h => h) (by kernel_rfl) (by intro _ _; exact rfl) ?_
  simp only [Act.put, List.setIfInBounds_toArray, List.set_cons_zero, List.set_cons_succ]
  refine tk (i := 4) (.slice A5 4 k5) hS rfl (by kernel_rfl) (by kernel_rfl) (by kernel_rfl) (fun _ _ _ h => h) (by kernel_rfl) (by intro w' _; exact ex_slice (by exact rfl) (by exact rfl) (hs2.1 w')) ?_
  simp only [Act.put, List.setIfInBounds_toArray, List.set_cons_zero, List.set_cons_succ]
  refine tk_one (by kernel_rfl) (op_callx (i := 5) (fun v w' => ∃ q2 e2, v = .tuple #[.int .u16 q2, .int .i64 e2] ∧ Hid (q2 = (updateS q (l.take 4) ((rwOut l src dst).take 4)).1) ∧ Below W0.heap.size W0 w') rfl (by kernel_rfl) (by exact ex_call (by exact rfl) Try.func62 (by kernel_rfl) (by kernel_rfl) (by simp only [List.map_toArray, List.map_cons, List.map_nil] <;> rfl)) (by have hx := update_any q hqr A A5 c k5 (l.take 4) ((rwOut l src dst).take 4) _ (by rw [hl4.out]; exact (hs1.2.below hS.b (Nat.le_refl _)).more hS.big) (by rw [ho4.out]; exact (hs2.2.below hS.b (Nat.le_refl _)).more hS.big); rw [hl4.out, ho4.out] at hx; exact hx.mono fun e w' g => by obtain ⟨⟨q2, e2, rfl, hq2⟩, hb⟩ := g; exact ⟨_, rfl, ⟨q2, e2, rfl, Lib.hid hq2.out.1, hb⟩, hS.keep (hb.mono hS.big)⟩) ?_)
  rintro v1 W1 ⟨q2, e2, rfl, hq2, hb⟩ hS1
  simp only [Act.put, List.setIfInBounds_toArray, List.set_cons_zero, List.set_cons_succ]
  refine tk (i := 6) (.tuple #[.int .u16 q2, .int .i64 e2]) hS1 rfl (by kernel_rfl) (by kernel_rfl) (by kernel_rfl) (fun _ _ _ h => h) (by kernel_rfl) (by intro _ _; exact rfl) ?_
  simp only [Act.put, List.setIfInBounds_toArray, List.set_cons_zero, List.set_cons_succ]
  refine tk (i := 7) (.int .u16 q2) hS1 rfl (by kernel_rfl) (by kernel_rfl) (by kernel_rfl) (fun _ _ _ h => h) (by kernel_rfl) (by intro _ _; exact rfl) ?_
  simp only [Act.put, List.setIfInBounds_toArray, List.set_cons_zero, List.set_cons_succ]
  refine tk (i := 8) (.int .i64 e2) hS1 rfl (by kernel_rfl) (by kernel_rfl) (by kernel_rfl) (fun _ _ _ h => h) (by kernel_rfl) (by intro _ _; exact rfl) ?_
  simp only [Act.put, List.setIfInBounds_toArray, List.set_cons_zero, List.set_cons_succ]
  refine tk (i := 9) (.int .u16 q2) hS1 rfl (by kernel_rfl) (by kernel_rfl) (by kernel_rfl) (fun _ _ _ h => h) (by kernel_rfl) (by intro _ _; exact rfl) ?_
  simp only [Act.put, List.setIfInBounds_toArray, List.set_cons_zero, List.set_cons_succ]
  refine wpAnyH_done (by kernel_rfl) ?_ _
  have ho := ho.below hS1.b
  have hB := hB.trans (hS1.b.mono hB.size)
  -- END 6
  have hq2' : q2 = rwSum1 6 l f t src dst := by rw [hq2.out, rwOut_take, hqH.out]; rfl
  have hr2 : 0 ≤ q2 ∧ q2 < 65536 := by rw [hq2']; exact rwSum1_rng y.rng y1.rng y2.rng hsr hds
  have hsm : rwSum 6 l f t src dst = if q2 = 0 ∧ (6 : Int) = 17 then 65535 else q2 := by rw [rwSum, ← hq2']
  have hsmH := Lib.hid hsm
  have hlo := rwOut_len h4 src dst
  have hloH := Lib.hid hlo
  have hsl : 16 + 1 < l.length := by omega
  have hslH := Lib.hid hsl
  clear hq2 hq2' hsm hlo hsl hS hS1 hs1 hs2 yl yo hb
  by_cases h0 : q2 = 0
  · subst h0
    go_wp2_with fail
    refine (set_own w.heap.size A5 l.length k5 (rwOut l src dst) _ ho hloH.out.symm 16 hslH.out hs 0 (by decide)).mono ?_
    rintro e w7 ⟨rfl, ho', hg⟩
    have hB := hB.trans (below_own ho.own hg hB.size)
    go_wp2
    go_ret2
    exact ⟨_, _, rfl, Lib.hid rfl, by rw [hr, hsmH.out]; exact ho', hB⟩
  · have h0' : (q2 == 0) = false := by simp [h0]
    go_wp2_with fail
    refine (set_own w.heap.size A5 l.length k5 (rwOut l src dst) _ ho hloH.out.symm 16 hslH.out hs q2 hr2).mono ?_
    rintro e w7 ⟨rfl, ho', hg⟩
    have hB := hB.trans (below_own ho.own hg hB.size)
    go_wp2
    go_ret2
    exact ⟨_, _, rfl, Lib.hid rfl, by rw [hr, hsmH.out, if_neg (by simp [h0])]; exact ho', hB⟩

set_option maxRecDepth 100000 in
set_option maxHeartbeats 2000000 in
theorem rw_ok17 (A : Option Addr) (c : Nat) (l : List Int) (A1 : Option Addr) (c1 : Nat) (f : List Int) (A2 : Option Addr) (c2 : Nat) (t : List Int) (src dst : Int) (hsr : 0 ≤ src ∧ src < 65536) (hds : 0 ≤ dst ∧ dst < 65536) (w : World) (y : By w.heap.size w A l.length c l) (y1 : By w.heap.size w A1 f.length c1 f) (y2 : By w.heap.size w A2 t.length c2 t) (hs : l.length ≤ 140737488355328) (h4 : 4 ≤ l.length) (hft : f.length = t.length) (hev : t.length % 2 = 0) :
    Calls Try.prog 38 #[.int .u8 17, .slice A l.length c, .slice A1 f.length c1, .slice A2 t.length c2, .int .u16 src, .int .u16 dst] w fun e w' => ToldB (rwBytes 17 l f t src dst) 0 w e w' := by
  have hz : rwErr 17 l f t = 0 := by unfold rwErr; rw [if_neg (by decide), if_neg (by omega), if_neg (by simp [hft, hev])]
  have hat : rwAt 17 = 6 := rfl
  have hb1 := Nat.le_trans y1.cap y1.big
  have hb2 := Nat.le_trans y2.cap y2.big
  have hbytes : rwBytes 17 l f t src dst = if rwNone 17 l then rwOut l src dst else set2 (rwOut l src dst) 6 (rwSum 17 l f t src dst) := by unfold rwBytes; rw [if_neg (by simp [hz])]; rfl
  have hnone : rwNone 17 l ↔ (l.length < 8 ∨ be2 l 6 = 0) := by unfold rwNone; rw [hat]; simp
  have h4' : (4 : Int) ≤ (l.length : Int) := by omega
  have hev' : (t.length : Int) % 2 = 0 := by omega
  have hne : ((f.length : Int) != (t.length : Int)) = false := by simp [hft]
  have hfe : (f.length : Int) % 2 = 0 := by omega
  have hbH := Lib.hid hbytes
  clear hbytes hft
  go_enter Try.func38, Try.ntmps38
  go_wp2_with fail
  refine (clone_n A c l.length l w y hs).mono ?_
  rintro e w1 ⟨v, rfl, ho, hb⟩
  obtain ⟨A5, k5, rfl, _⟩ := own_shape ho.own
  have hB := hb
  clear hb
  go_wp2_with fail
  refine (set_own w.heap.size A5 l.length k5 l w1 ho rfl 0 (by omega) hs src hsr).mono ?_
  rintro e w2 ⟨rfl, ho', hg⟩
  have hB := hB.trans (below_own ho.own hg hB.size)
  clear hg ho
  go_wp2_with fail
  refine (set_own w.heap.size A5 l.length k5 (set2 l 0 src) w2 ho' (by simp [set2_len]) 2 (by omega) hs dst hds).mono ?_
  rintro e w3 ⟨rfl, ho, hg⟩
  have hB := hB.trans (below_own ho'.own hg hB.size)
  clear hg ho'
  rw [rwOut_set h4] at ho
  by_cases hsh : l.length < 8
  case pos =>
    have hr : rwBytes 17 l f t src dst = rwOut l src dst := by rw [hbH.out, if_pos (hnone.2 (.inl hsh))]
    have hsh' : (l.length : Int) < 8 := by omega
    clear hnone
    go_wp2
    go_ret2
    exact ⟨_, _, rfl, Lib.hid rfl, by rw [hr]; exact ho, hB⟩
  case neg =>
  have hsh' : ¬ ((l.length : Int) < 8) := by omega
  have rr := be2_rng y.rng 6
  by_cases h0 : be2 l 6 = 0
  case pos =>
    have hr : rwBytes 17 l f t src dst = rwOut l src dst := by rw [hbH.out, if_pos (hnone.2 (.inr h0))]
    clear hnone
    go_wp2_with fail
    refine (two6_any A _ c l _ ((y.below hB (Nat.le_refl _)).more hB.size) 6 (by omega)).mono ?_
    rintro e w4 ⟨rfl, hb⟩
    have ho := ho.below hb
    have hB := hB.trans (hb.mono hB.size)
    clear hb
    go_wp2
    go_ret2
    exact ⟨_, _, rfl, Lib.hid rfl, by rw [hr]; exact ho, hB⟩
  case neg =>
    have hz0 : (be2 l 6 == 0) = false := by simp [h0]
    have hr : rwBytes 17 l f t src dst = set2 (rwOut l src dst) 6 (rwSum 17 l f t src dst) := by rw [hbH.out, if_neg (fun h => (hnone.1 h).elim hsh h0)]
    clear hnone
    go_wp2_with fail
    refine (two6_any A _ c l _ ((y.below hB (Nat.le_refl _)).more hB.size) 6 (by omega)).mono ?_
    rintro e w4 ⟨rfl, hb⟩
    have ho := ho.below hb
    have hB := hB.trans (hb.mono hB.size)
    clear hb
    go_wp2_with fail
    refine (two6_any A _ c l _ ((y.below hB (Nat.le_refl _)).more hB.size) 6 (by omega)).mono ?_
    rintro e w4 ⟨rfl, hb⟩
    have ho := ho.below hb
    have hB := hB.trans (hb.mono hB.size)
    clear hb
    go_wp2_with fail
    refine (update_any (be2 l 6) rr A1 A2 c1 c2 f t _ ((y1.below hB (Nat.le_refl _)).more hB.size) ((y2.below hB (Nat.le_refl _)).more hB.size)).mono ?_
    rintro e w5 ⟨⟨q, er, rfl, hqe⟩, hb⟩
    have hq : q = (updateS (be2 l 6) f t).1 := hqe.out.1
    have hqr : 0 ≤ q ∧ q < 65536 := by rw [hq]; exact updateS_rng _ rr f t y1.rng y2.rng
    have ho := ho.below hb
    have hB := hB.trans (hb.mono hB.size)
    have hqH := Lib.hid hq
    clear hb hqe hq
    have yl := (y.below hB (Nat.le_refl _)).more hB.size
    have hs1 := yl.to_ (P := Try.prog) 24 Try.underlying24 (by kernel_rfl) (k := 4) h4
    have yo := own_byN ho
    have hs2 := yo.to_ (P := Try.prog) 24 Try.underlying24 (by kernel_rfl) (k := 4) h4
    have hl4 : (l.take 4).length = 4 := by rw [List.length_take]; omega
    have ho4 : ((rwOut l src dst).take 4).length = 4 := rfl
    have hl4 := Lib.hid hl4
    have ho4 := Lib.hid ho4
    go_wp2_with fail
    refine wp_region_held_drew (S := SG w5) (by kernel_rfl) ⟨below_drew _ _⟩ (fun hS => ?_)
    generalize w5.drew = W0 at hS ⊢
    -- REGION 17
    refine tk (i := 0) (.int .u16 q) hS rfl (by kernel_rfl) (by kernel_rfl) (by kernel_rfl) (fun _ _ _ h => h) (by kernel_rfl) (by intro _ _; exact rfl) ?_
    simp only [Act.put, List.setIfInBounds_toArray, List.set_cons_zero, List.set_cons_succ]
    refine tk (i := 1) (.slice A l.length c) hS rfl (by kernel_rfl) (by kernel_rfl) (by kernel_rfl) (fun _ _ _ h => h) (by kernel_rfl) (by intro _ _; exact rfl) ?_
    simp only [Act.put, List.setIfInBounds_toArray, List.set_cons_zero, List.set_cons_succ]
    refine tk (i := 2) (.slice A 4 c) hS rfl (by kernel_rfl) (by kernel_rfl) (by kernel_rfl) (fun _ _ _ h => h) (by kernel_rfl) (by intro w' _; exact ex_slice (by exact rfl) (by exact rfl) (hs1.1 w')) ?_
    simp only [Act.put, List.setIfInBounds_toArray, List.set_cons_zero, List.set_cons_succ]
    refine tk (i := 3) (.slice A5 l.length k5) hS rfl (by kernel_rfl) (by kernel_rfl) (by kernel_rfl) (fun _ _ _ h => h) (by kernel_rfl) (by intro _ _; exact rfl) ?_
    simp only [Act.put, List.setIfInBounds_toArray, List.set_cons_zero, List.set_cons_succ]
    refine tk (i := 4) (.slice A5 4 k5) hS rfl (by kernel_rfl) (by kernel_rfl) (by kernel_rfl) (fun _ _ _ h => h) (by kernel_rfl) (by intro w' _; exact ex_slice (by exact rfl) (by exact rfl) (hs2.1 w')) ?_
    simp only [Act.put, List.setIfInBounds_toArray, List.set_cons_zero, List.set_cons_succ]
    refine tk_one (by kernel_rfl) (op_callx (i := 5) (fun v w' => ∃ q2 e2, v = .tuple #[.int .u16 q2, .int .i64 e2] ∧ Hid (q2 = (updateS q (l.take 4) ((rwOut l src dst).take 4)).1) ∧ Below W0.heap.size W0 w') rfl (by kernel_rfl) (by exact ex_call (by exact rfl) Try.func62 (by kernel_rfl) (by kernel_rfl) (by simp only [List.map_toArray, List.map_cons, List.map_nil] <;> rfl)) (by have hx := update_any q hqr A A5 c k5 (l.take 4) ((rwOut l src dst).take 4) _ (by rw [hl4.out]; exact (hs1.2.below hS.b (Nat.le_refl _)).more hS.big) (by rw [ho4.out]; exact (hs2.2.below hS.b (Nat.le_refl _)).more hS.big); rw [hl4.out, ho4.out] at hx; exact hx.mono fun e w' g => by obtain ⟨⟨q2, e2, rfl, hq2⟩, hb⟩ := g; exact ⟨_, rfl, ⟨q2, e2, rfl, Lib.hid hq2.out.1, hb⟩, hS.keep (hb.mono hS.big)⟩) ?_)
    rintro v1 W1 ⟨q2, e2, rfl, hq2, hb⟩ hS1
    simp only [Act.put, List.setIfInBounds_toArray, List.set_cons_zero, List.set_cons_succ]
    refine tk (i := 6) (.tuple #[.int .u16 q2, .int .i64 e2]) hS1 rfl (by kernel_rfl) (by kernel_rfl) (by kernel_rfl) (fun _ _ _ h => h) (by kernel_rfl) (by intro _ _; exact rfl) ?_
    simp only [Act.put, List.setIfInBounds_toArray, List.set_cons_zero, List.set_cons_succ]
    refine tk (i := 7) (.int .u16 q2) hS1 rfl (by kernel_rfl) (by kernel_rfl) (by kernel_rfl) (fun _ _ _ h => h) (by kernel_rfl) (by intro _ _; exact rfl) ?_
    simp only [Act.put, List.setIfInBounds_toArray, List.set_cons_zero, List.set_cons_succ]
    refine tk (i := 8) (.int .i64 e2) hS1 rfl (by kernel_rfl) (by kernel_rfl) (by kernel_rfl) (fun _ _ _ h => h) (by kernel_rfl) (by intro _ _; exact rfl) ?_
    simp only [Act.put, List.setIfInBounds_toArray, List.set_cons_zero, List.set_cons_succ]
    refine tk (i := 9) (.int .u16 q2) hS1 rfl (by kernel_rfl) (by kernel_rfl) (by kernel_rfl) (fun _ _ _ h => h) (by kernel_rfl) (by intro _ _; exact rfl) ?_
    simp only [Act.put, List.setIfInBounds_toArray, List.set_cons_zero, List.set_cons_succ]
    refine wpAnyH_done (by kernel_rfl) ?_ _
    have ho := ho.below hS1.b
    have hB := hB.trans (hS1.b.mono hB.size)
    -- END 17
    have hq2' : q2 = rwSum1 17 l f t src dst := by rw [hq2.out, rwOut_take, hqH.out]; rfl
    have hr2 : 0 ≤ q2 ∧ q2 < 65536 := by rw [hq2']; exact rwSum1_rng y.rng y1.rng y2.rng hsr hds
    have hsm : rwSum 17 l f t src dst = if q2 = 0 ∧ (17 : Int) = 17 then 65535 else q2 := by rw [rwSum, ← hq2']
    have hsmH := Lib.hid hsm
    have hlo := rwOut_len h4 src dst
    have hloH := Lib.hid hlo
    have hsl : 6 + 1 < l.length := by omega
    have hslH := Lib.hid hsl
    clear hq2 hq2' hsm hlo hsl hS hS1 hs1 hs2 yl yo hb
    by_cases h0 : q2 = 0
    · subst h0
      go_wp2_with fail
      refine (set_own w.heap.size A5 l.length k5 (rwOut l src dst) _ ho hloH.out.symm 6 hslH.out hs 65535 (by decide)).mono ?_
      rintro e w7 ⟨rfl, ho', hg⟩
      have hB := hB.trans (below_own ho.own hg hB.size)
      go_wp2
      go_ret2
      exact ⟨_, _, rfl, Lib.hid rfl, by rw [hr, hsmH.out]; exact ho', hB⟩
    · have h0' : (q2 == 0) = false := by simp [h0]
      go_wp2_with fail
      refine (set_own w.heap.size A5 l.length k5 (rwOut l src dst) _ ho hloH.out.symm 6 hslH.out hs q2 hr2).mono ?_
      rintro e w7 ⟨rfl, ho', hg⟩
      have hB := hB.trans (below_own ho.own hg hB.size)
      go_wp2
      go_ret2
      exact ⟨_, _, rfl, Lib.hid rfl, by rw [hr, hsmH.out, if_neg (by simp [h0])]; exact ho', hB⟩
end Go.Proofs.Ytaobnbjkhgcmlaa
end

section
/-
  Moves in a region in the text's order, each by its own law: an empty slice literal, an append of bytes, a cell stored.
-/
namespace Go.Proofs.Ytaobnbjkhgcmlaa
open Go.RowKit

section
variable {P : Program} {ops : Array Oper} {Q : Exit → Act → World → Prop}
theorem pl_build0 {rest : List Oper} {o : Oper} {a : Act} {w : World} {t : TypeId} (hg : o.guard = none) (ho : o.op = .buildSlice t 0 #[]) (hu : P.underlying t = some (.slice 5)) (hs : (P.info? 5).map (·.size) = some 1)
    (h : ∀ g w', OwnB w' w.heap.size (.slice (some ⟨g, 0, none⟩) 0 0) [] → Below w.heap.size w w' → wpList P ops Q rest (a.put o.dst (.slice (some ⟨g, 0, none⟩) 0 0)) w') : wpList P ops Q (o :: rest) a w :=
  wpList_plain hg fun K hK => by
    unfold Oper.wp execOp
    simp only [ho, Sem.run_bind, List.map_toArray, List.map_nil, run_build0 w t _ hu hs, Result.andThen_ok]
    exact hK _ _ (h _ _ (OwnB.made w w.heap.size (Nat.le_refl _)) ((Below.refl _ _).alloc (Nat.le_refl _) _))
theorem pl_app {rest : List Oper} {o : Oper} {a : Act} {w : World} (s x : Operand) (t : TypeId) (hg : o.guard = none)
    (ho : o.op = .call { callee := .builtin .append, args := #[s, x], argTypes := #[t, t] })
    (ht : P.underlying t = some (.slice 5)) (hinfo : (P.info? 5).map (fun i => (i.zero, i.size, i.bytes)) = some (some (.int .u8 0), 1, 1))
    (base : Nat) (v : Value) (l : List Int) (hs : a.eval s = v) (hown : OwnB w base v l)
    (B : Nat) (A : Option Addr) (m c : Nat) (l' : List Int) (hx : a.eval x = .slice A m c) (hy : By B w A m c l')
    (hbytes : l.length + m ≤ 140737488355328) (hbase : base ≤ w.heap.size)
    (h : ∀ v' w', OwnB w' base v' (l ++ l') → Below base w w' → wpList P ops Q rest (a.put o.dst v') w') : wpList P ops Q (o :: rest) a w :=
  wpList_appB w hg s x t ho ht hinfo base v l hs hown B A m c l' hx hy hbytes hbase fun v' w' h1 h2 _ => h v' w' h1 (below_app hown h2 hbase)
theorem pl_store1 {rest : List Oper} {o : Oper} {ty : TypeId} {x y : Operand} {g k : Nat} {v old : Value} {a : Act} {w : World} (hg : o.guard = none)
    (ho : o.op = .store ty x y) (hx : a.eval x = .pointer (some ⟨g, k, none⟩)) (hy : a.eval y = v) (h1 : v.cells = #[v]) (hti : (P.info? ty).map (·.size) = some 1) (hc : w.cell? ⟨g, k, none⟩ = some old) (hf : w.frozen? ⟨g, k, none⟩ = false) (h2 : v.oneCell' = true)
    (h : wpList P ops Q rest (a.put o.dst undef) (w.setCell ⟨g, k, none⟩ v)) : wpList P ops Q (o :: rest) a w :=
  wpList_plain hg fun K hK => by
    have hsz : (sizeOf ty).run P w = .ok 1 w := by
      cases hq : P.info? ty with
      | none => simp [hq] at hti
      | some i => simp [hq] at hti; simp [sizeOf, typeInfo, hq, hti]
    have hst : (store ⟨g, k, none⟩ v).run P w = .ok () (w.setCell ⟨g, k, none⟩ v) := by rw [run_store P w _ v _ h2, hc]; simp [hf]
    have had : (⟨g, k, none⟩ : Addr).add 0 = ⟨g, k, none⟩ := by simp [Addr.add]
    unfold Oper.wp execOp
    simp only [ho, hx, hy, Instr.storeAt, Instr.sureAddr, Sem.run_bind, Sem.run_pure, Result.andThen_ok]
    have hsv : (storeVar ty ⟨g, k, none⟩ v).run P w = .ok () (w.setCell ⟨g, k, none⟩ v) := by simp [storeVar, hsz, h1, storeCells, had, hst]
    simp only [hsv, Result.andThen_ok, Oper.upon_skip]
    exact hK _ _ h
end
end Go.Proofs.Ytaobnbjkhgcmlaa
end

section
/-
  The walk of segment's four; parts of a row; bits.
-/
namespace Go.Proofs.Ytaobnbjkhgcmlaa
open Go.RowKit Go.Shelf

section
variable {P : Program}
theorem By.part {B : Nat} {w : World} {A : Option Addr} {n c : Nat} {l : List Int} (h : By B w A n c l) (t : TypeId) (ht : P.underlying t = some (.slice 5)) (hs : (P.info? 5).map (·.size) = some 1) {k m : Nat} (hk : k ≤ m) (hm : m ≤ n) :
    ∃ A' c', (∀ w', (Instr.sliceAt t (.slice A n c) (some (.int .i64 (k : Int))) (some (.int .i64 (m : Int))) none).run P w' = .ok (.slice A' (m - k) c') w') ∧ By B w A' (m - k) c' ((l.take m).drop k) := by
  refine ⟨_, _, fun w' => ?_, (h.take hm).cut hk⟩
  have hcap := h.cap
  have he : P.elem t = 5 := by simp [Program.elem, ht]
  have hsz : (sizeOf 5).run P w' = .ok 1 w' := by
    cases hq : P.info? 5 with
    | none => simp [hq] at hs
    | some i => simp [hq] at hs; simp [sizeOf, typeInfo, hq, hs]
  rw [run_sliceAt_slice w' t _ _ _ _ (by rw [he]; exact ht), run_slice_lh w' t _ _ _ (by rw [he]; exact ht) .i64 .i64 (k : Int) (m : Int) (by omega) (by omega) (by omega), he, hsz]
  simp [sliced, Result.andThen]
theorem and63 (t : TypeId) (x : Int) (h : 0 ≤ x ∧ x ≤ 255) (w : World) : (binOp .and t (.int .u8 x) (.int .u8 63)).run P w = .ok (.int .u8 (x % 64)) w := by
  have := and_u8 6 63 rfl (by decide) h.1 (by omega : x < 256)
  go_simp
theorem rem64 (t : TypeId) (x : Int) (h : 0 ≤ x ∧ x ≤ 255) (w : World) : (binOp .rem t (.int .u8 x) (.int .u8 64)).run P w = .ok (.int .u8 (x % 64)) w := by
  have h1 := h.1
  have h2 := h.2
  go_simp
  exact Int.tmod_eq_emod_of_nonneg h1
end

set_option maxRecDepth 100000 in
theorem four6_any (A : Option Addr) (n c : Nat) (l : List Int) (w : World) (y : By w.heap.size w A n c l) (i : Nat) (hi : i + 3 < n) :
    Calls Try.prog 71 #[.slice A n c, .int .i64 i] w fun e w' => e = .returned (.int .u32 (be4 l i)) ∧ Below w.heap.size w w' := by
  have hbig := Nat.le_trans y.cap y.big
  have r0 := be2_rng y.rng i
  have r1 := be2_rng y.rng (i + 2)
  have o1 : bits .or .u32 (be2 l i * 65536) (be2 l (i + 2)) = be2 l i * 65536 + be2 l (i + 2) := or_u32 16 (by omega) (by omega) (by omega) (by omega) (by omega) (by omega)
  have z1 : (i : Int) + 2 < (n : Int) := by omega
  unfold be4
  go_enter Try.func71, Try.ntmps71
  go_wp2_with fail
  refine (two6_any A n c l w y i (by omega)).mono ?_
  rintro e w1 ⟨rfl, hb1⟩
  have y1 := (y.below hb1 (Nat.le_refl _)).more hb1.size
  go_wp2_with fail
  refine (two6_any A n c l w1 y1 (i + 2) (by omega)).mono ?_
  rintro e w2 ⟨rfl, hb2⟩
  go_wp2
  go_ret
  exact ⟨rfl, hb1.trans (hb2.mono hb1.size)⟩
end Go.Proofs.Ytaobnbjkhgcmlaa
end

section
/-
  The walk of segment.parseTCP over IPv4.
-/
namespace Go.Proofs.Ytaobnbjkhgcmlaa
open Go.RowKit Go.Shelf

/-- what the last region of parseTCP leans on -/
structure SPT (w w' : World) : Prop where
  has : ∃ old, Has w' w.heap.size (.cells old 26 (0, 0)) ∧ old.size = 9
  bel : Below w.heap.size w w'
  lt : w.heap.size < w'.heap.size
theorem SPT.keep {w w' w'' : World} (h : SPT w w') (hb : Below w'.heap.size w' w'') : SPT w w'' := by
  obtain ⟨old, ho, hs⟩ := h.has
  exact ⟨⟨old, ho.below hb h.lt, hs⟩, h.bel.trans (hb.mono h.bel.size), Nat.lt_of_lt_of_le h.lt hb.size⟩
theorem SPT.store {w w' w'' : World} {cs : Array Value} (h : SPT w w') (hc : Has w'' w.heap.size (.cells cs 26 (0, 0))) (hb : Below w.heap.size w' w'') (hn : cs.size = 9) : SPT w w'' :=
  ⟨⟨cs, hc, hn⟩, h.bel.trans hb, hc.lt⟩

set_option maxRecDepth 100000 in
set_option maxHeartbeats 4000000 in
theorem ptcp4_any (a b : List Int) (ha : a.length = 4) (hb : b.length = 4) (ra : InB a) (rb : InB b) (g1 g2 : Nat) (A : Option Addr) (c : Nat) (l : List Int) (w : World) (hA : Has w g1 (.cells (u8s a).toArray 34 (0, 0))) (hB' : Has w g2 (.cells (u8s b).toArray 34 (0, 0))) (y : By w.heap.size w A l.length c l) :
    Calls Try.prog 56 #[.func (.func 68) #[] #[.pointer (some ⟨g1, 0, none⟩), .pointer (some ⟨g2, 0, none⟩)], .slice A l.length c] w fun e w' => ToldT (tGot (pse4 a b l.length 6) l) (tErr (pse4 a b l.length 6) l) w e w' := by
  obtain ⟨PS, hPS⟩ : ∃ PS, pse4 a b (l.length : Int) 6 = PS := ⟨_, rfl⟩
  have hpl : PS.length ≤ 100 := by rw [← hPS, pse4_len ha hb]; decide
  rw [hPS]
  have hH1 : Has (w.alloc (.cells #[.int .u16 0, .int .u16 0, .int .u32 0, .int .u32 0, .int .u8 0, .int .u16 0, .int .u16 0, .slice none 0 0, .slice none 0 0] 26)) w.heap.size (.cells #[.int .u16 0, .int .u16 0, .int .u32 0, .int .u32 0, .int .u8 0, .int .u16 0, .int .u16 0, .slice none 0 0, .slice none 0 0] 26 (0, 0)) := Has.newAt rfl
  have hB1 : Below w.heap.size w (w.alloc (.cells #[.int .u16 0, .int .u16 0, .int .u32 0, .int .u32 0, .int .u8 0, .int .u16 0, .int .u16 0, .slice none 0 0, .slice none 0 0] 26)) := (Below.refl _ _).alloc (Nat.le_refl _) _
  have hbig := Nat.le_trans y.cap y.big
  by_cases h20 : l.length < 20
  · have he : tErr PS l = 60 := by unfold tErr; rw [if_pos h20]
    have hd := tGot_err (show tErr PS l ≠ 0 by rw [he]; decide)
    rw [hd, he]
    clear hd he
    go_enter Try.func56, Try.ntmps56
    go_wp2_with (refine wpList_store_has rfl 26 (.tmp 4) (.tmp 10) rfl w.heap.size _ rfl rfl 26 _ hH1 tcp_info rfl (by simp [Value.oneCell']) ?_; intro w9 hH9 hb9)
    exact bodyPost_ret (res_cell2 Try.results56 rfl (hH9.load (P := Try.prog) 26 Try.underlying26 rfl tcp_info) rfl) rfl ⟨noP, rfl, noT_ok, OwnB.nil _ _, OwnB.nil _ _, hB1.trans (hb9.mono (Nat.le_refl _))⟩
  have r12 := getD_rng y.rng 12
  obtain ⟨b0, off, rfl, hbl, -⟩ := y.row.at_ (by omega)
  have d12 := (y.below hB1 (Nat.le_refl _)).at (k := 12) (by omega)
  have hth : tHead l = l.getD 12 0 / 16 * 4 := rfl
  obtain ⟨x12, hx12⟩ : ∃ x, l.getD 12 0 = x := ⟨_, rfl⟩
  rw [hx12] at d12 r12 hth
  have z12 : (12 : Int) < (l.length : Int) := by omega
  obtain ⟨h, hh⟩ : ∃ h : Nat, x12 / 16 * 4 = (h : Int) := ⟨(x12 / 16 * 4).toNat, by omega⟩
  have hthn : (tHead l).toNat = h := by rw [hth, hh]; rfl
  rw [hh] at hth
  have hhb : h ≤ 60 := by omega
  by_cases h61 : h < 20 ∨ l.length < h
  · have he : tErr PS l = 61 := by unfold tErr; rw [if_neg h20, hth, if_pos (by omega)]
    have hd := tGot_err (show tErr PS l ≠ 0 by rw [he]; decide)
    rw [hd, he]
    clear hd he hth hthn hx12
    rcases Nat.lt_or_ge h 20 with h1 | h1
    · have h1 : (h : Int) < 20 := by omega
      clear h61
      go_enter Try.func56, Try.ntmps56
      go_wp2_with (refine wpList_store_has rfl 26 (.tmp 4) (.tmp 25) rfl w.heap.size _ rfl rfl 26 _ hH1 tcp_info rfl (by simp [Value.oneCell']) ?_; intro w9 hH9 hb9)
      exact bodyPost_ret (res_cell2 Try.results56 rfl (hH9.load (P := Try.prog) 26 Try.underlying26 rfl tcp_info) rfl) rfl ⟨noP, rfl, noT_ok, OwnB.nil _ _, OwnB.nil _ _, hB1.trans (hb9.mono (Nat.le_refl _))⟩
    · have h2 : (l.length : Int) < (h : Int) := by omega
      have h1 : (20 : Int) ≤ (h : Int) := by omega
      clear h61
      go_enter Try.func56, Try.ntmps56
      go_wp2_with (refine wpList_store_has rfl 26 (.tmp 4) (.tmp 25) rfl w.heap.size _ rfl rfl 26 _ hH1 tcp_info rfl (by simp [Value.oneCell']) ?_; intro w9 hH9 hb9)
      exact bodyPost_ret (res_cell2 Try.results56 rfl (hH9.load (P := Try.prog) 26 Try.underlying26 rfl tcp_info) rfl) rfl ⟨noP, rfl, noT_ok, OwnB.nil _ _, OwnB.nil _ _, hB1.trans (hb9.mono (Nat.le_refl _))⟩
  have h1 : (20 : Int) ≤ (h : Int) := by omega
  have h2 : (h : Int) ≤ (l.length : Int) := by omega
  by_cases h62 : 65535 < l.length
  · have he : tErr PS l = 2 := by unfold tErr; rw [if_neg h20, hth, if_neg (by omega), if_pos h62]
    have hd := tGot_err (show tErr PS l ≠ 0 by rw [he]; decide)
    rw [hd, he]
    clear hd he hth hthn hx12 h61
    go_enter Try.func56, Try.ntmps56
    go_wp2_with (refine wpList_store_has rfl 26 (.tmp 4) (.tmp 29) rfl w.heap.size _ rfl rfl 26 _ hH1 tcp_info rfl (by simp [Value.oneCell']) ?_; intro w9 hH9 hb9)
    exact bodyPost_ret (res_cell2 Try.results56 rfl (hH9.load (P := Try.prog) 26 Try.underlying26 rfl tcp_info) rfl) rfl ⟨noP, rfl, noT_ok, OwnB.nil _ _, OwnB.nil _ _, hB1.trans (hb9.mono (Nat.le_refl _))⟩
  by_cases hg : sumw (PS ++ l) = 65535
  case neg =>
    have he : tErr PS l = 62 := by unfold tErr; rw [if_neg h20, hth, if_neg (by omega), if_neg h62, if_pos hg]
    have hd := tGot_err (show tErr PS l ≠ 0 by rw [he]; decide)
    rw [hd, he]
    have hg := Lib.hid hg
    clear hd he hth hthn h61
    go_enter Try.func56, Try.ntmps56
    go_wp2_with fail
    refine (head4_any a b ha hb ra rb 6 (l.length : Int) (by decide) (by decide) (by omega) (by omega) g1 g2 _ (hA.below hB1 hA.lt) (hB'.below hB1 hB'.lt)).mono ?_
    rintro e w3 ⟨v3, rfl, o3, hb⟩
    rw [hPS] at o3
    obtain ⟨A5, k5, rfl, y5⟩ := o3.by_
    have hH3 := hH1.below hb hH1.lt
    have hB3 := hB1.trans (hb.mono hB1.size)
    have yl := (y.below hB3 (Nat.le_refl _)).more hB3.size
    have d12 := (y.below hB3 (Nat.le_refl _)).at (k := 12) (by omega)
    rw [hx12] at d12
    clear hb o3
    go_wp2_with fail
    refine (good_new [(A5, k5, PS), (some ⟨b0, off, none⟩, c, l)] 2 (by simp only [List.map_cons, List.map_nil]; exact Has.newAt (by simp)) rfl (all2 ((y5.alloc (Nat.le_refl _) _).more (by simp)) ((yl.alloc (Nat.le_refl _) _).more (by simp))) (by simp)).mono ?_
    rintro e w4 ⟨q, rfl, hq, hb⟩
    obtain rfl : q = false := hq.out.trans (by rw [show flat [(A5, k5, PS), (some ⟨b0, off, none⟩, c, l)] = PS ++ l from by simp [flat]]; exact decide_eq_false hg.out)
    have hb : Below w3.heap.size w3 w4 := ((Below.refl _ _).alloc (Nat.le_refl _) _).trans (hb.mono (by simp))
    have hH4 := hH3.below hb hH3.lt
    have hB4 := hB3.trans (hb.mono hB3.size)
    clear hb d12
    go_wp2_with (refine wpList_store_has rfl 26 (.tmp 4) (.tmp 38) rfl w.heap.size _ rfl rfl 26 _ hH4 tcp_info rfl (by simp [Value.oneCell']) ?_; intro w9 hH9 hb9)
    exact bodyPost_ret (res_cell2 Try.results56 rfl (hH9.load (P := Try.prog) 26 Try.underlying26 rfl tcp_info) rfl) rfl ⟨noP, rfl, noT_ok, OwnB.nil _ _, OwnB.nil _ _, hB4.trans (hb9.mono (Nat.le_refl _))⟩
  case pos =>
    have he : tErr PS l = 0 := by unfold tErr; rw [if_neg h20, hth, if_neg (by omega), if_neg h62, if_neg (by simp [hg])]
    have hd := tGot_ok he
    rw [hd, he]
    have hg := Lib.hid hg
    have htof : tOf l = ⟨be2 l 0, be2 l 2, be4 l 4, be4 l 8, l.getD 13 0 % 64, be2 l 14, be2 l 18, (l.take h).drop 20, l.drop h⟩ := by simp only [tOf, hthn]
    rw [htof]
    have hok := tOf_ok y.rng
    rw [htof] at hok
    clear hd he hth h61 htof hthn
    go_enter Try.func56, Try.ntmps56
    go_wp2_with fail
    refine (head4_any a b ha hb ra rb 6 (l.length : Int) (by decide) (by decide) (by omega) (by omega) g1 g2 _ (hA.below hB1 hA.lt) (hB'.below hB1 hB'.lt)).mono ?_
    rintro e w3 ⟨v3, rfl, o3, hb⟩
    rw [hPS] at o3
    obtain ⟨A5, k5, rfl, y5⟩ := o3.by_
    have hH3 := hH1.below hb hH1.lt
    have hB3 := hB1.trans (hb.mono hB1.size)
    have yl := (y.below hB3 (Nat.le_refl _)).more hB3.size
    have d12 := (y.below hB3 (Nat.le_refl _)).at (k := 12) (by omega)
    rw [hx12] at d12
    clear hb o3
    go_wp2_with fail
    refine (good_new [(A5, k5, PS), (some ⟨b0, off, none⟩, c, l)] 2 (by simp only [List.map_cons, List.map_nil]; exact Has.newAt (by simp)) rfl (all2 ((y5.alloc (Nat.le_refl _) _).more (by simp)) ((yl.alloc (Nat.le_refl _) _).more (by simp))) (by simp)).mono ?_
    rintro e w4 ⟨q, rfl, hq, hb⟩
    obtain rfl : q = true := hq.out.trans (by rw [show flat [(A5, k5, PS), (some ⟨b0, off, none⟩, c, l)] = PS ++ l from by simp [flat]]; exact decide_eq_true hg.out)
    have hb : Below w3.heap.size w3 w4 := ((Below.refl _ _).alloc (Nat.le_refl _) _).trans (hb.mono (by simp))
    have hH4 := hH3.below hb hH3.lt
    have hB4 := hB3.trans (hb.mono hB3.size)
    clear hb d12
    go_wp2_with fail
    have r13 := getD_rng y.rng 13
    have hlo : 20 ≤ h := by omega
    have hhi : h ≤ l.length := by omega
    obtain ⟨A7, c7, hsl7, y7⟩ := y.part (P := Try.prog) 24 Try.underlying24 (by kernel_rfl) (k := 20) (m := h) hlo hhi
    obtain ⟨A8, c8, hsl8, y8⟩ := y.from_ (P := Try.prog) 24 Try.underlying24 (by kernel_rfl) (k := h) hhi
    have hS0 : SPT w w4.drew := ⟨⟨_, hH4.drew, rfl⟩, hB4.trans (below_drew _ _), hH4.drew.lt⟩
    refine wp_region_held_drew (S := SPT w) (by kernel_rfl) hS0 (fun hS => ?_)
    generalize w4.drew = W0 at hS ⊢
    -- REGION 10
    refine tk (i := 0) (.slice (some ⟨b0, off, none⟩) l.length c) hS rfl (by kernel_rfl) (by kernel_rfl) (by kernel_rfl) (fun _ _ _ h => h) (by kernel_rfl) (by intro _ _; exact rfl) ?_
    simp only [Act.put, List.setIfInBounds_toArray, List.set_cons_zero, List.set_cons_succ]
    refine tk (i := 2) (.slice (some ⟨b0, off, none⟩) l.length c) hS rfl (by kernel_rfl) (by kernel_rfl) (by kernel_rfl) (fun _ _ _ h => h) (by kernel_rfl) (by intro _ _; exact rfl) ?_
    simp only [Act.put, List.setIfInBounds_toArray, List.set_cons_zero, List.set_cons_succ]
    refine tk (i := 4) (.slice (some ⟨b0, off, none⟩) l.length c) hS rfl (by kernel_rfl) (by kernel_rfl) (by kernel_rfl) (fun _ _ _ h => h) (by kernel_rfl) (by intro _ _; exact rfl) ?_
    simp only [Act.put, List.setIfInBounds_toArray, List.set_cons_zero, List.set_cons_succ]
    refine tk (i := 6) (.slice (some ⟨b0, off, none⟩) l.length c) hS rfl (by kernel_rfl) (by kernel_rfl) (by kernel_rfl) (fun _ _ _ h => h) (by kernel_rfl) (by intro _ _; exact rfl) ?_
    simp only [Act.put, List.setIfInBounds_toArray, List.set_cons_zero, List.set_cons_succ]
    refine tk (i := 8) (.slice (some ⟨b0, off, none⟩) l.length c) hS rfl (by kernel_rfl) (by kernel_rfl) (by kernel_rfl) (fun _ _ _ h => h) (by kernel_rfl) (by intro _ _; exact rfl) ?_
    simp only [Act.put, List.setIfInBounds_toArray, List.set_cons_zero, List.set_cons_succ]
    refine tk (i := 9) (.pointer (some ⟨b0, off + 13, none⟩)) hS rfl (by kernel_rfl) (by kernel_rfl) (by kernel_rfl) (fun _ _ _ h => h) (by kernel_rfl) (by intro _ _; exact ex_index (by exact rfl) Try.underlying24 (by kernel_rfl) (by exact rfl) (by exact rfl) (by omega)) ?_
    simp only [Act.put, List.setIfInBounds_toArray, List.set_cons_zero, List.set_cons_succ]
    refine tk (i := 10) (.int .u8 (l.getD 13 0)) hS rfl (by kernel_rfl) (by kernel_rfl) (by kernel_rfl) (fun _ _ _ h => h) (by kernel_rfl) (by intro _ h; exact ex_cell (by exact rfl) Try.underlying5 rfl (by exact rfl) ((y.below h.bel (Nat.le_refl _)).at (k := 13) (by omega))) ?_
    simp only [Act.put, List.setIfInBounds_toArray, List.set_cons_zero, List.set_cons_succ]
    refine tk (i := 11) (.int .u8 (l.getD 13 0 % 64)) hS rfl (by kernel_rfl) (by kernel_rfl) (by kernel_rfl) (fun _ _ _ h => h) (by kernel_rfl) (by intro _ _; exact ex_bin (by exact rfl) (by exact rfl) (by exact rfl) (by decide) (and63 _ _ r13 _)) ?_
    simp only [Act.put, List.setIfInBounds_toArray, List.set_cons_zero, List.set_cons_succ]
    refine tk (i := 12) (.slice (some ⟨b0, off, none⟩) l.length c) hS rfl (by kernel_rfl) (by kernel_rfl) (by kernel_rfl) (fun _ _ _ h => h) (by kernel_rfl) (by intro _ _; exact rfl) ?_
    simp only [Act.put, List.setIfInBounds_toArray, List.set_cons_zero, List.set_cons_succ]
    refine tk (i := 14) (.slice (some ⟨b0, off, none⟩) l.length c) hS rfl (by kernel_rfl) (by kernel_rfl) (by kernel_rfl) (fun _ _ _ h => h) (by kernel_rfl) (by intro _ _; exact rfl) ?_
    simp only [Act.put, List.setIfInBounds_toArray, List.set_cons_zero, List.set_cons_succ]
    refine tk (i := 16) (.slice (some ⟨b0, off, none⟩) l.length c) hS rfl (by kernel_rfl) (by kernel_rfl) (by kernel_rfl) (fun _ _ _ h => h) (by kernel_rfl) (by intro _ _; exact rfl) ?_
    simp only [Act.put, List.setIfInBounds_toArray, List.set_cons_zero, List.set_cons_succ]
    refine tk (i := 17) (.int .i64 (h : Int)) hS rfl (by kernel_rfl) (by kernel_rfl) (by kernel_rfl) (fun _ _ _ h => h) (by kernel_rfl) (by intro _ _; exact rfl) ?_
    simp only [Act.put, List.setIfInBounds_toArray, List.set_cons_zero, List.set_cons_succ]
    refine tk (i := 18) (.slice A7 (h - 20) c7) hS rfl (by kernel_rfl) (by kernel_rfl) (by kernel_rfl) (fun _ _ _ h => h) (by kernel_rfl) (by intro w' _; exact ex_slice (by exact rfl) (by exact rfl) (hsl7 w')) ?_
    simp only [Act.put, List.setIfInBounds_toArray, List.set_cons_zero, List.set_cons_succ]
    refine tk (i := 20) (.slice (some ⟨b0, off, none⟩) l.length c) hS rfl (by kernel_rfl) (by kernel_rfl) (by kernel_rfl) (fun _ _ _ h => h) (by kernel_rfl) (by intro _ _; exact rfl) ?_
    simp only [Act.put, List.setIfInBounds_toArray, List.set_cons_zero, List.set_cons_succ]
    refine tk (i := 21) (.int .i64 (h : Int)) hS rfl (by kernel_rfl) (by kernel_rfl) (by kernel_rfl) (fun _ _ _ h => h) (by kernel_rfl) (by intro _ _; exact rfl) ?_
    simp only [Act.put, List.setIfInBounds_toArray, List.set_cons_zero, List.set_cons_succ]
    refine tk (i := 22) (.slice A8 (l.length - h) c8) hS rfl (by kernel_rfl) (by kernel_rfl) (by kernel_rfl) (fun _ _ _ h => h) (by kernel_rfl) (by intro w' _; exact ex_slice (by exact rfl) (by exact rfl) (hsl8 w')) ?_
    simp only [Act.put, List.setIfInBounds_toArray, List.set_cons_zero, List.set_cons_succ]
    refine tk_one (by kernel_rfl) (op_callx (i := 1) (fun v w' => v = .int .u16 (be2 l 0)) rfl (by kernel_rfl) (by exact ex_call (by exact rfl) Try.func58 (by kernel_rfl) (by kernel_rfl) (by simp only [List.map_toArray, List.map_cons, List.map_nil] <;> rfl)) ((two6_any _ _ c l _ ((y.below hS.bel (Nat.le_refl _)).more hS.bel.size) 0 (by omega)).mono fun e w' g => ⟨_, g.1, rfl, hS.keep g.2⟩) ?_)
    rintro v1 W1 rfl hS1
    simp only [Act.put, List.setIfInBounds_toArray, List.set_cons_zero, List.set_cons_succ]
    refine tk_one (by kernel_rfl) (op_callx (i := 3) (fun v w' => v = .int .u16 (be2 l 2)) rfl (by kernel_rfl) (by exact ex_call (by exact rfl) Try.func58 (by kernel_rfl) (by kernel_rfl) (by simp only [List.map_toArray, List.map_cons, List.map_nil] <;> rfl)) ((two6_any _ _ c l _ ((y.below hS1.bel (Nat.le_refl _)).more hS1.bel.size) 2 (by omega)).mono fun e w' g => ⟨_, g.1, rfl, hS1.keep g.2⟩) ?_)
    rintro v2 W2 rfl hS2
    simp only [Act.put, List.setIfInBounds_toArray, List.set_cons_zero, List.set_cons_succ]
    refine tk_one (by kernel_rfl) (op_callx (i := 5) (fun v w' => v = .int .u32 (be4 l 4)) rfl (by kernel_rfl) (by exact ex_call (by exact rfl) Try.func71 (by kernel_rfl) (by kernel_rfl) (by simp only [List.map_toArray, List.map_cons, List.map_nil] <;> rfl)) ((four6_any _ _ c l _ ((y.below hS2.bel (Nat.le_refl _)).more hS2.bel.size) 4 (by omega)).mono fun e w' g => ⟨_, g.1, rfl, hS2.keep g.2⟩) ?_)
    rintro v3 W3 rfl hS3
    simp only [Act.put, List.setIfInBounds_toArray, List.set_cons_zero, List.set_cons_succ]
    refine tk_one (by kernel_rfl) (op_callx (i := 7) (fun v w' => v = .int .u32 (be4 l 8)) rfl (by kernel_rfl) (by exact ex_call (by exact rfl) Try.func71 (by kernel_rfl) (by kernel_rfl) (by simp only [List.map_toArray, List.map_cons, List.map_nil] <;> rfl)) ((four6_any _ _ c l _ ((y.below hS3.bel (Nat.le_refl _)).more hS3.bel.size) 8 (by omega)).mono fun e w' g => ⟨_, g.1, rfl, hS3.keep g.2⟩) ?_)
    rintro v4 W4 rfl hS4
    simp only [Act.put, List.setIfInBounds_toArray, List.set_cons_zero, List.set_cons_succ]
    refine tk_one (by kernel_rfl) (op_callx (i := 13) (fun v w' => v = .int .u16 (be2 l 14)) rfl (by kernel_rfl) (by exact ex_call (by exact rfl) Try.func58 (by kernel_rfl) (by kernel_rfl) (by simp only [List.map_toArray, List.map_cons, List.map_nil] <;> rfl)) ((two6_any _ _ c l _ ((y.below hS4.bel (Nat.le_refl _)).more hS4.bel.size) 14 (by omega)).mono fun e w' g => ⟨_, g.1, rfl, hS4.keep g.2⟩) ?_)
    rintro v9 W9 rfl hS9
    simp only [Act.put, List.setIfInBounds_toArray, List.set_cons_zero, List.set_cons_succ]
    refine tk_one (by kernel_rfl) (op_callx (i := 15) (fun v w' => v = .int .u16 (be2 l 18)) rfl (by kernel_rfl) (by exact ex_call (by exact rfl) Try.func58 (by kernel_rfl) (by kernel_rfl) (by simp only [List.map_toArray, List.map_cons, List.map_nil] <;> rfl)) ((two6_any _ _ c l _ ((y.below hS9.bel (Nat.le_refl _)).more hS9.bel.size) 18 (by omega)).mono fun e w' g => ⟨_, g.1, rfl, hS9.keep g.2⟩) ?_)
    rintro v10 W10 rfl hS10
    simp only [Act.put, List.setIfInBounds_toArray, List.set_cons_zero, List.set_cons_succ]
    refine tk_one (by kernel_rfl) (op_callx (i := 19) (fun v w' => OwnB w' W10.heap.size v ((l.take h).drop 20) ∧ Below W10.heap.size W10 w') rfl (by kernel_rfl) (by exact ex_call (by exact rfl) Try.func60 (by kernel_rfl) (by kernel_rfl) (by simp only [List.map_toArray, List.map_cons, List.map_nil] <;> rfl)) ((clone_n _ _ _ ((l.take h).drop 20) _ ((y7.below hS10.bel (Nat.le_refl _)).more hS10.bel.size) (by simp; omega)).mono fun e w' g => by obtain ⟨v, rfl, h2, h3⟩ := g; exact ⟨_, rfl, ⟨h2, h3⟩, hS10.keep h3⟩) ?_)
    rintro v5 W5 ⟨ho5, hb5⟩ hS5
    obtain ⟨A5, k5, rfl, _⟩ := own_shape ho5.own
    simp only [Act.put, List.setIfInBounds_toArray, List.set_cons_zero, List.set_cons_succ]
    refine tk_one (by kernel_rfl) (op_callx (i := 23) (fun v w' => OwnB w' W5.heap.size v (l.drop h) ∧ Below W5.heap.size W5 w') rfl (by kernel_rfl) (by exact ex_call (by exact rfl) Try.func60 (by kernel_rfl) (by kernel_rfl) (by simp only [List.map_toArray, List.map_cons, List.map_nil] <;> rfl)) ((clone_n _ _ _ (l.drop h) _ ((y8.below hS5.bel (Nat.le_refl _)).more hS5.bel.size) (by simp; omega)).mono fun e w' g => by obtain ⟨v, rfl, h2, h3⟩ := g; exact ⟨_, rfl, ⟨h2, h3⟩, hS5.keep h3⟩) ?_)
    rintro v6 W6 ⟨ho6, hb6⟩ hS6
    obtain ⟨A6, k6, rfl, _⟩ := own_shape ho6.own
    have ho5 := ho5.below hb6
    simp only [Act.put, List.setIfInBounds_toArray, List.set_cons_zero, List.set_cons_succ]
    refine tk (i := 24) (.agg #[.int .u16 (be2 l 0), .int .u16 (be2 l 2), .int .u32 (be4 l 4), .int .u32 (be4 l 8), .int .u8 (l.getD 13 0 % 64), .int .u16 (be2 l 14), .int .u16 (be2 l 18), .slice A5 ((l.take h).drop 20).length k5, .slice A6 (l.drop h).length k6]) hS6 rfl (by kernel_rfl) (by kernel_rfl) (by kernel_rfl) (fun _ _ _ h => h) (by kernel_rfl) (by intro _ _; go_simp) ?_
    simp only [Act.put, List.setIfInBounds_toArray, List.set_cons_zero, List.set_cons_succ]
    obtain ⟨old, hold, hold2⟩ := hS6.has
    refine tk_store (i := 25) (by kernel_rfl) rfl (by kernel_rfl) rfl rfl rfl hold tcp_info hold2 (by simp [Value.oneCell']) (hS6.store hold.setRow_same below_setRow' rfl) ?_
    have hS11 := hS6.store hold.setRow_same (cs := #[.int .u16 (be2 l 0), .int .u16 (be2 l 2), .int .u32 (be4 l 4), .int .u32 (be4 l 8), .int .u8 (l.getD 13 0 % 64), .int .u16 (be2 l 14), .int .u16 (be2 l 18), .slice A5 ((l.take h).drop 20).length k5, .slice A6 (l.drop h).length k6]) below_setRow' rfl
    simp only [Act.put, List.setIfInBounds_toArray, List.set_cons_zero, List.set_cons_succ]
    refine tk (i := 26) (.int .i64 0) hS11 rfl (by kernel_rfl) (by kernel_rfl) (by kernel_rfl) (fun _ _ _ h => h) (by kernel_rfl) (by intro _ _; exact rfl) ?_
    simp only [Act.put, List.setIfInBounds_toArray, List.set_cons_zero, List.set_cons_succ]
    refine wpAnyH_done (by kernel_rfl) ?_ _
    have hH4 := hold.setRow_same (cs' := #[.int .u16 (be2 l 0), .int .u16 (be2 l 2), .int .u32 (be4 l 4), .int .u32 (be4 l 8), .int .u8 (l.getD 13 0 % 64), .int .u16 (be2 l 14), .int .u16 (be2 l 18), .slice A5 ((l.take h).drop 20).length k5, .slice A6 (l.drop h).length k6])
    have ho7 := (ho5.setRow (g := w.heap.size) (cs := #[.int .u16 (be2 l 0), .int .u16 (be2 l 2), .int .u32 (be4 l 4), .int .u32 (be4 l 8), .int .u8 (l.getD 13 0 % 64), .int .u16 (be2 l 14), .int .u16 (be2 l 18), .slice A5 ((l.take h).drop 20).length k5, .slice A6 (l.drop h).length k6]) hS10.lt).more hS10.bel.size
    have ho8 := (ho6.setRow (g := w.heap.size) (cs := #[.int .u16 (be2 l 0), .int .u16 (be2 l 2), .int .u32 (be4 l 4), .int .u32 (be4 l 8), .int .u8 (l.getD 13 0 % 64), .int .u16 (be2 l 14), .int .u16 (be2 l 18), .slice A5 ((l.take h).drop 20).length k5, .slice A6 (l.drop h).length k6]) hS5.lt).more hS5.bel.size
    have hb4 := hS11.bel
    generalize W6.setRow w.heap.size #[.int .u16 (be2 l 0), .int .u16 (be2 l 2), .int .u32 (be4 l 4), .int .u32 (be4 l 8), .int .u8 (l.getD 13 0 % 64), .int .u16 (be2 l 14), .int .u16 (be2 l 18), .slice A5 ((l.take h).drop 20).length k5, .slice A6 (l.drop h).length k6] = W7 at hH4 ho7 ho8 hb4 ⊢
    clear ho5 ho6
    go_wp2
    exact bodyPost_ret (res_cell2 Try.results56 rfl (hH4.load (P := Try.prog) 26 Try.underlying26 rfl tcp_info) rfl) rfl ⟨⟨A5, k5, A6, k6⟩, rfl, hok, ho7, ho8, hb4⟩
    -- END 10
end Go.Proofs.Ytaobnbjkhgcmlaa
end

section
/-
  The walk of segment.parseTCP over IPv6.
-/
namespace Go.Proofs.Ytaobnbjkhgcmlaa
open Go.RowKit Go.Shelf

set_option maxRecDepth 100000 in
set_option maxHeartbeats 4000000 in
theorem ptcp6_any (a b : List Int) (ha : a.length = 16) (hb : b.length = 16) (ra : InB a) (rb : InB b) (g1 g2 : Nat) (A : Option Addr) (c : Nat) (l : List Int) (w : World) (hA : Has w g1 (.cells (u8s a).toArray 36 (0, 0))) (hB' : Has w g2 (.cells (u8s b).toArray 36 (0, 0))) (y : By w.heap.size w A l.length c l) :
    Calls Try.prog 56 #[.func (.func 65) #[] #[.pointer (some ⟨g1, 0, none⟩), .pointer (some ⟨g2, 0, none⟩)], .slice A l.length c] w fun e w' => ToldT (tGot (pse6 a b l.length 6) l) (tErr (pse6 a b l.length 6) l) w e w' := by
  obtain ⟨PS, hPS⟩ : ∃ PS, pse6 a b (l.length : Int) 6 = PS := ⟨_, rfl⟩
  have hpl : PS.length ≤ 100 := by rw [← hPS, pse6_len ha hb]; decide
  rw [hPS]
  have hH1 : Has (w.alloc (.cells #[.int .u16 0, .int .u16 0, .int .u32 0, .int .u32 0, .int .u8 0, .int .u16 0, .int .u16 0, .slice none 0 0, .slice none 0 0] 26)) w.heap.size (.cells #[.int .u16 0, .int .u16 0, .int .u32 0, .int .u32 0, .int .u8 0, .int .u16 0, .int .u16 0, .slice none 0 0, .slice none 0 0] 26 (0, 0)) := Has.newAt rfl
  have hB1 : Below w.heap.size w (w.alloc (.cells #[.int .u16 0, .int .u16 0, .int .u32 0, .int .u32 0, .int .u8 0, .int .u16 0, .int .u16 0, .slice none 0 0, .slice none 0 0] 26)) := (Below.refl _ _).alloc (Nat.le_refl _) _
  have hbig := Nat.le_trans y.cap y.big
  by_cases h20 : l.length < 20
  · have he : tErr PS l = 60 := by unfold tErr; rw [if_pos h20]
    have hd := tGot_err (show tErr PS l ≠ 0 by rw [he]; decide)
    rw [hd, he]
    clear hd he
    go_enter Try.func56, Try.ntmps56
    go_wp2_with (refine wpList_store_has rfl 26 (.tmp 4) (.tmp 10) rfl w.heap.size _ rfl rfl 26 _ hH1 tcp_info rfl (by simp [Value.oneCell']) ?_; intro w9 hH9 hb9)
    exact bodyPost_ret (res_cell2 Try.results56 rfl (hH9.load (P := Try.prog) 26 Try.underlying26 rfl tcp_info) rfl) rfl ⟨noP, rfl, noT_ok, OwnB.nil _ _, OwnB.nil _ _, hB1.trans (hb9.mono (Nat.le_refl _))⟩
  have r12 := getD_rng y.rng 12
  obtain ⟨b0, off, rfl, hbl, -⟩ := y.row.at_ (by omega)
  have d12 := (y.below hB1 (Nat.le_refl _)).at (k := 12) (by omega)
  have hth : tHead l = l.getD 12 0 / 16 * 4 := rfl
  obtain ⟨x12, hx12⟩ : ∃ x, l.getD 12 0 = x := ⟨_, rfl⟩
  rw [hx12] at d12 r12 hth
  have z12 : (12 : Int) < (l.length : Int) := by omega
  obtain ⟨h, hh⟩ : ∃ h : Nat, x12 / 16 * 4 = (h : Int) := ⟨(x12 / 16 * 4).toNat, by omega⟩
  have hthn : (tHead l).toNat = h := by rw [hth, hh]; rfl
  rw [hh] at hth
  have hhb : h ≤ 60 := by omega
  by_cases h61 : h < 20 ∨ l.length < h
  · have he : tErr PS l = 61 := by unfold tErr; rw [if_neg h20, hth, if_pos (by omega)]
    have hd := tGot_err (show tErr PS l ≠ 0 by rw [he]; decide)
    rw [hd, he]
    clear hd he hth hthn hx12
    rcases Nat.lt_or_ge h 20 with h1 | h1
    · have h1 : (h : Int) < 20 := by omega
      clear h61
      go_enter Try.func56, Try.ntmps56
      go_wp2_with (refine wpList_store_has rfl 26 (.tmp 4) (.tmp 25) rfl w.heap.size _ rfl rfl 26 _ hH1 tcp_info rfl (by simp [Value.oneCell']) ?_; intro w9 hH9 hb9)
      exact bodyPost_ret (res_cell2 Try.results56 rfl (hH9.load (P := Try.prog) 26 Try.underlying26 rfl tcp_info) rfl) rfl ⟨noP, rfl, noT_ok, OwnB.nil _ _, OwnB.nil _ _, hB1.trans (hb9.mono (Nat.le_refl _))⟩
    · have h2 : (l.length : Int) < (h : Int) := by omega
      have h1 : (20 : Int) ≤ (h : Int) := by omega
      clear h61
      go_enter Try.func56, Try.ntmps56
      go_wp2_with (refine wpList_store_has rfl 26 (.tmp 4) (.tmp 25) rfl w.heap.size _ rfl rfl 26 _ hH1 tcp_info rfl (by simp [Value.oneCell']) ?_; intro w9 hH9 hb9)
      exact bodyPost_ret (res_cell2 Try.results56 rfl (hH9.load (P := Try.prog) 26 Try.underlying26 rfl tcp_info) rfl) rfl ⟨noP, rfl, noT_ok, OwnB.nil _ _, OwnB.nil _ _, hB1.trans (hb9.mono (Nat.le_refl _))⟩
  have h1 : (20 : Int) ≤ (h : Int) := by omega
  have h2 : (h : Int) ≤ (l.length : Int) := by omega
  by_cases h62 : 65535 < l.length
  · have he : tErr PS l = 2 := by unfold tErr; rw [if_neg h20, hth, if_neg (by omega), if_pos h62]
    have hd := tGot_err (show tErr PS l ≠ 0 by rw [he]; decide)
    rw [hd, he]
    clear hd he hth hthn hx12 h61
    go_enter Try.func56, Try.ntmps56
    go_wp2_with (refine wpList_store_has rfl 26 (.tmp 4) (.tmp 29) rfl w.heap.size _ rfl rfl 26 _ hH1 tcp_info rfl (by simp [Value.oneCell']) ?_; intro w9 hH9 hb9)
    exact bodyPost_ret (res_cell2 Try.results56 rfl (hH9.load (P := Try.prog) 26 Try.underlying26 rfl tcp_info) rfl) rfl ⟨noP, rfl, noT_ok, OwnB.nil _ _, OwnB.nil _ _, hB1.trans (hb9.mono (Nat.le_refl _))⟩
  by_cases hg : sumw (PS ++ l) = 65535
  case neg =>
    have he : tErr PS l = 62 := by unfold tErr; rw [if_neg h20, hth, if_neg (by omega), if_neg h62, if_pos hg]
    have hd := tGot_err (show tErr PS l ≠ 0 by rw [he]; decide)
    rw [hd, he]
    have hg := Lib.hid hg
    clear hd he hth hthn h61
    go_enter Try.func56, Try.ntmps56
    go_wp2_with fail
    refine (head6_any a b ha hb ra rb 6 (l.length : Int) (by decide) (by decide) (by omega) (by omega) g1 g2 _ (hA.below hB1 hA.lt) (hB'.below hB1 hB'.lt)).mono ?_
    rintro e w3 ⟨v3, rfl, o3, hb⟩
    rw [hPS] at o3
    obtain ⟨A5, k5, rfl, y5⟩ := o3.by_
    have hH3 := hH1.below hb hH1.lt
    have hB3 := hB1.trans (hb.mono hB1.size)
    have yl := (y.below hB3 (Nat.le_refl _)).more hB3.size
    have d12 := (y.below hB3 (Nat.le_refl _)).at (k := 12) (by omega)
    rw [hx12] at d12
    clear hb o3
    go_wp2_with fail
    refine (good_new [(A5, k5, PS), (some ⟨b0, off, none⟩, c, l)] 2 (by simp only [List.map_cons, List.map_nil]; exact Has.newAt (by simp)) rfl (all2 ((y5.alloc (Nat.le_refl _) _).more (by simp)) ((yl.alloc (Nat.le_refl _) _).more (by simp))) (by simp)).mono ?_
    rintro e w4 ⟨q, rfl, hq, hb⟩
    obtain rfl : q = false := hq.out.trans (by rw [show flat [(A5, k5, PS), (some ⟨b0, off, none⟩, c, l)] = PS ++ l from by simp [flat]]; exact decide_eq_false hg.out)
    have hb : Below w3.heap.size w3 w4 := ((Below.refl _ _).alloc (Nat.le_refl _) _).trans (hb.mono (by simp))
    have hH4 := hH3.below hb hH3.lt
    have hB4 := hB3.trans (hb.mono hB3.size)
    clear hb d12
    go_wp2_with (refine wpList_store_has rfl 26 (.tmp 4) (.tmp 38) rfl w.heap.size _ rfl rfl 26 _ hH4 tcp_info rfl (by simp [Value.oneCell']) ?_; intro w9 hH9 hb9)
    exact bodyPost_ret (res_cell2 Try.results56 rfl (hH9.load (P := Try.prog) 26 Try.underlying26 rfl tcp_info) rfl) rfl ⟨noP, rfl, noT_ok, OwnB.nil _ _, OwnB.nil _ _, hB4.trans (hb9.mono (Nat.le_refl _))⟩
  case pos =>
    have he : tErr PS l = 0 := by unfold tErr; rw [if_neg h20, hth, if_neg (by omega), if_neg h62, if_neg (by simp [hg])]
    have hd := tGot_ok he
    rw [hd, he]
    have hg := Lib.hid hg
    have htof : tOf l = ⟨be2 l 0, be2 l 2, be4 l 4, be4 l 8, l.getD 13 0 % 64, be2 l 14, be2 l 18, (l.take h).drop 20, l.drop h⟩ := by simp only [tOf, hthn]
    rw [htof]
    have hok := tOf_ok y.rng
    rw [htof] at hok
    clear hd he hth h61 htof hthn
    go_enter Try.func56, Try.ntmps56
    go_wp2_with fail
    refine (head6_any a b ha hb ra rb 6 (l.length : Int) (by decide) (by decide) (by omega) (by omega) g1 g2 _ (hA.below hB1 hA.lt) (hB'.below hB1 hB'.lt)).mono ?_
    rintro e w3 ⟨v3, rfl, o3, hb⟩
    rw [hPS] at o3
    obtain ⟨A5, k5, rfl, y5⟩ := o3.by_
    have hH3 := hH1.below hb hH1.lt
    have hB3 := hB1.trans (hb.mono hB1.size)
    have yl := (y.below hB3 (Nat.le_refl _)).more hB3.size
    have d12 := (y.below hB3 (Nat.le_refl _)).at (k := 12) (by omega)
    rw [hx12] at d12
    clear hb o3
    go_wp2_with fail
    refine (good_new [(A5, k5, PS), (some ⟨b0, off, none⟩, c, l)] 2 (by simp only [List.map_cons, List.map_nil]; exact Has.newAt (by simp)) rfl (all2 ((y5.alloc (Nat.le_refl _) _).more (by simp)) ((yl.alloc (Nat.le_refl _) _).more (by simp))) (by simp)).mono ?_
    rintro e w4 ⟨q, rfl, hq, hb⟩
    obtain rfl : q = true := hq.out.trans (by rw [show flat [(A5, k5, PS), (some ⟨b0, off, none⟩, c, l)] = PS ++ l from by simp [flat]]; exact decide_eq_true hg.out)
    have hb : Below w3.heap.size w3 w4 := ((Below.refl _ _).alloc (Nat.le_refl _) _).trans (hb.mono (by simp))
    have hH4 := hH3.below hb hH3.lt
    have hB4 := hB3.trans (hb.mono hB3.size)
    clear hb d12
    go_wp2_with fail
    have r13 := getD_rng y.rng 13
    have hlo : 20 ≤ h := by omega
    have hhi : h ≤ l.length := by omega
    obtain ⟨A7, c7, hsl7, y7⟩ := y.part (P := Try.prog) 24 Try.underlying24 (by kernel_rfl) (k := 20) (m := h) hlo hhi
    obtain ⟨A8, c8, hsl8, y8⟩ := y.from_ (P := Try.prog) 24 Try.underlying24 (by kernel_rfl) (k := h) hhi
    have hS0 : SPT w w4.drew := ⟨⟨_, hH4.drew, rfl⟩, hB4.trans (below_drew _ _), hH4.drew.lt⟩
    refine wp_region_held_drew (S := SPT w) (by kernel_rfl) hS0 (fun hS => ?_)
    generalize w4.drew = W0 at hS ⊢
    -- REGION 10
    refine tk (i := 0) (.slice (some ⟨b0, off, none⟩) l.length c) hS rfl (by kernel_rfl) (by kernel_rfl) (by kernel_rfl) (fun _ _ _ h => h) (by kernel_rfl) (by intro _ _; exact rfl) ?_
    simp only [Act.put, List.setIfInBounds_toArray, List.set_cons_zero, List.set_cons_succ]
    refine tk (i := 2) (.slice (some ⟨b0, off, none⟩) l.length c) hS rfl (by kernel_rfl) (by kernel_rfl) (by kernel_rfl) (fun _ _ _ h => h) (by kernel_rfl) (by intro _ _; exact rfl) ?_
    simp only [Act.put, List.setIfInBounds_toArray, List.set_cons_zero, List.set_cons_succ]
    refine tk (i := 4) (.slice (some ⟨b0, off, none⟩) l.length c) hS rfl (by kernel_rfl) (by kernel_rfl) (by kernel_rfl) (fun _ _ _ h => h) (by kernel_rfl) (by intro _ _; exact rfl) ?_
    simp only [Act.put, List.setIfInBounds_toArray, List.set_cons_zero, List.set_cons_succ]
    refine tk (i := 6) (.slice (some ⟨b0, off, none⟩) l.length c) hS rfl (by kernel_rfl) (by kernel_rfl) (by kernel_rfl) (fun _ _ _ h => h) (by kernel_rfl) (by intro _ _; exact rfl) ?_
    simp only [Act.put, List.setIfInBounds_toArray, List.set_cons_zero, List.set_cons_succ]
    refine tk (i := 8) (.slice (some ⟨b0, off, none⟩) l.length c) hS rfl (by kernel_rfl) (by kernel_rfl) (by kernel_rfl) (fun _ _ _ h => h) (by kernel_rfl) (by intro _ _; exact rfl) ?_
    simp only [Act.put, List.setIfInBounds_toArray, List.set_cons_zero, List.set_cons_succ]
    refine tk (i := 9) (.pointer (some ⟨b0, off + 13, none⟩)) hS rfl (by kernel_rfl) (by kernel_rfl) (by kernel_rfl) (fun _ _ _ h => h) (by kernel_rfl) (by intro _ _; exact ex_index (by exact rfl) Try.underlying24 (by kernel_rfl) (by exact rfl) (by exact rfl) (by omega)) ?_
    simp only [Act.put, List.setIfInBounds_toArray, List.set_cons_zero, List.set_cons_succ]
    refine tk (i := 10) (.int .u8 (l.getD 13 0)) hS rfl (by kernel_rfl) (by kernel_rfl) (by kernel_rfl) (fun _ _ _ h => h) (by kernel_rfl) (by intro _ h; exact ex_cell (by exact rfl) Try.underlying5 rfl (by exact rfl) ((y.below h.bel (Nat.le_refl _)).at (k := 13) (by omega))) ?_
    simp only [Act.put, List.setIfInBounds_toArray, List.set_cons_zero, List.set_cons_succ]
    refine tk (i := 11) (.int .u8 (l.getD 13 0 % 64)) hS rfl (by kernel_rfl) (by kernel_rfl) (by kernel_rfl) (fun _ _ _ h => h) (by kernel_rfl) (by intro _ _; exact ex_bin (by exact rfl) (by exact rfl) (by exact rfl) (by decide) (and63 _ _ r13 _)) ?_
    simp only [Act.put, List.setIfInBounds_toArray, List.set_cons_zero, List.set_cons_succ]
    refine tk (i := 12) (.slice (some ⟨b0, off, none⟩) l.length c) hS rfl (by kernel_rfl) (by kernel_rfl) (by kernel_rfl) (fun _ _ _ h => h) (by kernel_rfl) (by intro _ _; exact rfl) ?_
    simp only [Act.put, List.setIfInBounds_toArray, List.set_cons_zero, List.set_cons_succ]
    refine tk (i := 14) (.slice (some ⟨b0, off, none⟩) l.length c) hS rfl (by kernel_rfl) (by kernel_rfl) (by kernel_rfl) (fun _ _ _ h => h) (by kernel_rfl) (by intro _ _; exact rfl) ?_
    simp only [Act.put, List.setIfInBounds_toArray, List.set_cons_zero, List.set_cons_succ]
    refine tk (i := 16) (.slice (some ⟨b0, off, none⟩) l.length c) hS rfl (by kernel_rfl) (by kernel_rfl) (by kernel_rfl) (fun _ _ _ h => h) (by kernel_rfl) (by intro _ _; exact rfl) ?_
    simp only [Act.put, List.setIfInBounds_toArray, List.set_cons_zero, List.set_cons_succ]
    refine tk (i := 17) (.int .i64 (h : Int)) hS rfl (by kernel_rfl) (by kernel_rfl) (by kernel_rfl) (fun _ _ _ h => h) (by kernel_rfl) (by intro _ _; exact rfl) ?_
    simp only [Act.put, List.setIfInBounds_toArray, List.set_cons_zero, List.set_cons_succ]
    refine tk (i := 18) (.slice A7 (h - 20) c7) hS rfl (by kernel_rfl) (by kernel_rfl) (by kernel_rfl) (fun _ _ _ h => h) (by kernel_rfl) (by intro w' _; exact ex_slice (by exact rfl) (by exact rfl) (hsl7 w')) ?_
    simp only [Act.put, List.setIfInBounds_toArray, List.set_cons_zero, List.set_cons_succ]
    refine tk (i := 20) (.slice (some ⟨b0, off, none⟩) l.length c) hS rfl (by kernel_rfl) (by kernel_rfl) (by kernel_rfl) (fun _ _ _ h => h) (by kernel_rfl) (by intro _ _; exact rfl) ?_
    simp only [Act.put, List.setIfInBounds_toArray, List.set_cons_zero, List.set_cons_succ]
    refine tk (i := 21) (.int .i64 (h : Int)) hS rfl (by kernel_rfl) (by kernel_rfl) (by kernel_rfl) (fun _ _ _ h => h) (by kernel_rfl) (by intro _ _; exact rfl) ?_
    simp only [Act.put, List.setIfInBounds_toArray, List.set_cons_zero, List.set_cons_succ]
    refine tk (i := 22) (.slice A8 (l.length - h) c8) hS rfl (by kernel_rfl) (by kernel_rfl) (by kernel_rfl) (fun _ _ _ h => h) (by kernel_rfl) (by intro w' _; exact ex_slice (by exact rfl) (by exact rfl) (hsl8 w')) ?_
    simp only [Act.put, List.setIfInBounds_toArray, List.set_cons_zero, List.set_cons_succ]
    refine tk_one (by kernel_rfl) (op_callx (i := 1) (fun v w' => v = .int .u16 (be2 l 0)) rfl (by kernel_rfl) (by exact ex_call (by exact rfl) Try.func58 (by kernel_rfl) (by kernel_rfl) (by simp only [List.map_toArray, List.map_cons, List.map_nil] <;> rfl)) ((two6_any _ _ c l _ ((y.below hS.bel (Nat.le_refl _)).more hS.bel.size) 0 (by omega)).mono fun e w' g => ⟨_, g.1, rfl, hS.keep g.2⟩) ?_)
    rintro v1 W1 rfl hS1
    simp only [Act.put, List.setIfInBounds_toArray, List.set_cons_zero, List.set_cons_succ]
    refine tk_one (by kernel_rfl) (op_callx (i := 3) (fun v w' => v = .int .u16 (be2 l 2)) rfl (by kernel_rfl) (by exact ex_call (by exact rfl) Try.func58 (by kernel_rfl) (by kernel_rfl) (by simp only [List.map_toArray, List.map_cons, List.map_nil] <;> rfl)) ((two6_any _ _ c l _ ((y.below hS1.bel (Nat.le_refl _)).more hS1.bel.size) 2 (by omega)).mono fun e w' g => ⟨_, g.1, rfl, hS1.keep g.2⟩) ?_)
    rintro v2 W2 rfl hS2
    simp only [Act.put, List.setIfInBounds_toArray, List.set_cons_zero, List.set_cons_succ]
    refine tk_one (by kernel_rfl) (op_callx (i := 5) (fun v w' => v = .int .u32 (be4 l 4)) rfl (by kernel_rfl) (by exact ex_call (by exact rfl) Try.func71 (by kernel_rfl) (by kernel_rfl) (by simp only [List.map_toArray, List.map_cons, List.map_nil] <;> rfl)) ((four6_any _ _ c l _ ((y.below hS2.bel (Nat.le_refl _)).more hS2.bel.size) 4 (by omega)).mono fun e w' g => ⟨_, g.1, rfl, hS2.keep g.2⟩) ?_)
    rintro v3 W3 rfl hS3
    simp only [Act.put, List.setIfInBounds_toArray, List.set_cons_zero, List.set_cons_succ]
    refine tk_one (by kernel_rfl) (op_callx (i := 7) (fun v w' => v = .int .u32 (be4 l 8)) rfl (by kernel_rfl) (by exact ex_call (by exact rfl) Try.func71 (by kernel_rfl) (by kernel_rfl) (by simp only [List.map_toArray, List.map_cons, List.map_nil] <;> rfl)) ((four6_any _ _ c l _ ((y.below hS3.bel (Nat.le_refl _)).more hS3.bel.size) 8 (by omega)).mono fun e w' g => ⟨_, g.1, rfl, hS3.keep g.2⟩) ?_)
    rintro v4 W4 rfl hS4
    simp only [Act.put, List.setIfInBounds_toArray, List.set_cons_zero, List.set_cons_succ]
    refine tk_one (by kernel_rfl) (op_callx (i := 13) (fun v w' => v = .int .u16 (be2 l 14)) rfl (by kernel_rfl) (by exact ex_call (by exact rfl) Try.func58 (by kernel_rfl) (by kernel_rfl) (by simp only [List.map_toArray, List.map_cons, List.map_nil] <;> rfl)) ((two6_any _ _ c l _ ((y.below hS4.bel (Nat.le_refl _)).more hS4.bel.size) 14 (by omega)).mono fun e w' g => ⟨_, g.1, rfl, hS4.keep g.2⟩) ?_)
    rintro v9 W9 rfl hS9
    simp only [Act.put, List.setIfInBounds_toArray, List.set_cons_zero, List.set_cons_succ]
    refine tk_one (by kernel_rfl) (op_callx (i := 15) (fun v w' => v = .int .u16 (be2 l 18)) rfl (by kernel_rfl) (by exact ex_call (by exact rfl) Try.func58 (by kernel_rfl) (by kernel_rfl) (by simp only [List.map_toArray, List.map_cons, List.map_nil] <;> rfl)) ((two6_any _ _ c l _ ((y.below hS9.bel (Nat.le_refl _)).more hS9.bel.size) 18 (by omega)).mono fun e w' g => ⟨_, g.1, rfl, hS9.keep g.2⟩) ?_)
    rintro v10 W10 rfl hS10
    simp only [Act.put, List.setIfInBounds_toArray, List.set_cons_zero, List.set_cons_succ]
    refine tk_one (by kernel_rfl) (op_callx (i := 19) (fun v w' => OwnB w' W10.heap.size v ((l.take h).drop 20) ∧ Below W10.heap.size W10 w') rfl (by kernel_rfl) (by exact ex_call (by exact rfl) Try.func60 (by kernel_rfl) (by kernel_rfl) (by simp only [List.map_toArray, List.map_cons, List.map_nil] <;> rfl)) ((clone_n _ _ _ ((l.take h).drop 20) _ ((y7.below hS10.bel (Nat.le_refl _)).more hS10.bel.size) (by simp; omega)).mono fun e w' g => by obtain ⟨v, rfl, h2, h3⟩ := g; exact ⟨_, rfl, ⟨h2, h3⟩, hS10.keep h3⟩) ?_)
    rintro v5 W5 ⟨ho5, hb5⟩ hS5
    obtain ⟨A5, k5, rfl, _⟩ := own_shape ho5.own
    simp only [Act.put, List.setIfInBounds_toArray, List.set_cons_zero, List.set_cons_succ]
    refine tk_one (by kernel_rfl) (op_callx (i := 23) (fun v w' => OwnB w' W5.heap.size v (l.drop h) ∧ Below W5.heap.size W5 w') rfl (by kernel_rfl) (by exact ex_call (by exact rfl) Try.func60 (by kernel_rfl) (by kernel_rfl) (by simp only [List.map_toArray, List.map_cons, List.map_nil] <;> rfl)) ((clone_n _ _ _ (l.drop h) _ ((y8.below hS5.bel (Nat.le_refl _)).more hS5.bel.size) (by simp; omega)).mono fun e w' g => by obtain ⟨v, rfl, h2, h3⟩ := g; exact ⟨_, rfl, ⟨h2, h3⟩, hS5.keep h3⟩) ?_)
    rintro v6 W6 ⟨ho6, hb6⟩ hS6
    obtain ⟨A6, k6, rfl, _⟩ := own_shape ho6.own
    have ho5 := ho5.below hb6
    simp only [Act.put, List.setIfInBounds_toArray, List.set_cons_zero, List.set_cons_succ]
    refine tk (i := 24) (.agg #[.int .u16 (be2 l 0), .int .u16 (be2 l 2), .int .u32 (be4 l 4), .int .u32 (be4 l 8), .int .u8 (l.getD 13 0 % 64), .int .u16 (be2 l 14), .int .u16 (be2 l 18), .slice A5 ((l.take h).drop 20).length k5, .slice A6 (l.drop h).length k6]) hS6 rfl (by kernel_rfl) (by kernel_rfl) (by kernel_rfl) (fun _ _ _ h => h) (by kernel_rfl) (by intro _ _; go_simp) ?_
    simp only [Act.put, List.setIfInBounds_toArray, List.set_cons_zero, List.set_cons_succ]
    obtain ⟨old, hold, hold2⟩ := hS6.has
    refine tk_store (i := 25) (by kernel_rfl) rfl (by kernel_rfl) rfl rfl rfl hold tcp_info hold2 (by simp [Value.oneCell']) (hS6.store hold.setRow_same below_setRow' rfl) ?_
    have hS11 := hS6.store hold.setRow_same (cs := #[.int .u16 (be2 l 0), .int .u16 (be2 l 2), .int .u32 (be4 l 4), .int .u32 (be4 l 8), .int .u8 (l.getD 13 0 % 64), .int .u16 (be2 l 14), .int .u16 (be2 l 18), .slice A5 ((l.take h).drop 20).length k5, .slice A6 (l.drop h).length k6]) below_setRow' rfl
    simp only [Act.put, List.setIfInBounds_toArray, List.set_cons_zero, List.set_cons_succ]
    refine tk (i := 26) (.int .i64 0) hS11 rfl (by kernel_rfl) (by kernel_rfl) (by kernel_rfl) (fun _ _ _ h => h) (by kernel_rfl) (by intro _ _; exact rfl) ?_
    simp only [Act.put, List.setIfInBounds_toArray, List.set_cons_zero, List.set_cons_succ]
    refine wpAnyH_done (by kernel_rfl) ?_ _
    have hH4 := hold.setRow_same (cs' := #[.int .u16 (be2 l 0), .int .u16 (be2 l 2), .int .u32 (be4 l 4), .int .u32 (be4 l 8), .int .u8 (l.getD 13 0 % 64), .int .u16 (be2 l 14), .int .u16 (be2 l 18), .slice A5 ((l.take h).drop 20).length k5, .slice A6 (l.drop h).length k6])
    have ho7 := (ho5.setRow (g := w.heap.size) (cs := #[.int .u16 (be2 l 0), .int .u16 (be2 l 2), .int .u32 (be4 l 4), .int .u32 (be4 l 8), .int .u8 (l.getD 13 0 % 64), .int .u16 (be2 l 14), .int .u16 (be2 l 18), .slice A5 ((l.take h).drop 20).length k5, .slice A6 (l.drop h).length k6]) hS10.lt).more hS10.bel.size
    have ho8 := (ho6.setRow (g := w.heap.size) (cs := #[.int .u16 (be2 l 0), .int .u16 (be2 l 2), .int .u32 (be4 l 4), .int .u32 (be4 l 8), .int .u8 (l.getD 13 0 % 64), .int .u16 (be2 l 14), .int .u16 (be2 l 18), .slice A5 ((l.take h).drop 20).length k5, .slice A6 (l.drop h).length k6]) hS5.lt).more hS5.bel.size
    have hb4 := hS11.bel
    generalize W6.setRow w.heap.size #[.int .u16 (be2 l 0), .int .u16 (be2 l 2), .int .u32 (be4 l 4), .int .u32 (be4 l 8), .int .u8 (l.getD 13 0 % 64), .int .u16 (be2 l 14), .int .u16 (be2 l 18), .slice A5 ((l.take h).drop 20).length k5, .slice A6 (l.drop h).length k6] = W7 at hH4 ho7 ho8 hb4 ⊢
    clear ho5 ho6
    go_wp2
    exact bodyPost_ret (res_cell2 Try.results56 rfl (hH4.load (P := Try.prog) 26 Try.underlying26 rfl tcp_info) rfl) rfl ⟨⟨A5, k5, A6, k6⟩, rfl, hok, ho7, ho8, hb4⟩
    -- END 10
end Go.Proofs.Ytaobnbjkhgcmlaa
end

section
/-
  The walks of segment.ParseTCP4, ParseTCP6.
-/
namespace Go.Proofs.Ytaobnbjkhgcmlaa
open Go.RowKit Go.Shelf

set_option maxRecDepth 100000 in
theorem parseTCP4_any (a b : List Int) (ha : a.length = 4) (hb : b.length = 4) (ra : InB a) (rb : InB b) (A : Option Addr) (c : Nat) (l : List Int) (w : World) (y : By w.heap.size w A l.length c l) :
    Calls Try.prog 29 #[.agg (u8s a).toArray, .agg (u8s b).toArray, .slice A l.length c] w fun e w' => ToldT (tGot (pse4 a b l.length 6) l) (tErr (pse4 a b l.length 6) l) w e w' := by
  have hB : Below w.heap.size w (((w.alloc (.cells (u8s a).toArray 34)).alloc (.cells (u8s b).toArray 34)).alloc (.cells #[.int .u16 0, .int .u16 0, .int .u32 0, .int .u32 0, .int .u8 0, .int .u16 0, .int .u16 0, .slice none 0 0, .slice none 0 0] 26)) := (((Below.refl _ _).alloc (Nat.le_refl _) _).alloc (by simp) _).alloc (by simp; omega) _
  have hHa : Has (((w.alloc (.cells (u8s a).toArray 34)).alloc (.cells (u8s b).toArray 34)).alloc (.cells #[.int .u16 0, .int .u16 0, .int .u32 0, .int .u32 0, .int .u8 0, .int .u16 0, .int .u16 0, .slice none 0 0, .slice none 0 0] 26)) w.heap.size (.cells (u8s a).toArray 34 (0, 0)) := ((Has.newAt rfl).alloc).alloc
  have hHb : Has (((w.alloc (.cells (u8s a).toArray 34)).alloc (.cells (u8s b).toArray 34)).alloc (.cells #[.int .u16 0, .int .u16 0, .int .u32 0, .int .u32 0, .int .u8 0, .int .u16 0, .int .u16 0, .slice none 0 0, .slice none 0 0] 26)) (w.heap.size + 1) (.cells (u8s b).toArray 34 (0, 0)) := (Has.newAt (by simp)).alloc
  have hHn : Has (((w.alloc (.cells (u8s a).toArray 34)).alloc (.cells (u8s b).toArray 34)).alloc (.cells #[.int .u16 0, .int .u16 0, .int .u32 0, .int .u32 0, .int .u8 0, .int .u16 0, .int .u16 0, .slice none 0 0, .slice none 0 0] 26)) (w.heap.size + 1 + 1) (.cells #[.int .u16 0, .int .u16 0, .int .u32 0, .int .u32 0, .int .u8 0, .int .u16 0, .int .u16 0, .slice none 0 0, .slice none 0 0] 26 (0, 0)) := Has.newAt (by simp)
  have hia := addr4_info a ha
  have hib := addr4_info b hb
  have hpH := Lib.hid (fun g1 g2 w hA hB y => ptcp4_any a b ha hb ra rb g1 g2 A c l w hA hB y)
  generalize tGot (pse4 a b l.length 6) l = D at hpH ⊢
  generalize tErr (pse4 a b l.length 6) l = s at hpH ⊢
  go_enter Try.func29, Try.ntmps29
  go_wp2_with (first | (refine wpList_load_row rfl 34 (.tmp 3) rfl w.heap.size rfl 34 (u8s a).toArray (0, 0) _ hHa Try.underlying34 rfl hia ?_) | (refine wpList_load_row rfl 34 (.tmp 4) rfl (w.heap.size + 1) rfl 34 (u8s b).toArray (0, 0) _ hHb Try.underlying34 rfl hib ?_))
  refine (over4_any a b _).mono ?_
  rintro e w1 ⟨h1, h2, rfl, k1, k2, hb1⟩
  have hHn := hHn.below hb1 hHn.lt
  have hB1 := hB.trans (hb1.mono hB.size)
  clear hb1 hB hHa hHb
  have y1 := (y.below hB1 (Nat.le_refl _)).more (B' := w1.heap.size) hB1.size
  go_wp2_with fail
  refine (hpH.out h1 h2 w1 k1 k2 y1).mono ?_
  rintro e w2 ⟨p', rfl, hok, ho, ho', hb2⟩
  have hH2 := hHn.below hb2 hHn.lt
  have ho2 := (ho.setRow (g := w.heap.size + 1 + 1) (cs := D.cells p') hHn.lt).more hB1.size
  have ho3 := (ho'.setRow (g := w.heap.size + 1 + 1) (cs := D.cells p') hHn.lt).more hB1.size
  have hB2 := (hB1.trans (hb2.mono hB1.size)).trans ((below_setRow' (w := w2) (g := w.heap.size + 1 + 1) (cs := D.cells p')).mono (by omega))
  clear ho ho' hb2 hHn
  go_wp2_with (refine wpList_store_row rfl 26 (.tmp 6) (.tmp 13) rfl (w.heap.size + 1 + 1) _ rfl rfl 26 _ hH2 tcp_info rfl (by simp [DT.cells, Value.oneCell']) ?_)
  exact bodyPost_ret (res_cell2 Try.results29 rfl (hH2.setRow_same.load (P := Try.prog) 26 Try.underlying26 rfl tcp_info) rfl) rfl ⟨p', rfl, hok, ho2, ho3, hB2⟩

set_option maxRecDepth 100000 in
theorem parseTCP6_any (a b : List Int) (ha : a.length = 16) (hb : b.length = 16) (ra : InB a) (rb : InB b) (A : Option Addr) (c : Nat) (l : List Int) (w : World) (y : By w.heap.size w A l.length c l) :
    Calls Try.prog 31 #[.agg (u8s a).toArray, .agg (u8s b).toArray, .slice A l.length c] w fun e w' => ToldT (tGot (pse6 a b l.length 6) l) (tErr (pse6 a b l.length 6) l) w e w' := by
  have hB : Below w.heap.size w (((w.alloc (.cells (u8s a).toArray 36)).alloc (.cells (u8s b).toArray 36)).alloc (.cells #[.int .u16 0, .int .u16 0, .int .u32 0, .int .u32 0, .int .u8 0, .int .u16 0, .int .u16 0, .slice none 0 0, .slice none 0 0] 26)) := (((Below.refl _ _).alloc (Nat.le_refl _) _).alloc (by simp) _).alloc (by simp; omega) _
  have hHa : Has (((w.alloc (.cells (u8s a).toArray 36)).alloc (.cells (u8s b).toArray 36)).alloc (.cells #[.int .u16 0, .int .u16 0, .int .u32 0, .int .u32 0, .int .u8 0, .int .u16 0, .int .u16 0, .slice none 0 0, .slice none 0 0] 26)) w.heap.size (.cells (u8s a).toArray 36 (0, 0)) := ((Has.newAt rfl).alloc).alloc
  have hHb : Has (((w.alloc (.cells (u8s a).toArray 36)).alloc (.cells (u8s b).toArray 36)).alloc (.cells #[.int .u16 0, .int .u16 0, .int .u32 0, .int .u32 0, .int .u8 0, .int .u16 0, .int .u16 0, .slice none 0 0, .slice none 0 0] 26)) (w.heap.size + 1) (.cells (u8s b).toArray 36 (0, 0)) := (Has.newAt (by simp)).alloc
  have hHn : Has (((w.alloc (.cells (u8s a).toArray 36)).alloc (.cells (u8s b).toArray 36)).alloc (.cells #[.int .u16 0, .int .u16 0, .int .u32 0, .int .u32 0, .int .u8 0, .int .u16 0, .int .u16 0, .slice none 0 0, .slice none 0 0] 26)) (w.heap.size + 1 + 1) (.cells #[.int .u16 0, .int .u16 0, .int .u32 0, .int .u32 0, .int .u8 0, .int .u16 0, .int .u16 0, .slice none 0 0, .slice none 0 0] 26 (0, 0)) := Has.newAt (by simp)
  have hia := addr6_info a ha
  have hib := addr6_info b hb
  have hpH := Lib.hid (fun g1 g2 w hA hB y => ptcp6_any a b ha hb ra rb g1 g2 A c l w hA hB y)
  generalize tGot (pse6 a b l.length 6) l = D at hpH ⊢
  generalize tErr (pse6 a b l.length 6) l = s at hpH ⊢
  go_enter Try.func31, Try.ntmps31
  go_wp2_with (first | (refine wpList_load_row rfl 36 (.tmp 3) rfl w.heap.size rfl 36 (u8s a).toArray (0, 0) _ hHa Try.underlying36 rfl hia ?_) | (refine wpList_load_row rfl 36 (.tmp 4) rfl (w.heap.size + 1) rfl 36 (u8s b).toArray (0, 0) _ hHb Try.underlying36 rfl hib ?_))
  refine (over6_any a b _).mono ?_
  rintro e w1 ⟨h1, h2, rfl, k1, k2, hb1⟩
  have hHn := hHn.below hb1 hHn.lt
  have hB1 := hB.trans (hb1.mono hB.size)
  clear hb1 hB hHa hHb
  have y1 := (y.below hB1 (Nat.le_refl _)).more (B' := w1.heap.size) hB1.size
  go_wp2_with fail
  refine (hpH.out h1 h2 w1 k1 k2 y1).mono ?_
  rintro e w2 ⟨p', rfl, hok, ho, ho', hb2⟩
  have hH2 := hHn.below hb2 hHn.lt
  have ho2 := (ho.setRow (g := w.heap.size + 1 + 1) (cs := D.cells p') hHn.lt).more hB1.size
  have ho3 := (ho'.setRow (g := w.heap.size + 1 + 1) (cs := D.cells p') hHn.lt).more hB1.size
  have hB2 := (hB1.trans (hb2.mono hB1.size)).trans ((below_setRow' (w := w2) (g := w.heap.size + 1 + 1) (cs := D.cells p')).mono (by omega))
  clear ho ho' hb2 hHn
  go_wp2_with (refine wpList_store_row rfl 26 (.tmp 6) (.tmp 13) rfl (w.heap.size + 1 + 1) _ rfl rfl 26 _ hH2 tcp_info rfl (by simp [DT.cells, Value.oneCell']) ?_)
  exact bodyPost_ret (res_cell2 Try.results31 rfl (hH2.setRow_same.load (P := Try.prog) 26 Try.underlying26 rfl tcp_info) rfl) rfl ⟨p', rfl, hok, ho2, ho3, hB2⟩
end Go.Proofs.Ytaobnbjkhgcmlaa
end
