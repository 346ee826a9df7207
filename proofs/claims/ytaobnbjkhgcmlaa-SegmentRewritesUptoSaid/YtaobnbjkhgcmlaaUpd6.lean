/-
  The walk of sum.Update.
-/
import Derived.Test.YtaobnbjkhgcmlaaSumOf
import Derived.Test.YtaobnbjkhgcmlaaConcat
namespace Go.Proofs.Ytaobnbjkhgcmlaa
open Go.RowKit Go.Shelf
attribute [local go_sem] Oper.semAt_some
theorem fold_neg_w16 (n : Int) (hn : 0 ≤ n ∧ n < 65536) (l : List W16) : 0 ≤ fold n (neg (ints l)) ∧ fold n (neg (ints l)) < 65536 := fold_rng n hn _ (neg_rng _ (fun x hx => by
  obtain ⟨y, _, rfl⟩ := List.mem_map.1 hx
  exact y.2))
theorem changed_err (n : Int) (A1 A2 : Option Addr) (c1 c2 : Nat) (l1 l2 : List Int) (w : World) (hd : ¬ (l1.length = l2.length ∧ l2.length % 2 = 0)) :
    Calls Try.prog 72 #[.int .u16 n, .slice A1 l1.length c1, .slice A2 l2.length c2] w fun e W' => e = .returned (.tuple #[.int .u16 0, .int .i64 10]) ∧ Below w.heap.size w W' := by
  by_cases he : l1.length = l2.length
  · have ho : ¬ (l2.length % 2 = 0) := fun h => hd ⟨he, h⟩
    go_enter Try.func72, Try.ntmps72
    go_wp2
    go_ret2
    exact ⟨rfl, (Below.refl _ _).alloc (Nat.le_refl _) _⟩
  · go_enter Try.func72, Try.ntmps72
    go_wp2
    go_ret2
    exact ⟨rfl, (Below.refl _ _).alloc (Nat.le_refl _) _⟩

set_option maxRecDepth 100000 in
set_option maxHeartbeats 4000000 in
theorem changed_ok (n : Int) (hn : 0 ≤ n ∧ n < 65536) (A1 A2 : Option Addr) (c1 c2 : Nat) (l1 l2 : List Int) (w : World) (h1 : By w.heap.size w A1 l1.length c1 l1) (h2 : By w.heap.size w A2 l2.length c2 l2)
    (hd : l1.length = l2.length) (hd2 : l2.length % 2 = 0) :
    Calls Try.prog 72 #[.int .u16 n, .slice A1 l1.length c1, .slice A2 l2.length c2] w fun e W' => e = .returned (.tuple #[.int .u16 (fold (fold n (neg (wds l1))) (wds l2)), .int .i64 0]) ∧ Below w.heap.size w W' := by
  have hb2 : l2.length ≤ 9223372036854775807 := by have := h2.big; have := h2.cap; omega
  have hdH := Lib.hid hd
  rw [hd] at h1
  have hm : ((l2.length : Int) % 2 != 0) = false := by simp; omega
  refine (callsIn_wide (n := 7)).1 ?_
  refine callsIn_of_wp_marks Try.func72 rfl trivial ?_ rfl
  simp only [Try.ntmps72, List.size_toArray, List.length_cons, List.length_nil, Nat.reduceAdd, Nat.reduceSub, Array.replicate_succ, Array.replicate_zero, List.push_toArray, List.append_toArray, List.nil_append, List.cons_append]
  rw [hd]
  clear hd
  gi_wp2_with (refine ⟨trivial, ?_⟩; gi_at_call 77; refine (words_in Fence.wide _ trivial rfl _ _ _ _).mono ?_; rintro e w' ⟨rfl, rfl⟩)
  obtain ⟨W0, hW0⟩ : ∃ W0, (((w.alloc (.cells #[.int .u16 n] 22)).alloc (.cells #[.slice A1 l2.length c1] 24)).alloc (.cells #[Value.slice (some ⟨w.heap.size + 1, 0, none⟩) 1 1] 44)) = W0 := ⟨_, rfl⟩
  have hz0 : W0.heap.size = w.heap.size + 3 := by rw [← hW0]; simp
  have bS := ((Boxed.new w 22 (.int .u16 n)).alloc (.cells #[.slice A1 l2.length c1] 24)).alloc (.cells #[Value.slice (some ⟨w.heap.size + 1, 0, none⟩) 1 1] 44)
  have bN := Boxed.new ((w.alloc (.cells #[.int .u16 n] 22)).alloc (.cells #[.slice A1 l2.length c1] 24)) 44 (Value.slice (some ⟨w.heap.size + 1, 0, none⟩) 1 1)
  have bR := (Boxed.new (w.alloc (.cells #[.int .u16 n] 22)) 24 (.slice A1 l2.length c1)).alloc (.cells #[Value.slice (some ⟨w.heap.size + 1, 0, none⟩) 1 1] 44)
  have hB0 : Below w.heap.size w (((w.alloc (.cells #[.int .u16 n] 22)).alloc (.cells #[.slice A1 l2.length c1] 24)).alloc (.cells #[Value.slice (some ⟨w.heap.size + 1, 0, none⟩) 1 1] 44)) := (((Below.refl _ w).alloc (Nat.le_refl _) _).alloc (by simp) _).alloc (by simp; omega) _
  simp only [World.size_alloc] at bN bR
  rw [hW0] at bS bN bR hB0 ⊢
  clear hW0
  have hy1 : By w.heap.size W0 A1 l1.length c1 l1 := by rw [hdH.out]; exact h1.below hB0 (Nat.le_refl _)
  have hRow : ∀ W, Below W0.heap.size W0 W → W.cell? ⟨w.heap.size + 1, 0, none⟩ = some (.slice A1 l1.length c1) := fun W h => by
    rw [hdH.out]; exact (h.cell (p := ⟨w.heap.size + 1, 0, none⟩) (by simp; omega)).trans bR.cell
  refine wpIn_rangeFunc_ownG (F := Fence.wide) (n := 7) rfl (by decide) (gf := 79) (lb := #[.pointer (some ⟨w.heap.size + 1 + 1, 0, none⟩)]) rfl trivial (enters_of Try.func79 (by kernel_rfl) rfl)
    (words_stops Fence.wide 6 trivial rfl (by decide) (w.heap.size + 1 + 1) (w.heap.size + 2) _ 1 [(A1, c1, l1)] (BelowX (w.heap.size + 2) w.heap.size) W0 (by omega) (by omega) bN.cell (Parts.of1 _ (by omega) (hRow _ (Below.refl _ _)) (hy1.more (by omega))) (fun W => BelowX.refl _ _ W) BelowX.trans
      (fun W W' h hb => Parts.of1 _ (by omega) ((hb.cell (p := ⟨w.heap.size + 1, 0, none⟩) (by simp) (by simp)).trans (hRow _ h)) ((hy1.below h (by omega)).belowX hb (by omega) (by omega))))
    BelowX.trans (belowX_b (by omega)) (Below.refl _ _) (fun _ => rfl)
    (fun pre W => (W.cell? ⟨w.heap.size, 0, none⟩ = some (.int .u16 (fold n (neg (ints pre)))) ∧ W.frozen? ⟨w.heap.size, 0, none⟩ = false) ∧ Below w.heap.size w W)
    (fun _ _ _ => False)
    (OwnFrom.and (Own.from (fun s A B row hs hg hr => ⟨cell_kept hs.1 hg hr, (frozen_kept hs.1 hg hr).trans hs.2⟩) _) (ownFrom_below (Nat.le_refl _) (by omega)))
    (fun _ _ _ _ _ hs _ _ => hs)
    ⟨⟨bS.cell, bS.frozen⟩, hB0⟩
    ?a1 ?assign ?body ?done ?stop
  case assign =>
    intro l x W K hK
    gi_wp2
    exact hK
  case body =>
    rintro l pre x W ⟨⟨hc, hf⟩, hB⟩ _
    have hr := fold_neg_w16 n hn pre
    have hx := x.2
    have hnot := not_u16 x.1 x.2.1 x.2.2
    gi_wp2_with (refine ⟨trivial, ?_⟩; gi_at_call 78; refine (CallsIn.inRound l (callsIn_wide.2 (add_any _ _ _ hr.1 hr.2 (by omega) (by omega)))).mono ?_; rintro e w' ⟨rfl, rfl⟩)
    exact ⟨(KeepsOthers.setCell _ _ _).from _, (BelowX.refl _ _ W).setCell (p := ⟨w.heap.size, 0, none⟩) rfl _, ⟨by rw [ints_snoc, neg_snoc, fold_snoc]; exact World.cell?_setCell_same' _ _ _ (by rw [hc]; rfl), by rw [World.frozen?_setCell]; exact hf⟩, hB.setCell (p := ⟨w.heap.size, 0, none⟩) (Nat.le_refl _) _⟩
  case stop =>
    rintro D c pre W _ _ h _
    exact h.elim
  case done =>
    rintro D ys W hD hys ⟨⟨hc, hf⟩, hB⟩ hK
    have hsD : D < W.heap.size := (Array.getElem?_eq_some_iff.1 hK).1
    have hr := fold_neg_w16 n hn ys
    have hv : flat [(A1, c1, l1)] = l1 := by simp [flat]
    rw [hv] at hys
    rw [hys] at hc hr
    clear hys hv bS bN bR hRow hy1
    gi_wp2_with (refine ⟨trivial, ?_⟩; gi_at_call 77; refine (words_in Fence.wide _ trivial rfl _ _ _ _).mono ?_; rintro e w' ⟨rfl, rfl⟩)
    obtain ⟨W2, hW2⟩ : ∃ W2, ((W.alloc (.cells #[.slice A2 l2.length c2] 24)).alloc (.cells #[Value.slice (some ⟨W.heap.size, 0, none⟩) 1 1] 44)) = W2 := ⟨_, rfl⟩
    have hz2 : W2.heap.size = W.heap.size + 2 := by rw [← hW2]; simp
    have bN := Boxed.new (W.alloc (.cells #[.slice A2 l2.length c2] 24)) 44 (Value.slice (some ⟨W.heap.size, 0, none⟩) 1 1)
    have bR := (Boxed.new W 24 (.slice A2 l2.length c2)).alloc (.cells #[Value.slice (some ⟨W.heap.size, 0, none⟩) 1 1] 44)
    have hBW : Below W.heap.size W ((W.alloc (.cells #[.slice A2 l2.length c2] 24)).alloc (.cells #[Value.slice (some ⟨W.heap.size, 0, none⟩) 1 1] 44)) := ((Below.refl _ W).alloc (Nat.le_refl _) _).alloc (by simp) _
    simp only [World.size_alloc] at bN
    rw [hW2] at bN bR hBW ⊢
    clear hW2
    have hwW : w.heap.size + 3 ≤ W.heap.size := by omega
    have hB2 : Below w.heap.size w W2 := hB.trans (hBW.mono hB.size)
    have hcX : W2.cell? ⟨w.heap.size, 0, none⟩ = some (.int .u16 (fold n (neg (wds l1)))) := (hBW.cell (p := ⟨w.heap.size, 0, none⟩) (by simp; omega)).trans hc
    have hfX : W2.frozen? ⟨w.heap.size, 0, none⟩ = false := (hBW.frozen (p := ⟨w.heap.size, 0, none⟩) (by simp; omega)).trans hf
    have hK2 : W2.heap[D]? = some (.deferred (some [])) := (hBW.block D hsD).trans hK
    have hy2 : By w.heap.size W2 A2 l2.length c2 l2 := h2.below hB2 (Nat.le_refl _)
    have hRow : ∀ X, Below W2.heap.size W2 X → X.cell? ⟨W.heap.size, 0, none⟩ = some (.slice A2 l2.length c2) := fun X h => (h.cell (p := ⟨W.heap.size, 0, none⟩) (by simp; omega)).trans bR.cell
    clear hc hf hK
    refine wpIn_rangeFunc_ownG (F := Fence.wide) (n := 7) rfl (by decide) (gf := 79) (lb := #[.pointer (some ⟨W.heap.size + 1, 0, none⟩)]) rfl trivial (enters_of Try.func79 (by kernel_rfl) rfl)
      (words_stops Fence.wide 6 trivial rfl (by decide) (W.heap.size + 1) (W.heap.size + 1) _ 1 [(A2, c2, l2)] (BelowX (W.heap.size + 1) w.heap.size) W2 (by omega) (by omega) bN.cell (Parts.of1 _ (by omega) (hRow _ (Below.refl _ _)) (hy2.more (by omega))) (fun W => BelowX.refl _ _ W) BelowX.trans
        (fun X X' h hb => Parts.of1 _ (by omega) ((hb.cell (p := ⟨W.heap.size, 0, none⟩) (by simp) (by simp; omega)).trans (hRow _ h)) ((hy2.below h (by omega)).belowX hb (by omega) (by omega))))
      BelowX.trans (belowX_b (by omega)) (Below.refl _ _) (fun _ => rfl)
      (fun pre W => ((W.cell? ⟨w.heap.size, 0, none⟩ = some (.int .u16 (fold (fold n (neg (wds l1))) (ints pre))) ∧ W.frozen? ⟨w.heap.size, 0, none⟩ = false) ∧ Below w.heap.size w W) ∧ W.heap[D]? = some (.deferred (some [])))
      (fun _ _ _ => False)
      (OwnFrom.and (OwnFrom.and (Own.from (fun s A B row hs hg hr => ⟨cell_kept hs.1 hg hr, (frozen_kept hs.1 hg hr).trans hs.2⟩) _) (ownFrom_below (Nat.le_refl _) (by omega))) (ownFrom_heap (by omega)))
      (fun _ _ _ _ _ hs _ _ => hs)
      ⟨⟨⟨hcX, hfX⟩, hB2⟩, hK2⟩
      ?a2 ?assign2 ?body2 ?done2 ?stop2
    case assign2 =>
      intro l x W K hK
      gi_wp2
      exact hK
    case body2 =>
      rintro l pre x X ⟨⟨⟨hc, hf⟩, hB⟩, hKX⟩ _
      have hr2 := fold_w16 (fold n (neg (wds l1))) hr pre
      have hx := x.2
      gi_wp2_with (refine ⟨trivial, ?_⟩; gi_at_call 78; refine (CallsIn.inRound l (callsIn_wide.2 (add_any _ _ _ hr2.1 hr2.2 hx.1 hx.2))).mono ?_; rintro e w' ⟨rfl, rfl⟩)
      exact ⟨(KeepsOthers.setCell _ _ _).from _, (BelowX.refl _ _ X).setCell (p := ⟨w.heap.size, 0, none⟩) rfl _, ⟨⟨by rw [ints_snoc, fold_snoc]; exact World.cell?_setCell_same' _ _ _ (by rw [hc]; rfl), by rw [World.frozen?_setCell]; exact hf⟩, hB.setCell (p := ⟨w.heap.size, 0, none⟩) (Nat.le_refl _) _⟩, (KeepsOthers.setCell _ _ _).same D _ hKX rfl⟩
    case stop2 =>
      rintro D c pre W _ _ h _
      exact h.elim
    case done2 =>
      rintro D2 ys2 X hD2 hys ⟨⟨⟨hc, hf⟩, hB⟩, hKX⟩ hK
      have hv : flat [(A2, c2, l2)] = l2 := by simp [flat]
      rw [hv] at hys
      rw [hys] at hc
      clear hys hv hcX hfX hK2 bN bR
      gi_wp2
      have hK1 : (X.putObj D2 (.deferred none)).heap[D]? = some (.deferred (some [])) := (World.putObj_heap_other (by omega)).trans hKX
      refine ⟨by simp, .inl ⟨_, _, rfl, run_takeDeferred hK, ⟨by simp, .inl ⟨_, _, rfl, run_takeDeferred hK1, ?_⟩⟩⟩⟩
      refine ⟨_, results_tmp2 rfl _ _ _, rfl, ?_⟩
      exact (hB.trans (belowK_b (w := w) (Nat.le_refl _) X D2 _ _ (by omega) hK rfl rfl)).trans (belowK_b (w := w) (Nat.le_refl _) _ D _ _ (by omega) hK1 rfl rfl)

/-- a result word and an error's number that read as said -/
def Two (p : Int × Int) (e : Ending) : Prop := ∃ q er : Int, e = .returned (.tuple #[.int .u16 q, .int .i64 er]) ∧ Hid (q = p.1 ∧ er = p.2)
theorem Two.mk {p : Int × Int} {q er : Int} (h1 : q = p.1) (h2 : er = p.2) : Two p (.returned (.tuple #[.int .u16 q, .int .i64 er])) := ⟨q, er, rfl, Lib.hid ⟨h1, h2⟩⟩

theorem changed_any (n : Int) (hn : 0 ≤ n ∧ n < 65536) (A1 A2 : Option Addr) (c1 c2 : Nat) (l1 l2 : List Int) (w : World) (h1 : By w.heap.size w A1 l1.length c1 l1) (h2 : By w.heap.size w A2 l2.length c2 l2) :
    Calls Try.prog 72 #[.int .u16 n, .slice A1 l1.length c1, .slice A2 l2.length c2] w fun e W' => Two (changedS n l1 l2) e ∧ Below w.heap.size w W' := by
  unfold changedS
  by_cases hd : l1.length = l2.length ∧ l2.length % 2 = 0
  · rw [if_pos hd]
    exact (changed_ok n hn A1 A2 c1 c2 l1 l2 w h1 h2 hd.1 hd.2).mono fun e w' ⟨he, hb⟩ => ⟨by rw [he]; exact Two.mk rfl rfl, hb⟩
  · rw [if_neg hd]
    exact (changed_err n A1 A2 c1 c2 l1 l2 w hd).mono fun e w' ⟨he, hb⟩ => ⟨by rw [he]; exact Two.mk rfl rfl, hb⟩

theorem changed_one (n : Int) (hn : 0 ≤ n ∧ n < 65536) (A1 A2 : Option Addr) (c1 c2 : Nat) (l1 l2 : List Int) (w : World) (h1 : By w.heap.size w A1 l1.length c1 l1) (h2 : By w.heap.size w A2 l2.length c2 l2) (hd : l1.length = l2.length ∧ l2.length % 2 = 0) :
    Calls Try.prog 72 #[.int .u16 n, .slice A1 l1.length c1, .slice A2 l2.length c2] w fun e W' => ∃ q : Int, e = .returned (.tuple #[.int .u16 q, .int .i64 0]) ∧ Hid (q = (changedS n l1 l2).1) ∧ (0 ≤ q ∧ q < 65536) ∧ Below w.heap.size w W' := by
  refine (changed_ok n hn A1 A2 c1 c2 l1 l2 w h1 h2 hd.1 hd.2).mono fun e w' ⟨he, hb⟩ => ⟨_, he, Lib.hid ?_, ?_, hb⟩
  · unfold changedS; rw [if_pos hd]
  · exact fold_rng _ (fold_rng _ hn _ (neg_rng _ (wds_rng _ h1.rng))) _ (wds_rng _ h2.rng)

/-- sum.Update -/
def updateS (was : Int) (f t : List Int) : Int × Int := if f.length = t.length ∧ t.length % 2 = 0 then (65535 - (changedS (65535 - was) f t).1, 0) else (0, 10)

theorem update_any (was : Int) (hn : 0 ≤ was ∧ was < 65536) (A1 A2 : Option Addr) (c1 c2 : Nat) (l1 l2 : List Int) (w : World) (h1 : By w.heap.size w A1 l1.length c1 l1) (h2 : By w.heap.size w A2 l2.length c2 l2) :
    Calls Try.prog 62 #[.int .u16 was, .slice A1 l1.length c1, .slice A2 l2.length c2] w fun e W' => Two (updateS was l1 l2) e ∧ Below w.heap.size w W' := by
  have hnot := not_u16 was hn.1 hn.2
  have hsg : IntKind.u16.signed = false := rfl
  by_cases hd : l1.length = l2.length ∧ l2.length % 2 = 0
  · have hdH := Lib.hid hd
    clear hd
    go_enter Try.func62, Try.ntmps62
    go_wp2_with (go_at_call 72; refine (changed_one (65535 - was) (by omega) _ _ _ _ _ _ _ h1 h2 hdH.out).mono ?_; rintro e w' ⟨q, rfl, hq, hr, hb⟩)
    have hnot2 := not_u16 q hr.1 hr.2
    go_ret2
    refine ⟨Two.mk ?_ ?_, hb⟩
    · unfold updateS; rw [if_pos hdH.out, ← hq.out]; exact hnot2
    · unfold updateS; rw [if_pos hdH.out]
  · go_enter Try.func62, Try.ntmps62
    go_wp2_with (go_at_call 72; refine (changed_err (65535 - was) _ _ _ _ _ _ _ hd).mono ?_; rintro e w' ⟨rfl, hb⟩)
    go_ret2
    refine ⟨Two.mk ?_ ?_, hb⟩
    · unfold updateS; rw [if_neg hd]
    · unfold updateS; rw [if_neg hd]

theorem changedS_rng (n : Int) (hn : 0 ≤ n ∧ n < 65536) (l1 l2 : List Int) (h1 : InB l1) (h2 : InB l2) : 0 ≤ (changedS n l1 l2).1 ∧ (changedS n l1 l2).1 < 65536 := by
  unfold changedS
  split
  · exact fold_rng _ (fold_rng _ hn _ (neg_rng _ (wds_rng _ h1))) _ (wds_rng _ h2)
  · simp
theorem updateS_rng (n : Int) (hn : 0 ≤ n ∧ n < 65536) (l1 l2 : List Int) (h1 : InB l1) (h2 : InB l2) : 0 ≤ (updateS n l1 l2).1 ∧ (updateS n l1 l2).1 < 65536 := by
  unfold updateS changedS
  split
  · have := fold_rng _ (fold_rng _ (show 0 ≤ 65535 - n ∧ 65535 - n < 65536 by omega) _ (neg_rng _ (wds_rng _ h1))) _ (wds_rng _ h2)
    simp only
    omega
  · simp
end Go.Proofs.Ytaobnbjkhgcmlaa
