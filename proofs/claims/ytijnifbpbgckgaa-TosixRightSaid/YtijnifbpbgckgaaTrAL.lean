/-
  Lemmas and walks for the row of TosixRight (part 12 of 33).
-/
import Derived.Test.YtijnifbpbgckgaaTrAB
import Derived.Test.YtijnifbpbgckgaaTrAC
import Derived.Test.YtijnifbpbgckgaaTrAG
import Derived.Test.YtijnifbpbgckgaaTrAI
import Derived.Test.YtijnifbpbgckgaaTrAJ
import Derived.Test.YtijnifbpbgckgaaTrAK
import Derived.StillTailTactics
import Derived.Deep.RegionWith
set_option linter.unusedVariables false
set_option linter.unusedSimpArgs false
namespace Go.Proofs.Ytijnifbpbgckgaa
open Go.RowKit Go.Shelf
attribute [local go_sem] Oper.semAt_some

theorem of_any (A : Option Addr) (c : Nat) (xs : List Sl) (w : World) (hI : Parts w.heap.size w A xs.length c xs) :
    Calls Try.prog 75 #[.slice A xs.length c] w fun e W' => e = .returned (.int .u16 (65535 - sumw (flat xs))) ∧ Below w.heap.size w W' := by
  go_enter Try.func75, Try.ntmps75
  go_wp2_with (go_at_call 98; refine (fold_any _ _ _ _ hI).mono ?_; rintro e w' ⟨rfl, hb⟩)
  go_ret
  have h := sumw_rng _ hI.rng
  exact ⟨ret_int (not_u16 _ h.1 h.2), hb⟩
theorem good_any (A : Option Addr) (c : Nat) (xs : List Sl) (w : World) (hI : Parts w.heap.size w A xs.length c xs) :
    Calls Try.prog 96 #[.slice A xs.length c] w fun e W' => e = .returned (.bool (decide (sumw (flat xs) = 65535))) ∧ Below w.heap.size w W' := by
  go_enter Try.func96, Try.ntmps96
  go_wp2_with (go_at_call 98; refine (fold_any _ _ _ _ hI).mono ?_; rintro e w' ⟨rfl, hb⟩)
  go_ret
  exact ⟨rfl, hb⟩

/-- sum.Of, its parts in a new row -/
theorem of_new {w : World} {g : Nat} (xs : List Sl) (n : Nat) (h : Has w g (.cells (xs.map fun x => Value.slice x.1 x.2.2.length x.2.1).toArray 25 (0, 0))) (hn : n = xs.length) (hy : ∀ x ∈ xs, By w.heap.size w x.1 x.2.2.length x.2.1 x.2.2) (hb : xs.length ≤ 9223372036854775807) :
    Calls Try.prog 75 #[.slice (some ⟨g, 0, none⟩) n n] w fun e W' => ∃ q : Int, e = .returned (.int .u16 q) ∧ Hid (q = 65535 - sumw (flat xs)) ∧ (0 ≤ q ∧ q < 65536) ∧ Below w.heap.size w W' := by
  subst hn
  have hP := Parts.blk h (Nat.le_refl _) rfl hy hb
  have hr := sumw_rng _ hP.rng
  exact (of_any _ _ xs _ hP).mono fun e w' ⟨he, hb⟩ => ⟨_, he, Lib.hid rfl, by omega, hb⟩
theorem good_new {w : World} {g : Nat} (xs : List Sl) (n : Nat) (h : Has w g (.cells (xs.map fun x => Value.slice x.1 x.2.2.length x.2.1).toArray 25 (0, 0))) (hn : n = xs.length) (hy : ∀ x ∈ xs, By w.heap.size w x.1 x.2.2.length x.2.1 x.2.2) (hb : xs.length ≤ 9223372036854775807) :
    Calls Try.prog 96 #[.slice (some ⟨g, 0, none⟩) n n] w fun e W' => ∃ q : Bool, e = .returned (.bool q) ∧ Hid (q = decide (sumw (flat xs) = 65535)) ∧ Below w.heap.size w W' := by
  subst hn
  exact (good_any _ _ xs _ (Parts.blk h (Nat.le_refl _) rfl hy hb)).mono fun e w' ⟨he, hb⟩ => ⟨_, he, Lib.hid rfl, hb⟩
end Go.Proofs.Ytijnifbpbgckgaa
namespace Go.Proofs.Ytijnifbpbgckgaa
open Go.RowKit Go.Shelf
attribute [local go_sem] Oper.semAt_some
theorem fold_neg_w16 (n : Int) (hn : 0 ≤ n ∧ n < 65536) (l : List W16) : 0 ≤ fold n (neg (ints l)) ∧ fold n (neg (ints l)) < 65536 := fold_rng n hn _ (neg_rng _ (fun x hx => by
  obtain ⟨y, _, rfl⟩ := List.mem_map.1 hx
  exact y.2))
theorem changed_err (n : Int) (A1 A2 : Option Addr) (c1 c2 : Nat) (l1 l2 : List Int) (w : World) (hd : ¬ (l1.length = l2.length ∧ l2.length % 2 = 0)) :
    Calls Try.prog 108 #[.int .u16 n, .slice A1 l1.length c1, .slice A2 l2.length c2] w fun e W' => e = .returned (.tuple #[.int .u16 0, .int .i64 10]) ∧ Below w.heap.size w W' := by
  by_cases he : l1.length = l2.length
  · have ho : ¬ (l2.length % 2 = 0) := fun h => hd ⟨he, h⟩
    go_enter Try.func108, Try.ntmps108
    go_wp2
    go_ret2
    exact ⟨rfl, (Below.refl _ _).alloc (Nat.le_refl _) _⟩
  · go_enter Try.func108, Try.ntmps108
    go_wp2
    go_ret2
    exact ⟨rfl, (Below.refl _ _).alloc (Nat.le_refl _) _⟩

set_option maxRecDepth 100000 in
set_option maxHeartbeats 4000000 in
theorem changed_ok (n : Int) (hn : 0 ≤ n ∧ n < 65536) (A1 A2 : Option Addr) (c1 c2 : Nat) (l1 l2 : List Int) (w : World) (h1 : By w.heap.size w A1 l1.length c1 l1) (h2 : By w.heap.size w A2 l2.length c2 l2)
    (hd : l1.length = l2.length) (hd2 : l2.length % 2 = 0) :
    Calls Try.prog 108 #[.int .u16 n, .slice A1 l1.length c1, .slice A2 l2.length c2] w fun e W' => e = .returned (.tuple #[.int .u16 (fold (fold n (neg (wds l1))) (wds l2)), .int .i64 0]) ∧ Below w.heap.size w W' := by
  have hb2 : l2.length ≤ 9223372036854775807 := by have := h2.big; have := h2.cap; omega
  have hdH := Lib.hid hd
  rw [hd] at h1
  have hm : ((l2.length : Int) % 2 != 0) = false := by simp; omega
  refine (callsIn_wide (n := 7)).1 ?_
  refine callsIn_of_wp_marks Try.func108 rfl trivial ?_ rfl
  simp only [Try.ntmps108, List.size_toArray, List.length_cons, List.length_nil, Nat.reduceAdd, Nat.reduceSub, Array.replicate_succ, Array.replicate_zero, List.push_toArray, List.append_toArray, List.nil_append, List.cons_append]
  rw [hd]
  clear hd
  gi_wp2_with (refine ⟨trivial, ?_⟩; gi_at_call 110; refine (words_in Fence.wide _ trivial rfl _ _ _ _).mono ?_; rintro e w' ⟨rfl, rfl⟩)
  obtain ⟨W0, hW0⟩ : ∃ W0, (((w.alloc (.cells #[.int .u16 n] 22)).alloc (.cells #[.slice A1 l2.length c1] 25)).alloc (.cells #[Value.slice (some ⟨w.heap.size + 1, 0, none⟩) 1 1] 106)) = W0 := ⟨_, rfl⟩
  have hz0 : W0.heap.size = w.heap.size + 3 := by rw [← hW0]; simp
  have bS := ((Boxed.new w 22 (.int .u16 n)).alloc (.cells #[.slice A1 l2.length c1] 25)).alloc (.cells #[Value.slice (some ⟨w.heap.size + 1, 0, none⟩) 1 1] 106)
  have bN := Boxed.new ((w.alloc (.cells #[.int .u16 n] 22)).alloc (.cells #[.slice A1 l2.length c1] 25)) 106 (Value.slice (some ⟨w.heap.size + 1, 0, none⟩) 1 1)
  have bR := (Boxed.new (w.alloc (.cells #[.int .u16 n] 22)) 25 (.slice A1 l2.length c1)).alloc (.cells #[Value.slice (some ⟨w.heap.size + 1, 0, none⟩) 1 1] 106)
  have hB0 : Below w.heap.size w (((w.alloc (.cells #[.int .u16 n] 22)).alloc (.cells #[.slice A1 l2.length c1] 25)).alloc (.cells #[Value.slice (some ⟨w.heap.size + 1, 0, none⟩) 1 1] 106)) := (((Below.refl _ w).alloc (Nat.le_refl _) _).alloc (by simp) _).alloc (by simp; omega) _
  simp only [World.size_alloc] at bN bR
  rw [hW0] at bS bN bR hB0 ⊢
  clear hW0
  have hy1 : By w.heap.size W0 A1 l1.length c1 l1 := by rw [hdH.out]; exact h1.below hB0 (Nat.le_refl _)
  have hRow : ∀ W, Below W0.heap.size W0 W → W.cell? ⟨w.heap.size + 1, 0, none⟩ = some (.slice A1 l1.length c1) := fun W h => by
    rw [hdH.out]; exact (h.cell (p := ⟨w.heap.size + 1, 0, none⟩) (by simp; omega)).trans bR.cell
  refine wpIn_rangeFunc_ownG (F := Fence.wide) (n := 7) rfl (by decide) (gf := 115) (lb := #[.pointer (some ⟨w.heap.size + 1 + 1, 0, none⟩)]) rfl trivial (enters_of Try.func115 (by kernel_rfl) rfl)
    (words_stops Fence.wide 6 trivial rfl (by decide) (w.heap.size + 1 + 1) (w.heap.size + 2) _ 1 [(A1, c1, l1)] (BelowX (w.heap.size + 2) w.heap.size) W0 (by omega) (by omega) bN.cell (Parts.of1 _ (by omega) (hRow _ (Below.refl _ _)) (hy1.more (by omega))) (fun W => BelowX.refl _ _ W) BelowX.trans
      (fun W W' h hb => Parts.of1 _ (by omega) ((hb.cell (p := ⟨w.heap.size + 1, 0, none⟩) (by simp) (by simp)).trans (hRow _ h)) ((hy1.below h (by omega)).belowX hb (by omega) (by omega))))
    BelowX.trans (belowX_b (by omega)) (Below.refl _ _) (fun _ => rfl)
    (fun pre W => (W.cell? ⟨w.heap.size, 0, none⟩ = some (.int .u16 (fold n (neg (ints pre)))) ∧ W.frozen? ⟨w.heap.size, 0, none⟩ = false) ∧ Below w.heap.size w W)
    (fun _ _ _ => False)
    (OwnFrom.and (Own.from (fun s A B row hs hg hr => ⟨cell_kept hs.1 hg hr, (frozen_kept hs.1 hg hr).trans hs.2⟩) _) (ownFrom_below (Nat.le_refl _) (by omega)))
    (fun _ _ _ _ _ hs _ _ => hs)
    ⟨⟨bS.cell, bS.frozen⟩, hB0⟩
    ?a1 ?assign ?body ?done ?stop
  case assign =>
    intro l x W K hK
    gi_wp2
    exact hK
  case body =>
    rintro l pre x W ⟨⟨hc, hf⟩, hB⟩ _
    have hr := fold_neg_w16 n hn pre
    have hx := x.2
    have hnot := not_u16 x.1 x.2.1 x.2.2
    gi_wp2_with (refine ⟨trivial, ?_⟩; gi_at_call 111; refine (CallsIn.inRound l (callsIn_wide.2 (add_any _ _ _ hr.1 hr.2 (by omega) (by omega)))).mono ?_; rintro e w' ⟨rfl, rfl⟩)
    exact ⟨(KeepsOthers.setCell _ _ _).from _, (BelowX.refl _ _ W).setCell (p := ⟨w.heap.size, 0, none⟩) rfl _, ⟨by rw [ints_snoc, neg_snoc, fold_snoc]; exact World.cell?_setCell_same' _ _ _ (by rw [hc]; rfl), by rw [World.frozen?_setCell]; exact hf⟩, hB.setCell (p := ⟨w.heap.size, 0, none⟩) (Nat.le_refl _) _⟩
  case stop =>
    rintro D c pre W _ _ h _
    exact h.elim
  case done =>
    rintro D ys W hD hys ⟨⟨hc, hf⟩, hB⟩ hK
    have hsD : D < W.heap.size := (Array.getElem?_eq_some_iff.1 hK).1
    have hr := fold_neg_w16 n hn ys
    have hv : flat [(A1, c1, l1)] = l1 := by simp [flat]
    rw [hv] at hys
    rw [hys] at hc hr
    clear hys hv bS bN bR hRow hy1
    gi_wp2_with (refine ⟨trivial, ?_⟩; gi_at_call 110; refine (words_in Fence.wide _ trivial rfl _ _ _ _).mono ?_; rintro e w' ⟨rfl, rfl⟩)
    obtain ⟨W2, hW2⟩ : ∃ W2, ((W.alloc (.cells #[.slice A2 l2.length c2] 25)).alloc (.cells #[Value.slice (some ⟨W.heap.size, 0, none⟩) 1 1] 106)) = W2 := ⟨_, rfl⟩
    have hz2 : W2.heap.size = W.heap.size + 2 := by rw [← hW2]; simp
    have bN := Boxed.new (W.alloc (.cells #[.slice A2 l2.length c2] 25)) 106 (Value.slice (some ⟨W.heap.size, 0, none⟩) 1 1)
    have bR := (Boxed.new W 25 (.slice A2 l2.length c2)).alloc (.cells #[Value.slice (some ⟨W.heap.size, 0, none⟩) 1 1] 106)
    have hBW : Below W.heap.size W ((W.alloc (.cells #[.slice A2 l2.length c2] 25)).alloc (.cells #[Value.slice (some ⟨W.heap.size, 0, none⟩) 1 1] 106)) := ((Below.refl _ W).alloc (Nat.le_refl _) _).alloc (by simp) _
    simp only [World.size_alloc] at bN
    rw [hW2] at bN bR hBW ⊢
    clear hW2
    have hwW : w.heap.size + 3 ≤ W.heap.size := by omega
    have hB2 : Below w.heap.size w W2 := hB.trans (hBW.mono hB.size)
    have hcX : W2.cell? ⟨w.heap.size, 0, none⟩ = some (.int .u16 (fold n (neg (wds l1)))) := (hBW.cell (p := ⟨w.heap.size, 0, none⟩) (by simp; omega)).trans hc
    have hfX : W2.frozen? ⟨w.heap.size, 0, none⟩ = false := (hBW.frozen (p := ⟨w.heap.size, 0, none⟩) (by simp; omega)).trans hf
    have hK2 : W2.heap[D]? = some (.deferred (some [])) := (hBW.block D hsD).trans hK
    have hy2 : By w.heap.size W2 A2 l2.length c2 l2 := h2.below hB2 (Nat.le_refl _)
    have hRow : ∀ X, Below W2.heap.size W2 X → X.cell? ⟨W.heap.size, 0, none⟩ = some (.slice A2 l2.length c2) := fun X h => (h.cell (p := ⟨W.heap.size, 0, none⟩) (by simp; omega)).trans bR.cell
    clear hc hf hK
    refine wpIn_rangeFunc_ownG (F := Fence.wide) (n := 7) rfl (by decide) (gf := 115) (lb := #[.pointer (some ⟨W.heap.size + 1, 0, none⟩)]) rfl trivial (enters_of Try.func115 (by kernel_rfl) rfl)
      (words_stops Fence.wide 6 trivial rfl (by decide) (W.heap.size + 1) (W.heap.size + 1) _ 1 [(A2, c2, l2)] (BelowX (W.heap.size + 1) w.heap.size) W2 (by omega) (by omega) bN.cell (Parts.of1 _ (by omega) (hRow _ (Below.refl _ _)) (hy2.more (by omega))) (fun W => BelowX.refl _ _ W) BelowX.trans
        (fun X X' h hb => Parts.of1 _ (by omega) ((hb.cell (p := ⟨W.heap.size, 0, none⟩) (by simp) (by simp; omega)).trans (hRow _ h)) ((hy2.below h (by omega)).belowX hb (by omega) (by omega))))
      BelowX.trans (belowX_b (by omega)) (Below.refl _ _) (fun _ => rfl)
      (fun pre W => ((W.cell? ⟨w.heap.size, 0, none⟩ = some (.int .u16 (fold (fold n (neg (wds l1))) (ints pre))) ∧ W.frozen? ⟨w.heap.size, 0, none⟩ = false) ∧ Below w.heap.size w W) ∧ W.heap[D]? = some (.deferred (some [])))
      (fun _ _ _ => False)
      (OwnFrom.and (OwnFrom.and (Own.from (fun s A B row hs hg hr => ⟨cell_kept hs.1 hg hr, (frozen_kept hs.1 hg hr).trans hs.2⟩) _) (ownFrom_below (Nat.le_refl _) (by omega))) (ownFrom_heap (by omega)))
      (fun _ _ _ _ _ hs _ _ => hs)
      ⟨⟨⟨hcX, hfX⟩, hB2⟩, hK2⟩
      ?a2 ?assign2 ?body2 ?done2 ?stop2
    case assign2 =>
      intro l x W K hK
      gi_wp2
      exact hK
    case body2 =>
      rintro l pre x X ⟨⟨⟨hc, hf⟩, hB⟩, hKX⟩ _
      have hr2 := fold_w16 (fold n (neg (wds l1))) hr pre
      have hx := x.2
      gi_wp2_with (refine ⟨trivial, ?_⟩; gi_at_call 111; refine (CallsIn.inRound l (callsIn_wide.2 (add_any _ _ _ hr2.1 hr2.2 hx.1 hx.2))).mono ?_; rintro e w' ⟨rfl, rfl⟩)
      exact ⟨(KeepsOthers.setCell _ _ _).from _, (BelowX.refl _ _ X).setCell (p := ⟨w.heap.size, 0, none⟩) rfl _, ⟨⟨by rw [ints_snoc, fold_snoc]; exact World.cell?_setCell_same' _ _ _ (by rw [hc]; rfl), by rw [World.frozen?_setCell]; exact hf⟩, hB.setCell (p := ⟨w.heap.size, 0, none⟩) (Nat.le_refl _) _⟩, (KeepsOthers.setCell _ _ _).same D _ hKX rfl⟩
    case stop2 =>
      rintro D c pre W _ _ h _
      exact h.elim
    case done2 =>
      rintro D2 ys2 X hD2 hys ⟨⟨⟨hc, hf⟩, hB⟩, hKX⟩ hK
      have hv : flat [(A2, c2, l2)] = l2 := by simp [flat]
      rw [hv] at hys
      rw [hys] at hc
      clear hys hv hcX hfX hK2 bN bR
      gi_wp2
      have hK1 : (X.putObj D2 (.deferred none)).heap[D]? = some (.deferred (some [])) := (World.putObj_heap_other (by omega)).trans hKX
      refine ⟨by simp, .inl ⟨_, _, rfl, run_takeDeferred hK, ⟨by simp, .inl ⟨_, _, rfl, run_takeDeferred hK1, ?_⟩⟩⟩⟩
      refine ⟨_, results_tmp2 rfl _ _ _, rfl, ?_⟩
      exact (hB.trans (belowK_b (w := w) (Nat.le_refl _) X D2 _ _ (by omega) hK rfl rfl)).trans (belowK_b (w := w) (Nat.le_refl _) _ D _ _ (by omega) hK1 rfl rfl)

/-- a result word and an error's number that read as said -/
def Two (p : Int × Int) (e : Ending) : Prop := ∃ q er : Int, e = .returned (.tuple #[.int .u16 q, .int .i64 er]) ∧ Hid (q = p.1 ∧ er = p.2)
theorem Two.mk {p : Int × Int} {q er : Int} (h1 : q = p.1) (h2 : er = p.2) : Two p (.returned (.tuple #[.int .u16 q, .int .i64 er])) := ⟨q, er, rfl, Lib.hid ⟨h1, h2⟩⟩

theorem changed_one (n : Int) (hn : 0 ≤ n ∧ n < 65536) (A1 A2 : Option Addr) (c1 c2 : Nat) (l1 l2 : List Int) (w : World) (h1 : By w.heap.size w A1 l1.length c1 l1) (h2 : By w.heap.size w A2 l2.length c2 l2) (hd : l1.length = l2.length ∧ l2.length % 2 = 0) :
    Calls Try.prog 108 #[.int .u16 n, .slice A1 l1.length c1, .slice A2 l2.length c2] w fun e W' => ∃ q : Int, e = .returned (.tuple #[.int .u16 q, .int .i64 0]) ∧ Hid (q = (changedS n l1 l2).1) ∧ (0 ≤ q ∧ q < 65536) ∧ Below w.heap.size w W' := by
  refine (changed_ok n hn A1 A2 c1 c2 l1 l2 w h1 h2 hd.1 hd.2).mono fun e w' ⟨he, hb⟩ => ⟨_, he, Lib.hid ?_, ?_, hb⟩
  · unfold changedS; rw [if_pos hd]
  · exact fold_rng _ (fold_rng _ hn _ (neg_rng _ (wds_rng _ h1.rng))) _ (wds_rng _ h2.rng)

/-- sum.Update -/
def updateS (was : Int) (f t : List Int) : Int × Int := if f.length = t.length ∧ t.length % 2 = 0 then (65535 - (changedS (65535 - was) f t).1, 0) else (0, 10)

theorem update_any (was : Int) (hn : 0 ≤ was ∧ was < 65536) (A1 A2 : Option Addr) (c1 c2 : Nat) (l1 l2 : List Int) (w : World) (h1 : By w.heap.size w A1 l1.length c1 l1) (h2 : By w.heap.size w A2 l2.length c2 l2) :
    Calls Try.prog 88 #[.int .u16 was, .slice A1 l1.length c1, .slice A2 l2.length c2] w fun e W' => Two (updateS was l1 l2) e ∧ Below w.heap.size w W' := by
  have hnot := not_u16 was hn.1 hn.2
  have hsg : IntKind.u16.signed = false := rfl
  by_cases hd : l1.length = l2.length ∧ l2.length % 2 = 0
  · have hdH := Lib.hid hd
    clear hd
    go_enter Try.func88, Try.ntmps88
    go_wp2_with (go_at_call 108; refine (changed_one (65535 - was) (by omega) _ _ _ _ _ _ _ h1 h2 hdH.out).mono ?_; rintro e w' ⟨q, rfl, hq, hr, hb⟩)
    have hnot2 := not_u16 q hr.1 hr.2
    go_ret2
    refine ⟨Two.mk ?_ ?_, hb⟩
    · unfold updateS; rw [if_pos hdH.out, ← hq.out]; exact hnot2
    · unfold updateS; rw [if_pos hdH.out]
  · go_enter Try.func88, Try.ntmps88
    go_wp2_with (go_at_call 108; refine (changed_err (65535 - was) _ _ _ _ _ _ _ hd).mono ?_; rintro e w' ⟨rfl, hb⟩)
    go_ret2
    refine ⟨Two.mk ?_ ?_, hb⟩
    · unfold updateS; rw [if_neg hd]
    · unfold updateS; rw [if_neg hd]

theorem updateS_rng (n : Int) (hn : 0 ≤ n ∧ n < 65536) (l1 l2 : List Int) (h1 : InB l1) (h2 : InB l2) : 0 ≤ (updateS n l1 l2).1 ∧ (updateS n l1 l2).1 < 65536 := by
  unfold updateS changedS
  split
  · have := fold_rng _ (fold_rng _ (show 0 ≤ 65535 - n ∧ 65535 - n < 65536 by omega) _ (neg_rng _ (wds_rng _ h1))) _ (wds_rng _ h2)
    simp only
    omega
  · simp
end Go.Proofs.Ytijnifbpbgckgaa
namespace Go.Proofs.Ytijnifbpbgckgaa
open Go.RowKit

def two17 (l : List Int) (k : Nat) : Int := l.getD k 0 * 256 + l.getD (k + 1) 0
def put17 (b : List Int) (k : Nat) (n : Int) : List Int := (b.set k (n / 256)).set (k + 1) (n % 256)
def fix17 (udp : Bool) (n : Int) : Int := if n = 0 ∧ udp = true then 65535 else n
/-- a body whose checksum at a place is carried over -/
def carry17 (udp : Bool) (f t b : List Int) (k : Nat) : List Int := put17 b k (fix17 udp (updateS (two17 b k) f t).1)
def pro17 (p : Int) : Int := if p = 1 then 58 else p
def wrong17 (p : Int) : Bool := decide (p = 0 ∨ p = 43 ∨ p = 44 ∨ p = 58 ∨ p = 60)
def D4.part (d : D4) : Bool := d.mf || decide (0 < d.off)
def head17 (d : D4) (s t bl : List Int) : D6 := ⟨d.tos, 0, d.ttl, s, t, [], d.part, if d.part then d.id else 0, if d.part then d.off else 0, d.mf, pro17 d.proto, bl⟩
def from17 (d : D4) : List Int := d.src ++ d.dst ++ List.replicate 24 0
/-- a datagram's body on the other side, or why there is none -/
def body17 (d : D4) (s t : List Int) : List Int × Int :=
  if 0 < d.off then (d.bl, 0)
  else if d.proto = 6 then (if d.bl.length < 20 then ([], 173) else (carry17 false (from17 d) (s ++ t) d.bl 16, 0))
  else if d.proto = 17 then
    (if d.bl.length < 8 then ([], 173)
    else if d.bl.getD 6 0 = 0 ∧ d.bl.getD 7 0 = 0 then
      (if d.mf = true then ([], 172) else if two17 d.bl 4 ≠ d.bl.length then ([], 173) else (put17 d.bl 6 (fix17 true (65535 - sumw (pse6 s t d.bl.length 17 ++ d.bl))), 0))
    else (carry17 true (from17 d) (s ++ t) d.bl 6, 0))
  else (d.bl, 0)
def ptr17 (n : Int) : Int × Bool :=
  if n < 2 then (n, true) else if n < 4 then (4, true) else if n = 8 then (7, true) else if n = 9 then (6, true) else if 12 ≤ n ∧ n < 16 then (8, true) else if 16 ≤ n ∧ n < 20 then (24, true) else (0, false)
def mtu17 (n : Int) : Int := if n < 1260 then 1280 else n + 20
def unr17 (c : Int) : Int × Bool :=
  if c = 0 ∨ c = 1 ∨ c = 5 ∨ c = 6 ∨ c = 7 ∨ c = 8 ∨ c = 11 ∨ c = 12 then (0, true) else if c = 9 ∨ c = 10 ∨ c = 13 ∨ c = 15 then (1, true) else if c = 3 then (4, true) else (0, false)
/-- type, code and rest of a message on the other side -/
def kind17 (m : D7) : (Int × Int × Int) × Bool :=
  if m.ty = 8 then ((128, m.code, m.rest), true) else if m.ty = 0 then ((129, m.code, m.rest), true)
  else if m.ty = 3 then (if m.code = 2 then ((4, 1, 6), true) else if m.code = 4 then ((2, 0, mtu17 (m.rest % 65536)), true) else ((1, (unr17 m.code).1, 0), (unr17 m.code).2))
  else if m.ty = 11 then ((3, m.code, 0), true)
  else if m.ty = 12 then ((4, 0, (ptr17 (m.rest / 16777216)).1), (ptr17 (m.rest / 16777216)).2 && decide (m.code = 0 ∨ m.code = 2))
  else ((0, 0, 0), false)
/-- the body of a packet of which an error tells, as far as it is there -/
def told17 (d : D4) (s t : List Int) (n : Int) : List Int :=
  if 0 < d.off then d.bl
  else if d.proto = 6 ∧ 18 ≤ d.bl.length then carry17 false (from17 d) (s ++ t) d.bl 16
  else if d.proto = 17 ∧ 8 ≤ d.bl.length ∧ ¬ (d.bl.getD 6 0 = 0 ∧ d.bl.getD 7 0 = 0) then carry17 true (from17 d) (s ++ t) d.bl 6
  else if d.proto = 1 ∧ 4 ≤ d.bl.length then
    put17 (d.bl.set 0 (if d.bl.getD 0 0 = 8 then 128 else 129)) 2 (updateS (two17 d.bl 2) (d.bl.take 2 ++ List.replicate 38 0) ([if d.bl.getD 0 0 = 8 then 128 else 129, d.bl.getD 1 0] ++ s ++ t ++ [0, 0, n / 256, n % 256, 0, 58])).1
  else d.bl
def said17 (l : List Int) : Int := tot4 l - 20 - (of4 l).ol.length
/-- is an inner packet none? -/
def none17 (l : List Int) : Bool := decide (pe4 true l ≠ 0) || (decide ((of4 l).off = 0) && (decide ((of4 l).proto = 1) && (decide (0 < (of4 l).bl.length) && (decide ((of4 l).bl.getD 0 0 ≠ 0) && decide ((of4 l).bl.getD 0 0 ≠ 8)))))
def inside17 (l : List Int) (s t : List Int) : List Int × Int :=
  if none17 l then ([], 176) else if wrong17 (of4 l).proto then ([], 171)
  else (put17 (head17 (of4 l) s t []).bytes 4 (min (said17 l + ((head17 (of4 l) s t []).bytes.length - 40)) 65535) ++ told17 (of4 l) s t (said17 l), 0)
def msg17 (m : D7) (s t : List Int) : D7 × Int :=
  if (kind17 m).2 = false then (zero7, 175) else if 65527 < m.bl.length then (zero7, 2)
  else if 128 ≤ (kind17 m).1.1 then (⟨(kind17 m).1.1, (kind17 m).1.2.1, (kind17 m).1.2.2, m.bl⟩, 0)
  else if (inside17 m.bl s t).2 ≠ 0 then (zero7, (inside17 m.bl s t).2)
  else (⟨(kind17 m).1.1, (kind17 m).1.2.1, (kind17 m).1.2.2, (inside17 m.bl s t).1.take 1232⟩, 0)
/-- a message's body on the other side, or why there is none -/
def icmp17 (d : D4) (s t s' t' : List Int) : List Int × Int :=
  if d.part then ([], 174) else if perr7 d.bl [] ≠ 0 then ([], perr7 d.bl [])
  else if (msg17 (parse7 d.bl []) s' t').2 ≠ 0 then ([], (msg17 (parse7 d.bl []) s' t').2)
  else ((msg17 (parse7 d.bl []) s' t').1.write (pse6 s t (8 + (msg17 (parse7 d.bl []) s' t').1.bl.length) 58), 0)
def any17 (d : D4) (s t s' t' : List Int) : List Int × Int := if d.proto = 1 then icmp17 d s t s' t' else body17 d s t
def pack17 (d : D4) (s t s' t' : List Int) : D6 × Int :=
  if d.check ≠ 0 then (zero6, d.check) else if routOf d.ol then (zero6, 170) else if wrong17 d.proto then (zero6, 171)
  else if (any17 d s t s' t').2 ≠ 0 then (zero6, (any17 d s t s' t').2)
  else if (head17 d s t (any17 d s t s' t').1).check ≠ 0 then (zero6, 2) else (head17 d s t (any17 d s t s' t').1, 0)
theorem wrong17_eq (p : Int) : wrong17 p = (decide (p = 0) || (decide (p = 43) || (decide (p = 44) || (decide (p = 58) || decide (p = 60))))) := by
  unfold wrong17
  rw [Bool.eq_iff_iff]
  simp
theorem fix17_rng {udp : Bool} {n : Int} (h : 0 ≤ n ∧ n < 65536) : 0 ≤ fix17 udp n ∧ fix17 udp n < 65536 := by unfold fix17; split <;> omega
theorem put17_len (b : List Int) (k : Nat) (n : Int) : (put17 b k n).length = b.length := by simp [put17]
theorem InB.set {l : List Int} (h : InB l) (k : Nat) {n : Int} (hn : 0 ≤ n ∧ n ≤ 255) : InB (l.set k n) := by
  intro x hx
  rcases List.mem_or_eq_of_mem_set hx with h1 | rfl
  · exact h x h1
  · exact hn
theorem carry17_len (udp : Bool) (f t b : List Int) (k : Nat) : (carry17 udp f t b k).length = b.length := put17_len _ _ _
theorem from17_len (d : D4) : (from17 d).length = 32 := by simp [from17, D4.src, D4.dst]
end Go.Proofs.Ytijnifbpbgckgaa
namespace Go.Proofs.Ytijnifbpbgckgaa
open Go.RowKit Go.Shelf

def pZ6 : W6 := ⟨none, 0, [], none, 0⟩
/-- a datagram whose heads and bytes lie in memory of the call's own -/
structure Own6 (w : World) (base : Nat) (D : D6) (p : W6) : Prop where
  ok : D.ok
  own : OwnK w base 93 (.slice p.hA D.hs.length p.hc) p.ps
  hl : kdL p.ps = D.hs
  body : OwnB w base (.slice p.bA D.bl.length p.bc) D.bl
theorem own6_zero (w : World) (base : Nat) : Own6 w base zero6 pZ6 := ⟨zero6_ok, OwnK.nil _ _ _, rfl, OwnB.nil _ _⟩
theorem own_by6 {w : World} {base n : Nat} {A : Option Addr} {c : Nat} {l : List Int} (h : OwnB w base (.slice A n c) l) : By w.heap.size w A n c l := by
  obtain ⟨A', c', e, y⟩ := h.by_
  injection e with e1 e2 e3
  subst e1 e2 e3
  exact y
theorem Own6.rd {w : World} {base : Nat} {D : D6} {p : W6} (h : Own6 w base D p) : Rd6 w.heap.size w D p := by
  refine ⟨h.ok, h.hl, ?_, own_by6 h.body⟩
  obtain ⟨A, c, e, K⟩ := h.own.kds
  have hn : p.ps.length = D.hs.length := by rw [← h.hl, kdL_len]
  injection e with e1 e2 e3
  rw [hn] at K
  rw [e1, e3]
  exact K
theorem Own6.setRow {w : World} {base g : Nat} {cs : Array Value} {D : D6} {p : W6} (h : Own6 w base D p) (hg : g < base) : Own6 (w.setRow g cs) base D p :=
  ⟨h.ok, h.own.but6 (But6.setRow g w cs) hg, h.hl, h.body.but6 (But6.setRow g w cs) hg⟩
theorem Own6.more {w : World} {base base' : Nat} {D : D6} {p : W6} (h : Own6 w base D p) (hb : base' ≤ base) : Own6 w base' D p := ⟨h.ok, h.own.more hb, h.hl, h.body.more hb⟩
theorem Own6.below {w w' : World} {base : Nat} {D : D6} {p : W6} (h : Own6 w base D p) (hb : Below w.heap.size w w') : Own6 w' base D p := ⟨h.ok, h.own.below hb, h.hl, h.body.below hb⟩
end Go.Proofs.Ytijnifbpbgckgaa
namespace Go.Proofs.Ytijnifbpbgckgaa
open Go.RowKit Go.Shelf

/-- the cells of an api.Ends6 -/
def ends6 (s t : List Int) : Array Value :=
  #[.int .u8 (s.getD 0 0), .int .u8 (s.getD 1 0), .int .u8 (s.getD 2 0), .int .u8 (s.getD 3 0), .int .u8 (s.getD 4 0), .int .u8 (s.getD 5 0), .int .u8 (s.getD 6 0), .int .u8 (s.getD 7 0), .int .u8 (s.getD 8 0), .int .u8 (s.getD 9 0), .int .u8 (s.getD 10 0), .int .u8 (s.getD 11 0), .int .u8 (s.getD 12 0), .int .u8 (s.getD 13 0), .int .u8 (s.getD 14 0), .int .u8 (s.getD 15 0),
    .int .u8 (t.getD 0 0), .int .u8 (t.getD 1 0), .int .u8 (t.getD 2 0), .int .u8 (t.getD 3 0), .int .u8 (t.getD 4 0), .int .u8 (t.getD 5 0), .int .u8 (t.getD 6 0), .int .u8 (t.getD 7 0), .int .u8 (t.getD 8 0), .int .u8 (t.getD 9 0), .int .u8 (t.getD 10 0), .int .u8 (t.getD 11 0), .int .u8 (t.getD 12 0), .int .u8 (t.getD 13 0), .int .u8 (t.getD 14 0), .int .u8 (t.getD 15 0)]
structure E6ok (s t : List Int) : Prop where
  sL : s.length = 16
  s : InB s
  tL : t.length = 16
  t : InB t
theorem Rd4.to {w w' : World} {d : D4} {p : W4} (h : Rd4 w.heap.size w d p) (b : Below w.heap.size w w') : Rd4 w'.heap.size w' d p := (h.below b (Nat.le_refl _)).more b.size
theorem Rd7.to {w w' : World} {d : D7} {A : Option Addr} {c : Nat} (h : Rd7 w.heap.size w d A c) (b : Below w.heap.size w w') : Rd7 w'.heap.size w' d A c := (h.below b (Nat.le_refl _)).more b.size
end Go.Proofs.Ytijnifbpbgckgaa
namespace Go.Proofs.Ytijnifbpbgckgaa
open Go.ChangeShapes Go.WideShapes Go.ChangeAt Go.RowKit Go.Shelf

section
variable {H : Type} {enc : TypeId × Value → H} {W : World} {base : Nat} {spare : Nat → Bool} {held : Bool}
theorem two_parts {l p q : List Value} {n : Nat} (hl : l.length = n + n) (h1 : p = (l.drop 0).take n) (h2 : q = (l.drop n).take n) : l = p ++ q := by
  subst h1 h2
  rw [List.drop_zero, List.take_of_length_le (l := l.drop n) (by rw [List.length_drop]; omega), List.take_append_drop]
set_option maxRecDepth 100000 in
theorem open_ends6 {v : Value} {d : DataW H} {p : List MemPlace} {r : Reach} {b0 : Nat} (hv : Value.okWide Try.prog W r b0 31 v) (h : DataW.Trod enc Try.prog W base spare held 31 v d p) :
    ∃ s t, v = .agg (ends6 s t) ∧ E6ok s t := by
  have ht := Try.underlying31
  simp only [Value.okWide, ht] at hv
  obtain ⟨cs, rfl, _⟩ := hv
  obtain ⟨fuel, hf⟩ := h
  have hlen : cs.toList.length = 32 := (struct_len ht hf).trans (by kernel_rfl)
  have hk : ∃ m, _ := field_at ht hf
  obtain ⟨m, g⟩ := hk
  obtain ⟨y0, e0⟩ := g 0 _ 16 rfl (by kernel_rfl)
  obtain ⟨y1, e1⟩ := g 1 _ 16 rfl (by kernel_rfl)
  obtain ⟨a, q0, n0, r0⟩ := trod_u8s Try.underlying29 Try.underlying5 (by kernel_rfl) (by kernel_rfl) e0
  obtain ⟨b, q1, n1, r1⟩ := trod_u8s Try.underlying29 Try.underlying5 (by kernel_rfl) (by kernel_rfl) e1
  refine ⟨a, b, ?_, ⟨n0, r0, n1, r1⟩⟩
  have hl := two_parts (n := 16) hlen q0.symm q1.symm
  show Value.agg cs = Value.agg (u8s (l16 a) ++ u8s (l16 b)).toArray
  rw [l16_eq n0, l16_eq n1, ← Array.toArray_toList (xs := cs), hl]
end
end Go.Proofs.Ytijnifbpbgckgaa
namespace Go.Proofs.Ytijnifbpbgckgaa
open Go.RowKit Go.Shelf

theorem pseudo6_ok (a b : List Int) (ha : a.length = 16) (hb : b.length = 16) (ra : InB a) (rb : InB b) (p n : Int) (hp0 : 0 ≤ p) (hp1 : p ≤ 255) (h0 : 0 ≤ n) (h1 : n ≤ 65535) (w : World) :
    Calls Try.prog 69 #[.agg (u8s a).toArray, .agg (u8s b).toArray, .int .u8 p, .int .i64 n] w fun e w' => ∃ v, e = .returned (.tuple #[v, .int .i64 0]) ∧ OwnB w' w.heap.size v (a ++ b ++ [0, 0, n / 256, n % 256, 0, 0, 0, p]) ∧ Below w.heap.size w w' := by
    go_enter Try.func69, Try.ntmps69
    go_wp2
    have hr4 : InB [0, 0, IntKind.u8.wrap (n / 256), IntKind.u8.wrap n, 0, 0, 0, p] := fun x hx => by
      simp only [IntKind.wrap_u8, List.mem_cons, List.not_mem_nil, or_false] at hx
      omega
    have hb1 : Below w.heap.size w ((((w.alloc (.cells (u8s a).toArray 29)).alloc (.cells (u8s b).toArray 29)).alloc (.cells (u8s [0, 0, IntKind.u8.wrap (n / 256), IntKind.u8.wrap n, 0, 0, 0, p]).toArray 5)).alloc (.cells #[Value.slice (some ⟨w.heap.size, 0, none⟩) 16 16, Value.slice (some ⟨w.heap.size + 1, 0, none⟩) 16 16, Value.slice (some ⟨w.heap.size + 1 + 1, 0, none⟩) 8 8] 25)).drew :=
      (((((Below.refl _ w).alloc (Nat.le_refl _) _).alloc (by simp) _).alloc (by simp; omega) _).alloc (by simp; omega) _).drew
    go_region_with (go_at_call 87; (refine (concat_any _ _ [(some ⟨w.heap.size, 0, none⟩, 16, a), (some ⟨w.heap.size + 1, 0, none⟩, 16, b), (some ⟨w.heap.size + 1 + 1, 0, none⟩, 8, [0, 0, IntKind.u8.wrap (n / 256), IntKind.u8.wrap n, 0, 0, 0, p])] _
      (Parts.blk (t := 25) (fz := (0, 0)) (by simp only [List.map_cons, List.map_nil, ha, hb]; repeat (first | exact Has.newAt (by simp) | refine Has.drew ?_ | refine Has.alloc ?_)) (Nat.le_refl _) rfl
        (all3 (By.blk (t := 29) (fz := (0, 0)) (by repeat (first | exact Has.newAt (by simp) | refine Has.drew ?_ | refine Has.alloc ?_)) (Nat.le_refl _) ra (show a.length ≤ _ by omega) rfl (by simp [ha]))
         (By.blk (t := 29) (fz := (0, 0)) (by repeat (first | exact Has.newAt (by simp) | refine Has.drew ?_ | refine Has.alloc ?_)) (Nat.le_refl _) rb (show b.length ≤ _ by omega) rfl (by simp [hb]))
         (By.blk (t := 5) (fz := (0, 0)) (by repeat (first | exact Has.newAt (by simp) | refine Has.drew ?_ | refine Has.alloc ?_)) (Nat.le_refl _) hr4 (by simp) rfl rfl)) (by simp)) (by simp [flat]; omega)).mono ?_); rintro e w' ⟨v, rfl, hown, hb2⟩; obtain ⟨A', c', rfl, _⟩ := own_shape hown.own)
    go_wp2
    go_ret2
    refine ⟨_, rfl, ?_, hb1.trans (hb2.mono hb1.size)⟩
    have he : flat [(some ⟨w.heap.size, 0, none⟩, 16, a), (some ⟨w.heap.size + 1, 0, none⟩, 16, b), (some ⟨w.heap.size + 1 + 1, 0, none⟩, 8, [0, 0, IntKind.u8.wrap (n / 256), IntKind.u8.wrap n, 0, 0, 0, p])] = a ++ b ++ [0, 0, n / 256, n % 256, 0, 0, 0, p] := by
      simp only [flat, List.map_cons, List.map_nil, List.flatten_cons, List.flatten_nil, IntKind.wrap_u8, List.append_nil, List.append_assoc]
      rw [show n / 256 % 256 = n / 256 from by omega]
    rw [← he]
    exact hown.more hb1.size
end Go.Proofs.Ytijnifbpbgckgaa
