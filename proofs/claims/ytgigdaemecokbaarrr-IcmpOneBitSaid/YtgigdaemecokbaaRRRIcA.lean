/-
  The walks of slices.Clone at bytes, bytes.Equal, icmp.long, icmp.write, icmp.Write4, icmp.Write6.
-/
import Derived.Test.YtgigdaemecokbaaRRRP7
import Derived.Test.YtgigdaemecokbaaRRRSumOf
import Derived.Test.YtgigdaemecokbaaRRRPseudo6
import Derived.Test.YtgigdaemecokbaaRRRMem2
import Derived.Lib.SliceRun
namespace Go.Proofs.YtgigdaemecokbaaRRR
open Go.RowKit Go.Shelf

theorem OwnB.blk {w : World} {g base n : Nat} {l : List Int} (h : Has w g (.cells (u8s l).toArray 5 (0, 0))) (hg : base ≤ g) (hn : n = l.length) (hl : InB l) (hm : l.length ≤ 9223372036854775807) : OwnB w base (.slice (some ⟨g, 0, none⟩) n n) l := by
  subst hn
  exact ⟨⟨by rw [Nat.mul_one]; exact u8s_length l, .inr ⟨g, l.length, _, rfl, hg, h, Nat.le_refl _, by simp only [maxLen]; omega, by simp [u8s_length], by rw [Nat.mul_one, List.take_of_length_le (by simp [u8s_length])]⟩⟩, hl⟩

theorem clone_any (A : Option Addr) (c : Nat) (l : List Int) (w : World) (hy : By w.heap.size w A l.length c l) (hb : l.length ≤ 140737488355328) :
    Calls Try.prog 22 #[.slice A l.length c] w fun e w' => ∃ v, e = .returned v ∧ OwnB w' w.heap.size v l ∧ Below w.heap.size w w' := by
  have q22 : ∀ (w : World) (a : Option Addr) (n c n' c' : Nat), (binOp .eql 23 (.slice a n c) (.slice none n' c')).run Try.prog w = .ok (.bool a.isNone) w := fun w a n c n' c' => Lib.run_eql_slice_nil w _ _ a n c n' c' Try.underlying23
  cases A with
  | none =>
    have h0 : l.length = 0 := by
      rcases Nat.eq_zero_or_pos l.length with h | h
      · exact h
      · obtain ⟨_, _, e, _⟩ := hy.row.at_ h; cases e
    have hl : l = [] := List.eq_nil_of_length_eq_zero h0
    subst hl
    go_enter Try.func22, Try.ntmps22
    go_wp2
    go_ret
    exact ⟨_, rfl, OwnB.nil _ _, Below.refl _ _⟩
  | some ad =>
    go_enter Try.func22, Try.ntmps22
    go_wp2_with (at_builtin; refine wpList_appB _ rfl _ _ _ rfl Try.underlying23 info8 w.heap.size _ _ rfl (OwnB.made w w.heap.size (Nat.le_refl _)) _ (some ad) l.length c l rfl (hy.alloc (Nat.le_refl _) _) (by simpa using hb) (by simp) ?_; intro v' w1 own hg hat; have hbel := below_app (OwnB.made w w.heap.size (Nat.le_refl _)) hg (by simp); obtain ⟨A', c', rfl, _⟩ := own_shape own.own)
    go_ret
    exact ⟨_, rfl, by simpa using own, ((Below.refl _ _).alloc (Nat.le_refl _) _).trans hbel⟩

theorem clone_n (A : Option Addr) (c n : Nat) (l : List Int) (w : World) (hy : By w.heap.size w A n c l) (hb : l.length ≤ 140737488355328) :
    Calls Try.prog 22 #[.slice A n c] w fun e w' => ∃ v, e = .returned v ∧ OwnB w' w.heap.size v l ∧ Below w.heap.size w w' := by
  have := hy.len
  subst this
  exact clone_any A c l w hy hb

theorem equal_any (B1 B2 : Nat) (A1 A2 : Option Addr) (c1 c2 : Nat) (l1 l2 : List Int) (w : World) (y1 : By B1 w A1 l1.length c1 l1) (y2 : By B2 w A2 l2.length c2 l2) :
    Calls Try.prog 23 #[.slice A1 l1.length c1, .slice A2 l2.length c2] w fun e w' => e = .returned (.bool (decide (l1 = l2))) ∧ w = w' := by
  have u1 := y1.conv (P := Try.prog) 23 9 Try.underlying23 Try.underlying5 Try.underlying9
  have u2 := y2.conv (P := Try.prog) 23 9 Try.underlying23 Try.underlying5 Try.underlying9
  have q := strOfNums_beq y1.rng y2.rng
  have hq := Lib.hid q
  clear q
  go_enter Try.func23, Try.ntmps23
  go_wp2
  go_ret
  exact ⟨ret_bool hq.out, rfl⟩

theorem icmp_info : (Try.prog.info? 25).map (·.size) = some 4 := by kernel_rfl

theorem long7_any (d : D7) (A : Option Addr) (c : Nat) (w : World) (hb : d.bl.length ≤ 9223372036854775807) :
    Calls Try.prog 24 #[.agg (d.cells A c)] w fun e w' => ∃ q : Bool, e = .returned (.bool q) ∧ Hid (q = decide (65527 < d.bl.length)) ∧ Below w.heap.size w w' := by
  unfold D7.cells
  go_enter Try.func24, Try.ntmps24
  go_wp2
  go_ret
  exact ⟨_, rfl, Lib.hid (decide_eq_decide.2 (by omega)), (Below.refl _ _).alloc (Nat.le_refl _) _⟩

set_option maxRecDepth 100000 in
theorem write7_any (d : D7) (A : Option Addr) (c : Nat) (Ap : Option Addr) (cp : Nat) (ps : List Int) (w : World) (hR : Rd7 w.heap.size w d A c) (hp : By w.heap.size w Ap ps.length cp ps) (h0 : d.bl.length ≤ 65527) :
    Calls Try.prog 25 #[.agg (d.cells A c), .slice Ap ps.length cp] w fun e w' => ∃ v, e = .returned v ∧ OwnB w' w.heap.size v (d.bytes ps) ∧ Below w.heap.size w w' := by
  have r1 := hR.ok.ty
  have r2 := hR.ok.code
  have r3 := hR.ok.rest
  have hB : Below w.heap.size w (w.alloc (.cells (d.cells A c) 25)) := (Below.refl _ _).alloc (Nat.le_refl _) _
  have hH : Has (w.alloc (.cells (d.cells A c) 25)) w.heap.size (.cells (d.cells A c) 25 (0, 0)) := Has.newAt rfl
  unfold D7.cells
  go_enter Try.func25, Try.ntmps25
  go_wp2_with fail
  refine (of_new [(Ap, cp, ps), (some ⟨w.heap.size + 1, 0, none⟩, 8, d.first 0), (A, c, d.bl)] 3 (by simp only [List.map_cons, List.map_nil]; exact Has.newAt (by simp)) rfl
    (all3 (By.more (B := w.heap.size) (by repeat (first | exact hp | refine By.alloc ?_ (by simp; try omega) _)) (by simp; try omega))
      (By.blk (t := 5) (fz := (0, 0)) (by repeat (first | exact Has.newAt (by simp) | refine Has.alloc ?_)) (Nat.le_refl _) (d.first_rng hR.ok (by decide)) (by simp [D7.first]) rfl rfl)
      (By.more (B := w.heap.size) (by repeat (first | exact hR.body | refine By.alloc ?_ (by simp; try omega) _)) (by simp; try omega))) (by simp)).mono ?_
  rintro e w5 ⟨q, rfl, hq, hq2, hb5⟩
  have hA : Has w5 (w.heap.size + 1) (.cells (u8s (d.first 0)).toArray 5 (0, 0)) := Has.below (by repeat (first | exact Has.newAt (by simp) | refine Has.alloc ?_)) hb5 (by simp; try omega)
  have hH5 := (hH.alloc.alloc).below hb5 (by simp; try omega)
  have hBD : Below w.heap.size w w5 := Below.trans (by repeat (first | exact Below.refl _ _ | refine Below.alloc ?_ (by simp; try omega) _)) (hb5.mono (by simp; try omega))
  have hqs : q = d.sum ps := by rw [hq.out]; simp [flat, D7.sum]
  have hA9 := (hA.setCell 2 (.int .u8 (q / 256))).setCell 3 (.int .u8 (q % 256))
  have hBE := Lib.hid (below_setCell (below_setCell hBD (Nat.le_succ _) 2 (.int .u8 (q / 256))) (Nat.le_succ _) 3 (.int .u8 (q % 256)))
  have e9 : ((u8s (d.first 0)).toArray.setIfInBounds 2 (.int .u8 (q / 256))).setIfInBounds 3 (.int .u8 (q % 256)) = (u8s (d.first q)).toArray := rfl
  rw [e9] at hA9
  have own := Lib.hid (OwnB.blk (n := 8) hA9 (Nat.le_succ w.heap.size) rfl (d.first_rng hR.ok hq2) (by simp [D7.first]))
  have yB := Lib.hid (hR.body.below hBE.out (Nat.le_refl _))
  have d2 := hA.cell 2 (v := .int .u8 0) rfl
  have d3 := hA.cell 3 (v := .int .u8 0) rfl
  have f2 := hA.free 2
  have f3 := hA.free 3
  have c3 := hH5.cell 3 (v := .slice A d.bl.length c) rfl
  have hs := Lib.hid hBE.out.size
  have hqsH := Lib.hid hqs
  clear hq hqs hA hA9 e9 hb5 hB hH hH5 hBD
  go_wp2_with (at_builtin; refine wpList_appB _ rfl _ _ _ rfl Try.underlying23 info8 w.heap.size _ (d.first q) rfl own.out _ A d.bl.length c d.bl rfl yB.out (by simp [D7.first]; omega) hs.out ?_; intro v' w7 own7 hg hat; have hbel := below_app own.out hg hs.out; obtain ⟨A', c', rfl, _⟩ := own_shape own7.own; clear d2 d3 f2 f3 c3)
  go_ret
  refine ⟨_, rfl, ?_, hBE.out.trans hbel⟩
  rw [D7.bytes, ← hqsH.out]
  rw [List.length_append] at own7
  exact own7

/-- what Write4 answers -/
theorem write4_any (d : D7) (A : Option Addr) (c : Nat) (w : World) (hR : Rd7 w.heap.size w d A c) :
    Calls Try.prog 18 #[.agg (d.cells A c)] w fun e w' => ∃ v s, e = .returned (.tuple #[v, .int .i64 s]) ∧ Hid (s = d.err) ∧ OwnB w' w.heap.size v (d.write []) ∧ Below w.heap.size w w' := by
  have hb := Nat.le_trans hR.body.cap hR.body.big
  have hB : Below w.heap.size w (w.alloc (.cells (d.cells A c) 25)) := (Below.refl _ _).alloc (Nat.le_refl _) _
  have hH : Has (w.alloc (.cells (d.cells A c) 25)) w.heap.size (.cells (d.cells A c) 25 (0, 0)) := Has.newAt rfl
  by_cases h0 : 65527 < d.bl.length
  · have e1 : d.err = 2 := if_pos h0
    have e2 : d.write [] = [] := if_pos h0
    rw [e1, e2]
    have h0H := Lib.hid h0
    clear e1 e2 h0
    go_enter Try.func18, Try.ntmps18
    go_wp2_with (refine wpList_load_row rfl 25 (.tmp 1) rfl w.heap.size rfl 25 (d.cells A c) (0, 0) _ (World.alloc_heap_new _ _) Try.underlying25 rfl icmp_info ?_)
    refine (long7_any d A c _ hb).mono ?_
    rintro e w1 ⟨q, rfl, hq, hb1⟩
    obtain rfl : q = true := hq.out.trans (decide_eq_true h0H.out)
    go_wp2
    go_ret2
    exact ⟨_, _, rfl, Lib.hid rfl, OwnB.nil _ _, hB.trans (hb1.mono hB.size)⟩
  · have e1 : d.err = 0 := if_neg h0
    have e2 : d.write [] = d.bytes [] := if_neg h0
    rw [e1, e2]
    have h0H := Lib.hid h0
    clear e1 e2 h0
    go_enter Try.func18, Try.ntmps18
    go_wp2_with (refine wpList_load_row rfl 25 (.tmp 1) rfl w.heap.size rfl 25 (d.cells A c) (0, 0) _ (World.alloc_heap_new _ _) Try.underlying25 rfl icmp_info ?_)
    refine (long7_any d A c _ hb).mono ?_
    rintro e w1 ⟨q, rfl, hq, hb1⟩
    obtain rfl : q = false := hq.out.trans (decide_eq_false h0H.out)
    have hH1 := hH.below hb1 hH.lt
    have hB1 := hB.trans (hb1.mono hB.size)
    clear hq hb1 hB hH
    have hR1 := (hR.below hB1 (Nat.le_refl _)).more (B' := w1.heap.size) hB1.size
    go_wp2_with (refine wpList_load_row rfl 25 (.tmp 1) rfl w.heap.size rfl 25 (d.cells A c) (0, 0) _ hH1 Try.underlying25 rfl icmp_info ?_)
    refine (write7_any d A c none 0 [] w1 hR1 (By.nil _ _ _ (by decide)) (by have := h0H.out; omega)).mono ?_
    rintro e w2 ⟨v, rfl, ho, hb2⟩
    obtain ⟨A', c', rfl, _⟩ := own_shape ho.own
    have ho2 := ho.more (base' := w.heap.size) hB1.size
    clear ho
    go_wp2
    go_ret2
    exact ⟨_, _, rfl, Lib.hid rfl, ho2, hB1.trans (hb2.mono hB1.size)⟩
end Go.Proofs.YtgigdaemecokbaaRRR
