/-
  Lemmas and walks for the row of TosixRight (part 24 of 33).
-/
import Derived.Test.YtijnifbpbgckgaaTrAF
import Derived.Test.YtijnifbpbgckgaaTrAW
set_option linter.unusedVariables false
set_option linter.unusedSimpArgs false
namespace Go.Proofs.Ytijnifbpbgckgaa
open Go.RowKit Go.Shelf

/-- a datagram whose bytes lie in memory of the call's own -/
structure Own4 (w : World) (base : Nat) (D : D4) (p : W4) : Prop where
  ok : D.ok
  opt : OwnB w base (.slice p.oA D.ol.length p.oc) D.ol
  body : OwnB w base (.slice p.bA D.bl.length p.bc) D.bl
theorem own_by4 {w : World} {base n : Nat} {A : Option Addr} {c : Nat} {l : List Int} (h : OwnB w base (.slice A n c) l) : By w.heap.size w A n c l := by
  obtain ⟨A', c', e, y⟩ := h.by_
  injection e with e1 e2 e3
  subst e1 e2 e3
  exact y
theorem Own4.rd {w : World} {base : Nat} {D : D4} {p : W4} (h : Own4 w base D p) : Rd4 w.heap.size w D p := ⟨h.ok, own_by4 h.opt, own_by4 h.body⟩

theorem and_i64 (i : Nat) {a : Int} (m : Int) (hm : m = ((2 ^ i - 1 : Nat) : Int)) (h1 : 0 ≤ a) (h2 : a < 65536) (hi : i ≤ 16 := by decide) : bits .and .i64 a m = a % ((2 ^ i : Nat) : Int) := by
  subst hm
  have e1 : a = (a.toNat : Int) := by omega
  have h2i : 2 ^ i ≤ 2 ^ 16 := Nat.pow_le_pow_right (by decide) hi
  have h := (bits_nat .i64 63 (by decide) (fun n h0 h1 => IntWalk.i64_in n (by omega)) a.toNat (2 ^ i - 1) (by omega) (by omega)).1
  rw [e1, h, nat_and_mask, Int.natCast_emod]

theorem taken_z {B g : Nat} {t : TypeId} {W0 w : World} {l : List Int} {k : Nat} (n : Nat) {z : Int} (hz : z = (n : Int)) (h : RD B g t W0 w l k) (hk : k + n ≤ l.length) :
    Calls Try.prog 113 #[.pointer (some ⟨g, 0, none⟩), .int .i64 z] w fun e w' => ∃ A1 c1, e = .returned (.slice A1 n c1) ∧ By B W0 A1 n c1 ((l.drop k).take n) ∧ RD B g t W0 w' l (k + n) ∧ But g w w' := by
  subst hz
  exact take_any n h hk
theorem take4 (l : List Int) (k : Nat) (h : k + 4 ≤ l.length) : (l.drop k).take 4 = [l.getD k 0, l.getD (k + 1) 0, l.getD (k + 2) 0, l.getD (k + 3) 0] := by
  have hl : ((l.drop k).take 4).length = 4 := by rw [List.length_take, List.length_drop]; omega
  have hg : ∀ i, i < 4 → ((l.drop k).take 4).getD i 0 = l.getD (k + i) 0 := fun i hi => by simp [List.getD, hi]
  obtain ⟨a, b, c, d, e⟩ := len4 hl
  rw [e] at hg ⊢
  have h0 : a = l.getD k 0 := hg 0 (by decide)
  have h1 : b = l.getD (k + 1) 0 := hg 1 (by decide)
  have h2 : c = l.getD (k + 2) 0 := hg 2 (by decide)
  have h3 : d = l.getD (k + 3) 0 := hg 3 (by decide)
  rw [h0, h1, h2, h3]
set_option maxRecDepth 100000 in
set_option maxHeartbeats 4000000 in
theorem read_ok {B g : Nat} {t : TypeId} {W0 w : World} {l : List Int} (A : Option Addr) (c : Nat) (part : Bool) (h : RD B g t W0 w l 0) (hy : By B W0 A l.length c l) (hl : InB l) (he : pe4 part l = 0) :
    Calls Try.prog 106 #[.pointer (some ⟨g, 0, none⟩), .slice A l.length c, .bool part] w fun e w' => ∃ p, e = .returned (.agg ((of4 l).cells p)) ∧ Own4 w' B (of4 l) p ∧ Below B W0 w' := by
  have hBw : B ≤ w.heap.size := by have h1 := h.hg; obtain ⟨_, _, h2, _⟩ := h.st; have h3 := h2.lt; omega
  have hB1 : Below B W0 (w.alloc (.cells z4cells 27)) := h.bel.alloc hBw _
  obtain ⟨h20, h41, h1, h2, e43, e43', e44⟩ := pe4_zero he
  obtain ⟨b, off, rfl, hbl, -⟩ := hy.row.at_ (by omega)
  have d0 : (w.alloc (.cells z4cells 27)).cell? ⟨b, off, none⟩ = _ := cell_at4 hy hB1 (i := 0) (by omega)
  have r0 := getD_rng4 hl 0
  have hH : hl4 l = l.getD 0 0 % 16 * 4 := rfl
  obtain ⟨x0, hx0⟩ : ∃ x, l.getD 0 0 = x := ⟨_, rfl⟩
  rw [hx0] at d0 r0 hH h41
  unfold z4cells at d0
  have z0 : (0 : Int) < (l.length : Int) := by omega
  have h20' : (20 : Int) ≤ (l.length : Int) := by omega
  have ha : bits .and .u8 x0 15 = x0 % 16 := and_u8 4 15 rfl (by decide) (by omega) (by omega)
  obtain ⟨k, hk⟩ : ∃ k : Nat, x0 % 16 * 4 = (k : Int) := ⟨(x0 % 16 * 4).toNat, by omega⟩
  rw [hk] at hH
  have hkb : k ≤ 60 := by omega
  rw [hH] at h1 h2 e43' e44
  rw [Int.toNat_natCast] at e44
  have hR1 := h.move (fun _ h => h.alloc) ((Below.refl B w).alloc hBw (.cells z4cells 27))
  have hg6 : w.heap.size ≠ g := by obtain ⟨_, _, h2, _⟩ := h.st; have h3 := h2.lt; omega
  have hr6 : Has (w.alloc (.cells z4cells 27)) w.heap.size (.cells z4cells 27 (0, 0)) := Has.newAt rfl
  obtain ⟨x1, hx1⟩ : ∃ x, l.getD 1 0 = x := ⟨_, rfl⟩
  obtain ⟨hsl, yk⟩ := hy.to_ (P := Try.prog) 25 Try.underlying25 (by kernel_rfl) (k := k) (by omega)
  have yk := Lib.hid yk
  have e44H := Lib.hid e44
  have hxH := Lib.hid hx0
  clear he e44 hx0
  go_enter Try.func106, Try.ntmps106
  go_wp2_with fail
  refine (take1_any hR1 (by omega)).mono ?_
  rintro e w1 ⟨b1, o1, c1, rfl, hb1, q1, hR1, hn1⟩
  have hr6 := hn1.has _ _ hg6 hr6
  clear hn1 q1 hb1 d0
  go_wp2_with fail
  refine (take1_any hR1 (by omega)).mono ?_
  rintro e w2 ⟨b2, o2, c2, rfl, hb2, q2, hR2, hn2⟩
  have hr6 := hn2.has _ _ hg6 hr6
  have q2 : w2.cell? ⟨b2, o2, none⟩ = some (.int .u8 x1) := ((hR2.bel.cell (p := ⟨b2, o2, none⟩) hb2).trans q2).trans (by rw [← hx1])
  clear hn2 hR1
  have hV : Has (w2.alloc (.cells (v4 x1 0 false false 0 0 0 0 0 0 0 0 0 0 0 none 0 0 none 0 0) 27)) w2.heap.size (.cells (v4 x1 0 false false 0 0 0 0 0 0 0 0 0 0 0 none 0 0 none 0 0) 27 (0, 0)) := Has.newAt rfl
  have hR3 := hR2.move (fun _ h => h.alloc) ((Below.refl B w2).alloc (Nat.le_trans hR2.hg (by obtain ⟨_, _, h2, _⟩ := hR2.st; exact Nat.le_of_lt h2.lt)) (.cells (v4 x1 0 false false 0 0 0 0 0 0 0 0 0 0 0 none 0 0 none 0 0) 27))
  have hgr : w2.heap.size ≠ w.heap.size := Nat.ne_of_gt hr6.lt
  have hR3B : B ≤ w2.heap.size := Nat.le_trans hR2.hg (by obtain ⟨_, _, h2, _⟩ := hR2.st; exact Nat.le_of_lt h2.lt)
  have hr6 := hr6.alloc (o' := .cells (v4 x1 0 false false 0 0 0 0 0 0 0 0 0 0 0 none 0 0 none 0 0) 27)
  have hgv : w2.heap.size ≠ g := by obtain ⟨_, _, h2, _⟩ := hR2.st; have h3 := h2.lt; omega
  clear hR2
  go_wp2_with fail
  refine (ptwo_any hR3 (by omega) hl).mono ?_
  rintro e w3 ⟨q, rfl, hq, hR4, hn3⟩
  have hr6 := hn3.has _ _ hg6 hr6
  have hV := hn3.has _ _ hgv hV
  clear hn3 hR3
  obtain rfl : q = tot4 l := hq.out
  clear hq
  have hB3 : B ≤ w3.heap.size := Nat.le_trans hR4.hg (by obtain ⟨_, _, h2, _⟩ := hR4.st; exact Nat.le_of_lt h2.lt)
  have hHH := Lib.hid hH
  clear hH
  have hgrB : B ≤ w.heap.size := hBw
  have hgvB : B ≤ w2.heap.size := hR3B
  generalize w2.heap.size = gv at hV hgv hgr hgvB ⊢
  generalize w.heap.size = gr at hr6 hg6 hgr hgrB ⊢
  obtain ⟨T, hT⟩ : ∃ T, tot4 l = T := ⟨_, rfl⟩
  rw [hT] at e43 e43' ⊢
  have hlen : l.length ≤ 65535 := by
    have g2 := getD_rng4 hl 2
    have g3 := getD_rng4 hl 3
    have h4 : l.getD 2 0 * 256 + l.getD 3 0 = T := hT
    cases part
    · have := e43 rfl; omega
    · have := e43' rfl; omega
  have g4 := getD_rng4 hl 4
  have g5 := getD_rng4 hl 5
  have g6 := getD_rng4 hl 6
  have g7 := getD_rng4 hl 7
  cases part
  case' false =>
    have hn : (T != (l.length : Int)) = false := by simp [e43 rfl]
    go_wp2_with fail
    refine (good_new [(some ⟨b, off, none⟩, c, l.take k)] 1 (by simp only [List.map_cons, List.map_nil]; rw [yk.out.len]; exact Has.newAt rfl) rfl (all1 (by rw [yk.out.len]; exact ((yk.out.below hR4.bel (Nat.le_refl _)).alloc hB3 _).more (by simp; omega))) (by simp)).mono ?_
    rintro e w4 ⟨q, rfl, hq, hb⟩
    obtain rfl : q = true := hq.out.trans (by rw [show flat [(some ⟨b, off, none⟩, c, l.take k)] = l.take k from by simp [flat]]; exact decide_eq_true (e44H.out trivial))
    have hb : Below w3.heap.size w3 w4 := ((Below.refl _ _).alloc (Nat.le_refl _) _).trans (hb.mono (by simp))
    have hR4 := hR4.move (fun _ h => h.below hb h.lt) (hb.mono hB3)
    have hr6 := hr6.below hb hr6.lt
    have hV := hV.below hb hV.lt
    clear hb hq
  case' true =>
    have hn1 : (l.length : Int) ≤ T := (e43' rfl).1
    have hn2 : (k : Int) ≤ T := (e43' rfl).2
    obtain ⟨w4, rfl⟩ : ∃ w4, w4 = w3 := ⟨_, rfl⟩
  all_goals
    go_wp2_with fail
    refine (ptwo_any hR4 (by omega) hl).mono ?_
    rintro e w5 ⟨q5, rfl, hq5, hR5, hn⟩
    have hr6 := hn.has _ _ hg6 hr6
    have hV := hn.has _ _ hgv hV
    have hq5' : 0 ≤ q5 ∧ q5 < 65536 := by rw [hq5.out]; have h4 : l.getD (0 + 1 + 1 + 2) 0 = l.getD 4 0 := rfl; have h5 : l.getD (0 + 1 + 1 + 2 + 1) 0 = l.getD 5 0 := rfl; omega
    clear hn hR4
    have c1 := hV.cell 1 (v := .int .u16 0) rfl
    have f1 := hV.free 1
    go_wp2_with fail
    have hb := below_setCell (Below.refl B w5) hgvB 1 (.int .u16 q5)
    have hR5 := hR5.move (fun _ h => h.setCell_other (Ne.symm hgv) 1 (.int .u16 q5)) hb
    have hr6 := hr6.setCell_other (Ne.symm hgr) 1 (.int .u16 q5)
    have hV : Has (w5.setCell ⟨gv, 1, none⟩ (.int .u16 q5)) gv (.cells (v4 x1 q5 false false 0 0 0 0 0 0 0 0 0 0 0 none 0 0 none 0 0) 27 (0, 0)) := hV.setCell 1 (.int .u16 q5)
    refine (ptwo_any hR5 (by omega) hl).mono ?_
    clear hb c1 f1
    rintro e w6 ⟨q6, rfl, hq6, hR6, hn⟩
    have hr6 := hn.has _ _ hg6 hr6
    have hV := hn.has _ _ hgv hV
    have e6 : q6 = l.getD 6 0 * 256 + l.getD 7 0 := hq6.out
    have hq6' : 0 ≤ q6 ∧ q6 < 65536 := by omega
    have a1 : bits .and .i64 (q6 / 16384) 1 = q6 / 16384 % 2 := and_i64 1 1 rfl (by omega) (by omega)
    have a2 : bits .and .i64 (q6 / 8192) 1 = q6 / 8192 % 2 := and_i64 1 1 rfl (by omega) (by omega)
    have a3 : bits .and .i64 q6 8191 = q6 % 8192 := and_i64 13 8191 rfl (by omega) (by omega)
    obtain ⟨y1, hy1⟩ : ∃ y, q6 / 16384 % 2 = y := ⟨_, rfl⟩
    obtain ⟨y2, hy2⟩ : ∃ y, q6 / 8192 % 2 = y := ⟨_, rfl⟩
    obtain ⟨y3, hy3⟩ : ∃ y, q6 % 8192 = y := ⟨_, rfl⟩
    rw [hy1] at a1
    rw [hy2] at a2
    rw [hy3] at a3
    have hy1H := Lib.hid hy1
    have hy2H := Lib.hid hy2
    have hy3H := Lib.hid hy3
    have e6H := Lib.hid e6
    clear hn hR5 hy1 hy2 hy3 e6
    have c2 := hV.cell 2 (v := .bool false) rfl
    have f2 := hV.free 2
    have c3 := hV.cell 3 (v := .bool false) rfl
    have f3 := hV.free 3
    have c4 := hV.cell 4 (v := .int .i64 0) rfl
    have f4 := hV.free 4
    go_wp2_with fail
    have hb := below_setCell (below_setCell (below_setCell (Below.refl B w6) hgvB 2 (.bool (y1 == 1))) hgvB 3 (.bool (y2 == 1))) hgvB 4 (.int .i64 y3)
    have hR6 : RD B g t W0 _ l 8 := hR6.move (fun _ h => ((h.setCell_other (Ne.symm hgv) 2 (.bool (y1 == 1))).setCell_other (Ne.symm hgv) 3 (.bool (y2 == 1))).setCell_other (Ne.symm hgv) 4 (.int .i64 y3)) hb
    have hr6 := ((hr6.setCell_other (Ne.symm hgr) 2 (.bool (y1 == 1))).setCell_other (Ne.symm hgr) 3 (.bool (y2 == 1))).setCell_other (Ne.symm hgr) 4 (.int .i64 y3)
    have hV : Has (((w6.setCell ⟨gv, 2, none⟩ (.bool (y1 == 1))).setCell ⟨gv, 3, none⟩ (.bool (y2 == 1))).setCell ⟨gv, 4, none⟩ (.int .i64 y3)) gv (.cells (v4 x1 q5 (y1 == 1) (y2 == 1) y3 0 0 0 0 0 0 0 0 0 0 none 0 0 none 0 0) 27 (0, 0)) := ((hV.setCell 2 (.bool (y1 == 1))).setCell 3 (.bool (y2 == 1))).setCell 4 (.int .i64 y3)
    clear hb c2 f2 c3 f3 c4 f4 a1 a2 a3
    generalize ((w6.setCell ⟨gv, 2, none⟩ (.bool (y1 == 1))).setCell ⟨gv, 3, none⟩ (.bool (y2 == 1))).setCell ⟨gv, 4, none⟩ (.int .i64 y3) = w7 at hR6 hr6 hV ⊢
    have hR6 := hR6.move (fun _ h => h.drew) (below_drew _ _)
    refine wp_region_held_drew (S := fun w' => Below B W0 w') (by kernel_rfl) hR6.bel (fun hS => ?_)
    have hr6 := hr6.drew
    have hV := hV.drew
    generalize w7.drew = w8 at hR6 hr6 hV hS ⊢
    refine te 0 (.pointer (some ⟨g, 0, none⟩)) hS rfl (by intro _ _; exact rfl) ?_
    simp only [lay]
    refine te 1 (.pointer (some ⟨g, 0, none⟩)) hS rfl (by intro _ _; exact rfl) ?_
    simp only [lay]
    refine te 2 (.pointer (some ⟨g, 0, none⟩)) hS rfl (by intro _ _; exact ex_field 0 0 (by exact rfl) Try.underlying161 (by exact rfl) rfl (by kernel_rfl) (by exact rfl)) ?_
    simp only [lay]
    refine te 6 (.pointer (some ⟨g, 0, none⟩)) hS rfl (by intro _ _; exact rfl) ?_
    simp only [lay]
    refine te 7 (.pointer (some ⟨g, 0, none⟩)) hS rfl (by intro _ _; exact rfl) ?_
    simp only [lay]
    refine te 8 (.pointer (some ⟨g, 0, none⟩)) hS rfl (by intro _ _; exact ex_field 0 0 (by exact rfl) Try.underlying161 (by exact rfl) rfl (by kernel_rfl) (by exact rfl)) ?_
    simp only [lay]
    refine tk_one (by kernel_rfl) (op_callx (i := 3) (fun v w' => ∃ b' o' c', v = .slice (some ⟨b', o', none⟩) 1 c' ∧ b' < B ∧ W0.cell? ⟨b', o', none⟩ = some (.int .u8 (l.getD 8 0)) ∧ RD B g t W0 w' l (8 + 1) ∧ But g w8 w') rfl (by kernel_rfl) (by exact ex_call (by exact rfl) Try.func113 (by kernel_rfl) (by kernel_rfl) (by simp only [List.map_toArray, List.map_cons, List.map_nil] <;> rfl)) ((take1_any hR6 (by omega)).mono fun e w' q => by obtain ⟨b', o', c', q1, q2, q3, q4, q5⟩ := q; exact ⟨_, q1, ⟨b', o', c', rfl, q2, q3, q4, q5⟩, q4.bel⟩) ?_)
    rintro v9 w9 ⟨b9, o9, m9, rfl, lt9, q9, hR9, hn9⟩ hS9
    simp only [lay]
    have hr6 := hn9.has _ _ hg6 hr6
    have hV := hn9.has _ _ hgv hV
    obtain ⟨x8, hx8⟩ : ∃ x, l.getD 8 0 = x := ⟨_, rfl⟩
    rw [hx8] at q9
    refine te 4 (.pointer (some ⟨b9, o9 + 0, none⟩)) hS9 rfl (by intro _ _; exact ex_index (by exact rfl) Try.underlying25 (by kernel_rfl) (by exact rfl) (by exact rfl) (by decide)) ?_
    simp only [lay]
    refine te 5 (.int .u8 x8) hS9 rfl (by intro _ h; exact ex_cell (by exact rfl) Try.underlying5 rfl (by exact rfl) ((Below.cell h (p := ⟨_, _, none⟩) lt9).trans q9)) ?_
    simp only [lay]
    refine tk_one (by kernel_rfl) (op_callx (i := 9) (fun v w' => ∃ b' o' c', v = .slice (some ⟨b', o', none⟩) 1 c' ∧ b' < B ∧ W0.cell? ⟨b', o', none⟩ = some (.int .u8 (l.getD 9 0)) ∧ RD B g t W0 w' l (9 + 1) ∧ But g w9 w') rfl (by kernel_rfl) (by exact ex_call (by exact rfl) Try.func113 (by kernel_rfl) (by kernel_rfl) (by simp only [List.map_toArray, List.map_cons, List.map_nil] <;> rfl)) ((take1_any hR9 (by omega)).mono fun e w' q => by obtain ⟨b', o', c', q1, q2, q3, q4, q5⟩ := q; exact ⟨_, q1, ⟨b', o', c', rfl, q2, q3, q4, q5⟩, q4.bel⟩) ?_)
    rintro v10 w10 ⟨b10, o10, m10, rfl, lt10, q10, hR10, hn10⟩ hS10
    simp only [lay]
    have hr6 := hn10.has _ _ hg6 hr6
    have hV := hn10.has _ _ hgv hV
    obtain ⟨x9, hx9⟩ : ∃ x, l.getD 9 0 = x := ⟨_, rfl⟩
    rw [hx9] at q10
    refine te 10 (.pointer (some ⟨b10, o10 + 0, none⟩)) hS10 rfl (by intro _ _; exact ex_index (by exact rfl) Try.underlying25 (by kernel_rfl) (by exact rfl) (by exact rfl) (by decide)) ?_
    simp only [lay]
    refine te 11 (.int .u8 x9) hS10 rfl (by intro _ h; exact ex_cell (by exact rfl) Try.underlying5 rfl (by exact rfl) ((Below.cell h (p := ⟨_, _, none⟩) lt10).trans q10)) ?_
    simp only [lay]
    refine te 12 (.pointer (some ⟨gv, 5, none⟩)) hS10 rfl (by intro _ _; exact ex_field 5 0 (by exact rfl) Try.underlying27 (by exact rfl) rfl (by kernel_rfl) (by exact rfl)) ?_
    simp only [lay]
    have hS11 := below_setCell hS10 hgvB 5 (.int .u8 x8)
    refine tk_store1 (i := 13) (v := .int .u8 x8) (by kernel_rfl) rfl (by kernel_rfl) rfl rfl rfl rfl (by kernel_rfl) (hV.cell 5 rfl) (hV.free 5) rfl hS11 ?_
    simp only [lay]
    have hV : Has (w10.setCell ⟨gv, 5, none⟩ (.int .u8 x8)) gv (.cells (v4 x1 q5 (y1 == 1) (y2 == 1) y3 x8 0 0 0 0 0 0 0 0 0 none 0 0 none 0 0) 27 (0, 0)) := hV.setCell 5 (.int .u8 x8)
    refine te 14 (.pointer (some ⟨gv, 6, none⟩)) hS11 rfl (by intro _ _; exact ex_field 6 0 (by exact rfl) Try.underlying27 (by exact rfl) rfl (by kernel_rfl) (by exact rfl)) ?_
    simp only [lay]
    have hS12 := below_setCell hS11 hgvB 6 (.int .u8 x9)
    refine tk_store1 (i := 15) (v := .int .u8 x9) (by kernel_rfl) rfl (by kernel_rfl) rfl rfl rfl rfl (by kernel_rfl) (hV.cell 6 rfl) (hV.free 6) rfl hS12 ?_
    simp only [lay]
    have hV : Has ((w10.setCell ⟨gv, 5, none⟩ (.int .u8 x8)).setCell ⟨gv, 6, none⟩ (.int .u8 x9)) gv (.cells (v4 x1 q5 (y1 == 1) (y2 == 1) y3 x8 x9 0 0 0 0 0 0 0 0 none 0 0 none 0 0) 27 (0, 0)) := hV.setCell 6 (.int .u8 x9)
    have hr6 := (hr6.setCell_other (Ne.symm hgr) 5 (.int .u8 x8)).setCell_other (Ne.symm hgr) 6 (.int .u8 x9)
    have hR10 := hR10.move (fun _ h => (h.setCell_other (Ne.symm hgv) 5 (.int .u8 x8)).setCell_other (Ne.symm hgv) 6 (.int .u8 x9)) (below_setCell (below_setCell (Below.refl B w10) hgvB 5 (.int .u8 x8)) hgvB 6 (.int .u8 x9))
    refine wpAnyH_done (by kernel_rfl) ?_ _
    clear hS hS9 hS10 hS11 hS12 hR9 hn9 hn10 hR6 q9 q10
    generalize (w10.setCell ⟨gv, 5, none⟩ (.int .u8 x8)).setCell ⟨gv, 6, none⟩ (.int .u8 x9) = w11 at hR10 hr6 hV ⊢
    go_wp2_with fail
    refine (ptwo_any hR10 (by omega) hl).mono ?_
    rintro e w12 ⟨qs, rfl, -, hR12, hn⟩
    have hr6 := hn.has _ _ hg6 hr6
    have hV := hn.has _ _ hgv hV
    clear hn hR10
    go_wp2_with fail
    have hR12 := hR12.move (fun _ h => h.drew) (below_drew _ _)
    have hr6 := hr6.drew
    have hV := hV.drew
    refine wp_region_held_drew (S := fun w' => Below B W0 w') (by kernel_rfl) hR12.bel (fun hS => ?_)
    generalize w12.drew = w13 at hR12 hr6 hV hS ⊢
    refine te 0 (.pointer (some ⟨gv, 7, none⟩)) hS rfl (by intro _ _; exact ex_field 7 3 (by exact rfl) Try.underlying27 (by exact rfl) rfl (by kernel_rfl) (by exact rfl)) ?_
    simp only [lay]
    refine te 1 (.slice (some ⟨gv, 7, none⟩) 4 4) hS rfl (by intro _ _; exact ex_arr (by exact rfl) Try.underlying24 (by kernel_rfl) (by exact rfl)) ?_
    simp only [lay]
    refine te 2 (.pointer (some ⟨g, 0, none⟩)) hS rfl (by intro _ _; exact rfl) ?_
    simp only [lay]
    refine te 3 (.pointer (some ⟨g, 0, none⟩)) hS rfl (by intro _ _; exact rfl) ?_
    simp only [lay]
    refine te 4 (.pointer (some ⟨g, 0, none⟩)) hS rfl (by intro _ _; exact ex_field 0 0 (by exact rfl) Try.underlying161 (by exact rfl) rfl (by kernel_rfl) (by exact rfl)) ?_
    simp only [lay]
    refine tk_one (by kernel_rfl) (op_callx (i := 5) (fun v w' => ∃ A' c', v = .slice A' 4 c' ∧ By B W0 A' 4 c' ((l.drop 12).take 4) ∧ RD B g t W0 w' l (12 + 4) ∧ But g w13 w') rfl (by kernel_rfl) (by exact ex_call (by exact rfl) Try.func113 (by kernel_rfl) (by kernel_rfl) (by simp only [List.map_toArray, List.map_cons, List.map_nil] <;> rfl)) ((take_any 4 hR12 (by omega)).mono fun e w' q => by obtain ⟨A', c', q1, q2, q3, q4⟩ := q; exact ⟨_, q1, ⟨A', c', rfl, q2, q3, q4⟩, q3.bel⟩) ?_)
    rintro v14 w14 ⟨A14, m14, rfl, y14, hR14, hn14⟩ hS14
    simp only [lay]
    have hr6 := hn14.has _ _ hg6 hr6
    have hV := hn14.has _ _ hgv hV
    rw [take4 l 12 (by omega)] at y14
    obtain ⟨sa0, hsa0⟩ : ∃ x, l.getD 12 0 = x := ⟨_, rfl⟩
    obtain ⟨sa1, hsa1⟩ : ∃ x, l.getD 13 0 = x := ⟨_, rfl⟩
    obtain ⟨sa2, hsa2⟩ : ∃ x, l.getD 14 0 = x := ⟨_, rfl⟩
    obtain ⟨sa3, hsa3⟩ : ∃ x, l.getD 15 0 = x := ⟨_, rfl⟩
    rw [show l.getD (12) 0 = sa0 from hsa0, show l.getD (12 + 1) 0 = sa1 from hsa1, show l.getD (12 + 2) 0 = sa2 from hsa2, show l.getD (12 + 3) 0 = sa3 from hsa3] at y14
    have hb := (hS14.trans (below_setRow (Below.refl B w14) hgvB (v4 x1 q5 (y1 == 1) (y2 == 1) y3 x8 x9 sa0 sa1 sa2 sa3 0 0 0 0 none 0 0 none 0 0)))
    refine tk_copy (i := 6) (.tmp 132) (.tmp 136) 25 25 (by kernel_rfl) rfl (by kernel_rfl) rfl Try.underlying25 (by kernel_rfl) (g := gv) (off := 7) (n := 4) rfl rfl (y14.below hS14 (Nat.le_refl _)) rfl (by decide) hV (show 7 + 4 ≤ 17 by decide) (new := v4 x1 q5 (y1 == 1) (y2 == 1) y3 x8 x9 sa0 sa1 sa2 sa3 0 0 0 0 none 0 0 none 0 0) rfl hb ?_
    simp only [lay]
    have hV : Has (w14.setRow gv (v4 x1 q5 (y1 == 1) (y2 == 1) y3 x8 x9 sa0 sa1 sa2 sa3 0 0 0 0 none 0 0 none 0 0)) gv (.cells (v4 x1 q5 (y1 == 1) (y2 == 1) y3 x8 x9 sa0 sa1 sa2 sa3 0 0 0 0 none 0 0 none 0 0) 27 (0, 0)) := hV.setRow_same
    have hr6 := hr6.setRow_other (cs' := v4 x1 q5 (y1 == 1) (y2 == 1) y3 x8 x9 sa0 sa1 sa2 sa3 0 0 0 0 none 0 0 none 0 0) (Ne.symm hgr)
    have hR14 := hR14.move (fun _ h => h.setRow_other (cs' := v4 x1 q5 (y1 == 1) (y2 == 1) y3 x8 x9 sa0 sa1 sa2 sa3 0 0 0 0 none 0 0 none 0 0) (Ne.symm hgv)) (below_setRow (Below.refl B w14) hgvB _)
    refine wpAnyH_done (by kernel_rfl) ?_ _
    clear hS hS14 hn14 hb y14
    generalize w14.setRow gv (v4 x1 q5 (y1 == 1) (y2 == 1) y3 x8 x9 sa0 sa1 sa2 sa3 0 0 0 0 none 0 0 none 0 0) = w15 at hR14 hr6 hV ⊢
    go_wp2_with fail
    have hR14 := hR14.move (fun _ h => h.drew) (below_drew _ _)
    have hr6 := hr6.drew
    have hV := hV.drew
    refine wp_region_held_drew (S := fun w' => Below B W0 w') (by kernel_rfl) hR14.bel (fun hS => ?_)
    generalize w15.drew = w16 at hR14 hr6 hV hS ⊢
    refine te 0 (.pointer (some ⟨gv, 11, none⟩)) hS rfl (by intro _ _; exact ex_field 11 3 (by exact rfl) Try.underlying27 (by exact rfl) rfl (by kernel_rfl) (by exact rfl)) ?_
    simp only [lay]
    refine te 1 (.slice (some ⟨gv, 11, none⟩) 4 4) hS rfl (by intro _ _; exact ex_arr (by exact rfl) Try.underlying24 (by kernel_rfl) (by exact rfl)) ?_
    simp only [lay]
    refine te 2 (.pointer (some ⟨g, 0, none⟩)) hS rfl (by intro _ _; exact rfl) ?_
    simp only [lay]
    refine te 3 (.pointer (some ⟨g, 0, none⟩)) hS rfl (by intro _ _; exact rfl) ?_
    simp only [lay]
    refine te 4 (.pointer (some ⟨g, 0, none⟩)) hS rfl (by intro _ _; exact ex_field 0 0 (by exact rfl) Try.underlying161 (by exact rfl) rfl (by kernel_rfl) (by exact rfl)) ?_
    simp only [lay]
    refine tk_one (by kernel_rfl) (op_callx (i := 5) (fun v w' => ∃ A' c', v = .slice A' 4 c' ∧ By B W0 A' 4 c' ((l.drop 16).take 4) ∧ RD B g t W0 w' l (16 + 4) ∧ But g w16 w') rfl (by kernel_rfl) (by exact ex_call (by exact rfl) Try.func113 (by kernel_rfl) (by kernel_rfl) (by simp only [List.map_toArray, List.map_cons, List.map_nil] <;> rfl)) ((take_any 4 hR14 (by omega)).mono fun e w' q => by obtain ⟨A', c', q1, q2, q3, q4⟩ := q; exact ⟨_, q1, ⟨A', c', rfl, q2, q3, q4⟩, q3.bel⟩) ?_)
    rintro v17 w17 ⟨A17, m17, rfl, y17, hR17, hn17⟩ hS17
    simp only [lay]
    have hr6 := hn17.has _ _ hg6 hr6
    have hV := hn17.has _ _ hgv hV
    rw [take4 l 16 (by omega)] at y17
    obtain ⟨da0, hda0⟩ : ∃ x, l.getD 16 0 = x := ⟨_, rfl⟩
    obtain ⟨da1, hda1⟩ : ∃ x, l.getD 17 0 = x := ⟨_, rfl⟩
    obtain ⟨da2, hda2⟩ : ∃ x, l.getD 18 0 = x := ⟨_, rfl⟩
    obtain ⟨da3, hda3⟩ : ∃ x, l.getD 19 0 = x := ⟨_, rfl⟩
    rw [show l.getD (16) 0 = da0 from hda0, show l.getD (16 + 1) 0 = da1 from hda1, show l.getD (16 + 2) 0 = da2 from hda2, show l.getD (16 + 3) 0 = da3 from hda3] at y17
    have hb := (hS17.trans (below_setRow (Below.refl B w17) hgvB (v4 x1 q5 (y1 == 1) (y2 == 1) y3 x8 x9 sa0 sa1 sa2 sa3 da0 da1 da2 da3 none 0 0 none 0 0)))
    refine tk_copy (i := 6) (.tmp 139) (.tmp 143) 25 25 (by kernel_rfl) rfl (by kernel_rfl) rfl Try.underlying25 (by kernel_rfl) (g := gv) (off := 11) (n := 4) rfl rfl (y17.below hS17 (Nat.le_refl _)) rfl (by decide) hV (show 11 + 4 ≤ 17 by decide) (new := v4 x1 q5 (y1 == 1) (y2 == 1) y3 x8 x9 sa0 sa1 sa2 sa3 da0 da1 da2 da3 none 0 0 none 0 0) rfl hb ?_
    simp only [lay]
    have hV : Has (w17.setRow gv (v4 x1 q5 (y1 == 1) (y2 == 1) y3 x8 x9 sa0 sa1 sa2 sa3 da0 da1 da2 da3 none 0 0 none 0 0)) gv (.cells (v4 x1 q5 (y1 == 1) (y2 == 1) y3 x8 x9 sa0 sa1 sa2 sa3 da0 da1 da2 da3 none 0 0 none 0 0) 27 (0, 0)) := hV.setRow_same
    have hr6 := hr6.setRow_other (cs' := v4 x1 q5 (y1 == 1) (y2 == 1) y3 x8 x9 sa0 sa1 sa2 sa3 da0 da1 da2 da3 none 0 0 none 0 0) (Ne.symm hgr)
    have hR17 := hR17.move (fun _ h => h.setRow_other (cs' := v4 x1 q5 (y1 == 1) (y2 == 1) y3 x8 x9 sa0 sa1 sa2 sa3 da0 da1 da2 da3 none 0 0 none 0 0) (Ne.symm hgv)) (below_setRow (Below.refl B w17) hgvB _)
    refine wpAnyH_done (by kernel_rfl) ?_ _
    clear hS hS17 hn17 hb y17
    generalize w17.setRow gv (v4 x1 q5 (y1 == 1) (y2 == 1) y3 x8 x9 sa0 sa1 sa2 sa3 da0 da1 da2 da3 none 0 0 none 0 0) = w18 at hR17 hr6 hV ⊢
    go_wp2_with fail
    obtain ⟨n, hn⟩ : ∃ n : Nat, k ≤ 20 + n ∧ 20 + n ≤ k := ⟨k - 20, by omega⟩
    refine (taken_z n (by omega) hR17 (by omega)).mono ?_
    rintro e w19 ⟨A19, m19, rfl, y19, hR19, hn19⟩
    have hr6 := hn19.has _ _ hg6 hr6
    have hV := hn19.has _ _ hgv hV
    have hR19 : RD B g t W0 w19 l k := by rw [show k = 20 + n by omega]; exact hR19
    have hgvL := hV.lt
    have hgrL := hr6.lt
    clear hR17 hn19
    have hB19 := Nat.le_trans hR19.hg (Nat.le_of_lt (by obtain ⟨_, _, h2, _⟩ := hR19.st; exact h2.lt))
    go_wp2_with fail
    obtain ⟨OL, hOL⟩ : ∃ L, (l.drop 20).take n = L := ⟨_, rfl⟩
    have y19 : By B W0 A19 n m19 OL := by rw [← hOL]; exact y19
    have hOlen := Lib.hid y19.len
    refine (clone_n A19 m19 n OL _ ((y19.below hR19.bel (Nat.le_refl _)).more hB19) (by rw [hOlen.out]; omega)).mono ?_
    rintro e w20 ⟨v20, rfl, o20, hb20⟩
    obtain ⟨A20, k20, rfl, _⟩ := own_shape o20.own
    have hr6 := hr6.below hb20 hr6.lt
    have hV := hV.below hb20 hV.lt
    have hR20 := hR19.move (fun _ h => h.below hb20 h.lt) (hb20.mono hB19)
    clear hR19 hb20 y19
    have c15 := hV.cell 15 (v := .slice none 0 0) rfl
    have f15 := hV.free 15
    obtain ⟨Ar, cr, hHr, hyr⟩ := hR20.st
    obtain ⟨BL, hBL⟩ : ∃ L, l.drop k = L := ⟨_, rfl⟩
    rw [hBL] at hyr
    have hbs := below_setCell (Below.refl B w20) hgvB 15 (.slice A20 OL.length k20)
    have hr6 := hr6.setCell_other (Ne.symm hgr) 15 (.slice A20 OL.length k20)
    have hHr := hHr.setCell_other (Ne.symm hgv) 15 (.slice A20 OL.length k20)
    have hV : Has (w20.setCell ⟨gv, 15, none⟩ (.slice A20 OL.length k20)) gv (.cells (v4 x1 q5 (y1 == 1) (y2 == 1) y3 x8 x9 sa0 sa1 sa2 sa3 da0 da1 da2 da3 A20 OL.length k20 none 0 0) 27 (0, 0)) := hV.setCell 15 (.slice A20 OL.length k20)
    have hbel := hR20.bel.trans hbs
    have hgg := hR20.hg
    have cg := hHr.cell 0 rfl
    have hBlen := Lib.hid hyr.len
    have hgvS := hV.lt
    have hgrS := hr6.lt
    go_wp2_with fail
    have hBs : B ≤ (w20.setCell ⟨gv, 15, none⟩ (.slice A20 OL.length k20)).heap.size := Nat.le_trans hgg (Nat.le_of_lt hHr.lt)
    refine (clone_n Ar cr (l.length - k) BL _ ((hyr.below hbel (Nat.le_refl _)).more hBs) (by rw [hBlen.out]; omega)).mono ?_
    rintro e w22 ⟨v22, rfl, o22, hb22⟩
    obtain ⟨A22, k22, rfl, _⟩ := own_shape o22.own
    have hr6 := hr6.below hb22 hr6.lt
    have hV := hV.below hb22 hV.lt
    have o20 := ((((o20.setCell hgvL 15 (.slice A20 OL.length k20)).below hb22).setCell hgvL 16 (.slice A22 BL.length k22)).setRow hgrL (cs := v4 x1 q5 (y1 == 1) (y2 == 1) y3 x8 x9 sa0 sa1 sa2 sa3 da0 da1 da2 da3 A20 OL.length k20 A22 BL.length k22)).more hB19
    have o22 := (((o22.setCell hgvS 16 (.slice A22 BL.length k22))).setRow hgrS (cs := v4 x1 q5 (y1 == 1) (y2 == 1) y3 x8 x9 sa0 sa1 sa2 sa3 da0 da1 da2 da3 A20 OL.length k20 A22 BL.length k22)).more hBs
    have hbel := hbel.trans (hb22.mono hBs)
    clear hHr cg hb22 hyr hR20 hbs c15 f15
    have c16 := hV.cell 16 (v := .slice none 0 0) rfl
    have f16 := hV.free 16
    have hbel := below_setCell hbel hgvB 16 (.slice A22 BL.length k22)
    have hr6 := hr6.setCell_other (Ne.symm hgr) 16 (.slice A22 BL.length k22)
    have hV : Has (w22.setCell ⟨gv, 16, none⟩ (.slice A22 BL.length k22)) gv (.cells (v4 x1 q5 (y1 == 1) (y2 == 1) y3 x8 x9 sa0 sa1 sa2 sa3 da0 da1 da2 da3 A20 OL.length k20 A22 BL.length k22) 27 (0, 0)) := hV.setCell 16 (.slice A22 BL.length k22)
    go_wp2_with (first | (refine wpList_load_row rfl 27 (.tmp 8) rfl gv rfl 27 (v4 x1 q5 (y1 == 1) (y2 == 1) y3 x8 x9 sa0 sa1 sa2 sa3 da0 da1 da2 da3 A20 OL.length k20 A22 BL.length k22) (0, 0) _ hV Try.underlying27 rfl v4_info ?_) | (refine wpList_store_row rfl 27 (.tmp 6) (.tmp 160) rfl gr _ rfl rfl 27 _ hr6 v4_info rfl (by simp [v4, Value.oneCell']) ?_))
    have hres : v4 x1 q5 (y1 == 1) (y2 == 1) y3 x8 x9 sa0 sa1 sa2 sa3 da0 da1 da2 da3 A20 OL.length k20 A22 BL.length k22 = (of4 l).cells ⟨A20, k20, A22, k22⟩ := by
      have r5 : q5 = l.getD 4 0 * 256 + l.getD 5 0 := hq5.out
      have u1 : (y1 == 1) = decide (l.getD 6 0 / 64 % 2 = 1) := by
        have e1 : y1 = l.getD 6 0 / 64 % 2 := by rw [← hy1H.out, e6H.out]; omega
        rw [e1]; rfl
      have u2 : (y2 == 1) = decide (l.getD 6 0 / 32 % 2 = 1) := by
        have e1 : y2 = l.getD 6 0 / 32 % 2 := by rw [← hy2H.out, e6H.out]; omega
        rw [e1]; rfl
      have u3 : y3 = l.getD 6 0 % 32 * 256 + l.getD 7 0 := by rw [← hy3H.out, e6H.out]; omega
      have uo : OL = (l.drop 20).take ((hl4 l).toNat - 20) := by rw [hHH.out, Int.toNat_natCast, ← hOL, show n = k - 20 by omega]
      have ub : BL = l.drop (hl4 l).toNat := by rw [hHH.out, Int.toNat_natCast, ← hBL]
      rw [u1, u2, u3, r5, uo, ub, ← hx1, ← hx8, ← hx9, ← hsa0, ← hsa1, ← hsa2, ← hsa3, ← hda0, ← hda1, ← hda2, ← hda3]
      rfl
    refine bodyPost_ret (res_cell Try.results106 rfl (hr6.setRow_same.load (P := Try.prog) 27 Try.underlying27 rfl v4_info)) rfl ⟨⟨A20, k20, A22, k22⟩, by rw [hres], ⟨of4_ok hl, ?_, ?_⟩, hbel.trans (below_setRow'.mono hgrB)⟩
    · have uo : OL = (of4 l).ol := by show OL = (l.drop 20).take ((hl4 l).toNat - 20); rw [hHH.out, Int.toNat_natCast, ← hOL, show n = k - 20 by omega]
      rw [← uo]
      exact o20
    · have ub : BL = (of4 l).bl := by show BL = l.drop (hl4 l).toNat; rw [hHH.out, Int.toNat_natCast, ← hBL]
      rw [← ub]
      exact o22
end Go.Proofs.Ytijnifbpbgckgaa
