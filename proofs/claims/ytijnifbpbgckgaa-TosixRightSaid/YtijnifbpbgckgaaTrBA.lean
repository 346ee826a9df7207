/-
  Lemmas and walks for the row of TosixRight (part 27 of 33).
-/
import Derived.Test.YtijnifbpbgckgaaTrAF
import Derived.Test.YtijnifbpbgckgaaTrAZ
set_option linter.unusedVariables false
set_option linter.unusedSimpArgs false
namespace Go.Proofs.Ytijnifbpbgckgaa
open Go.RowKit Go.Shelf
attribute [local irreducible] wpList Code.wp Oper.wp wpOp wpAnyH

theorem none17_iff {l : List Int} : none17 l = true ↔ (pe4 true l ≠ 0 ∨ ((of4 l).off = 0 ∧ (of4 l).proto = 1 ∧ 0 < (of4 l).bl.length ∧ (of4 l).bl.getD 0 0 ≠ 0 ∧ (of4 l).bl.getD 0 0 ≠ 8)) := by
 simp only [none17, Bool.or_eq_true, Bool.and_eq_true, decide_eq_true_eq]
theorem inside17_none {l s t : List Int} (h : none17 l = true) : inside17 l s t = ([], 176) := by rw [inside17, if_pos h]
theorem inside17_wrong {l s t : List Int} (h : none17 l = false) (h1 : wrong17 (of4 l).proto = true) : inside17 l s t = ([], 171) := by rw [inside17, if_neg (by rw [h]; decide), if_pos h1]
theorem inside17_ok {l s t : List Int} {D : D4} (hD : of4 l = D) (h : none17 l = false) (h1 : wrong17 D.proto = false) : inside17 l s t = (put17 (head17 D s t []).bytes 4 (min (said17 l + ((head17 D s t []).bytes.length - 40)) 65535) ++ told17 D s t (said17 l), 0) := by
 subst hD
 rw [inside17, if_neg (by rw [h]; decide), if_neg (by rw [h1]; decide)]
theorem head17_len {d : D4} (hd : d.ok) {s t : List Int} (hE : E6ok s t) : 40 ≤ (head17 d s t []).bytes.length ∧ (head17 d s t []).bytes.length ≤ 48 := by
 rw [D6.bytes_len _ (head17_ok hd hE), head17_ahead]
 have : (head17 d s t []).bl.length = 0 := rfl
 rw [this]
 split <;> omega

set_option maxRecDepth 100000 in
set_option maxHeartbeats 8000000 in
theorem inside17_any (A : Option Addr) (n c : Nat) (l s t : List Int) (hE : E6ok s t) (w : World) (y : By w.heap.size w A n c l) :
  Calls Try.prog 17 #[.slice A n c, .agg (ends6 s t)] w fun e w' => (∃ v, e = .returned (.tuple #[v, .int .i64 (inside17 l s t).2]) ∧ OwnB w' w.heap.size v (inside17 l s t).1) ∧ Below w.heap.size w w' := by
 obtain ⟨D, hD⟩ : ∃ D, got4 true l = D := ⟨_, rfl⟩
 obtain ⟨E, hEr⟩ : ∃ E, pe4 true l = E := ⟨_, rfl⟩
 have sL := hE.sL
 have tL := hE.tL
 go_enter_defers Try.func17, Try.ntmps17
 refine wp_sr ?_
 refine lz (ow_box 31 (.tmp 1) _ rfl rfl ?_)
 intro g1 W2 hg3 ge4 sz5 hb6
 have z7 := hb6.size
 simp only [lay]
 refine lv (.slice none 0 0) (by exact xa) ?_
 simp only [lay]
 refine lz (ow_alloc (.int .i64 0) #[.int .i64 0] rfl (by kernel_rfl) rfl ?_)
 intro g8 W9 hg10 ge11 sz12 hb13
 have z14 := hb13.size
 simp only [lay]
 refine wn ?_
 refine wp_sr ?_
 refine lz (ow_defer (k := 32) rfl rfl ?_)
 simp only [lay]
 refine wn ?_
 refine wp_sr ?_
 refine lv (.slice A n c) (by exact xm) ?_
 simp only [lay]
 have b15 := bt hb6 hb13
 have by16 := y.to b15
 refine lz (ow_call (fun v w' => (∃ p, v = .tuple #[.agg (D.cells p), .int .i64 (pat4 E), .int .i64 E] ∧ Own4 w' W9.heap.size D p) ∧ Below W9.heap.size W9 w') (by exact xk Try.func53) (by have := ppart_x by16; rw [hD, hEr] at this; exact this) ?_)
 rintro _ W17 ⟨⟨p19, rfl, ho20⟩, hb18⟩
 have z21 := hb18.size
 have hr22 := ho20.rd
 have hO23 := ho20.opt
 have hO24 := ho20.body
 simp only [lay]
 refine lv (.tuple #[.agg (D.cells p19), .int .i64 (pat4 E), .int .i64 E]) (by exact xm) ?_
 simp only [lay]
 refine lv (.agg (D.cells p19)) (by exact xe) ?_
 simp only [lay]
 refine lv (.int .i64 (pat4 E)) (by exact xe) ?_
 simp only [lay]
 refine lv (.int .i64 E) (by exact xe) ?_
 simp only [lay]
 refine lz (oa #[.int .u8 0, .int .u16 0, .bool false, .bool false, .int .i64 0, .int .u8 0, .int .u8 0, .int .u8 0, .int .u8 0, .int .u8 0, .int .u8 0, .int .u8 0, .int .u8 0, .int .u8 0, .int .u8 0, .slice none 0 0, .slice none 0 0] ?_)
 intro g25 W26 hg27 ge28 sz29 hb30
 have z31 := hb30.size
 simp only [lay]
 refine lz (ow_st 27 (.tmp 6) (.tmp 15) g25 (D.cells p19) _ _ rfl (by exact rfl) (by exact rfl) hg27 (by kernel_rfl) rfl (by kernel_rfl) ?_)
 intro W32 hg33 bs34 hb35
 have z36 := hb35.size
 simp only [lay]
 refine lv (.int .i64 (pat4 E)) (by exact xa) ?_
 simp only [lay]
 refine lv (.int .i64 E) (by exact xa) ?_
 simp only [lay]
 refine wn ?_
 refine wp_sr ?_
 refine lv (.int .i64 E) (by exact xm) ?_
 simp only [lay]
 by_cases q37 : E = 0
 case pos =>
  subst q37
  have hO : of4 l = D := by rw [← hD, got4, if_pos hEr]
  obtain ⟨hsd0, hsd1, hbl, hof, hol⟩ := said17_rng y.rng hEr
  rw [hO] at hbl hof hol
  obtain ⟨h20, -⟩ := pe4_zero hEr
  have yl := y.len
  have t2 := getD_byte y.rng 2
  have t3 := getD_byte y.rng 3
  obtain ⟨SD, hSD⟩ : ∃ SD, said17 l = SD := ⟨_, rfl⟩
  have hsd : l.getD 2 0 * 256 + l.getD 3 0 - 20 - (D.ol.length : Int) = SD := by rw [← hSD, said17, tot4, hO]
  rw [hSD] at hsd0 hsd1
  refine lv (.bool false) (by exact neq_int_eq (by exact rfl) (by exact rfl) (by exact rfl) (by first | assumption | omega)) ?_
  simp only [lay]
  refine lz (ow_same (.tuple #[]) (by exact xk Try.func35) (when17_no 176 W32) ?_)
  simp only [lay]
  refine wn ?_
  refine wp_sr ?_
  refine wpList_cut 28 (fun a W => ∃ (b65 : Bool) (x38 x39 x40 x41 x42 x43 x44 x45 x46 x47 x48 x49 x50 x51 x52 x53 x54 x55 x56 x57 x58 x59 x60 x61 x62 x63 x64 : Value), none17 l = b65 ∧ a = ⟨#[.slice A n c, .agg (ends6 s t), undef, .pointer (some ⟨g1, 0, none⟩), .slice none 0 0, .pointer (some ⟨g8, 0, none⟩), .pointer (some ⟨g25, 0, none⟩), .int .i64 (pat4 0), .int .i64 0, undef, undef, undef, .tuple #[.agg (D.cells p19), .int .i64 (pat4 0), .int .i64 0], .slice A n c, .tuple #[.agg (D.cells p19), .int .i64 (pat4 0), .int .i64 0], .agg (D.cells p19), .int .i64 (pat4 0), .int .i64 0, .int .i64 0, .bool false, .tuple #[], x38, x39, x40, x41, x42, x43, x44, x45, x46, x47, x48, x49, x50, x51, x52, x53, x54, x55, x56, x57, x58, x59, x60, x61, x62, x63, x64, .bool b65, undef, undef, undef, undef, undef, undef, undef, undef, undef, undef, undef, undef, undef, undef, undef, undef, undef, undef, undef, undef, undef, undef, undef, undef, undef, undef, undef, undef, undef, undef, undef, undef, undef, undef, undef, undef, undef, undef, undef, undef, undef, undef, undef, undef, undef, undef, undef, undef, undef, undef], [dfr17 g8]⟩ ∧ W32 = W) (fun hk66 => ?_) ?_
  case refine_1 =>
   refine lv (.pointer (some ⟨g25, 4, none⟩)) (by exact xf 4 0 Try.underlying27) ?_
   simp only [lay]
   refine lv (.int .i64 D.off) (by exact xc Try.underlying3 (hg33.cell 4 rfl)) ?_
   simp only [lay]
   by_cases q67 : D.off = 0
   case pos =>
    refine lv (.bool true) (by exact yq) ?_
    simp only [lay]
    refine lv (.bool true) (by exact xm) ?_
    simp only [lay]
    refine lv (.pointer (some ⟨g25, 6, none⟩)) (by exact xf 6 0 Try.underlying27) ?_
    simp only [lay]
    refine lv (.int .u8 D.proto) (by exact xc Try.underlying5 (hg33.cell 6 rfl)) ?_
    simp only [lay]
    by_cases q68 : D.proto = 1
    case pos =>
     refine lv (.bool true) (by exact yq) ?_
     simp only [lay]
     refine lv (.bool true) (by exact xp (b := true)) ?_
     simp only [lay]
     refine lv (.bool true) (by exact xm) ?_
     simp only [lay]
     refine lv (.pointer (some ⟨g25, 16, none⟩)) (by exact xf 16 0 Try.underlying27) ?_
     simp only [lay]
     refine lv (.slice p19.bA D.bl.length p19.bc) (by exact xc Try.underlying25 (hg33.cell 16 rfl)) ?_
     simp only [lay]
     refine lv (.int .i64 (D.bl.length : Int)) (by exact xz Try.underlying25) ?_
     simp only [lay]
     by_cases q69 : (D.bl.length : Int) > 0
     case pos =>
      refine lv (.bool true) (by exact ex_gtr (by exact rfl) (by exact rfl) (by exact rfl) (decide_eq_true (by first | assumption | omega | decide))) ?_
      simp only [lay]
      refine lv (.bool true) (by exact xp (b := true)) ?_
      simp only [lay]
      refine lv (.bool true) (by exact xm) ?_
      simp only [lay]
      refine lv (.pointer (some ⟨g25, 16, none⟩)) (by exact xf 16 0 Try.underlying27) ?_
      simp only [lay]
      refine lv (.slice p19.bA D.bl.length p19.bc) (by exact xc Try.underlying25 (hg33.cell 16 rfl)) ?_
      simp only [lay]
      have l70 : W17.heap.size ≤ g25 := Nat.le_of_eq ge28.symm
      have b71 := hb30.trans (hb35.mono l70)
      have own72 := hO24.to b71
      have y73 := (own_byS own72)
      obtain ⟨b74, o75, hA76⟩ := y73.form (k := 0) (by omega)
      refine lv (.pointer (some ⟨b74, o75 + 0, none⟩)) (by exact xi 0 Try.underlying25 hA76) ?_
      simp only [lay]
      refine lv (.int .u8 (D.bl.getD 0 0)) (by exact xc Try.underlying5 (y73.atE (k := 0) hA76 (by omega))) ?_
      simp only [lay]
      by_cases q77 : D.bl.getD 0 0 = 0
      case pos =>
       refine lv (.bool false) (by exact neq_int_eq (by exact rfl) (by exact rfl) (by exact rfl) (by first | assumption | omega)) ?_
       simp only [lay]
       refine lv (.bool false) (by exact xp (b := true)) ?_
       simp only [lay]
       refine lv (.bool false) (by exact xm) ?_
       simp only [lay]
       refine lzn ?_
       simp only [lay]
       refine lzn ?_
       simp only [lay]
       refine lzn ?_
       simp only [lay]
       refine lzn ?_
       simp only [lay]
       refine lzn ?_
       simp only [lay]
       refine lv (.bool false) (by exact xp (b := false)) ?_
       simp only [lay]
       exact hk66 _ _ ⟨false, _, _, _, _, _, _, _, _, _, _, _, _, _, _, _, _, _, _, _, _, _, _, _, _, _, _, _, (by cases hn : none17 l with | false => rfl | true => exfalso; have hx := none17_iff.1 hn; rw [hO, hEr] at hx; omega), rfl, rfl⟩
      refine lv (.bool true) (by exact neq_int_ne (by exact rfl) (by exact rfl) (by exact rfl) (by first | assumption | omega)) ?_
      simp only [lay]
      refine lv (.bool true) (by exact xp (b := true)) ?_
      simp only [lay]
      refine lv (.bool true) (by exact xm) ?_
      simp only [lay]
      refine lv (.pointer (some ⟨g25, 16, none⟩)) (by exact xf 16 0 Try.underlying27) ?_
      simp only [lay]
      refine lv (.slice p19.bA D.bl.length p19.bc) (by exact xc Try.underlying25 (hg33.cell 16 rfl)) ?_
      simp only [lay]
      have y78 := (own_byS own72)
      obtain ⟨b79, o80, hA81⟩ := y78.form (k := 0) (by omega)
      refine lv (.pointer (some ⟨b79, o80 + 0, none⟩)) (by exact xi 0 Try.underlying25 hA81) ?_
      simp only [lay]
      refine lv (.int .u8 (D.bl.getD 0 0)) (by exact xc Try.underlying5 (y78.atE (k := 0) hA81 (by omega))) ?_
      simp only [lay]
      by_cases q82 : D.bl.getD 0 0 = 8
      case pos =>
       refine lv (.bool false) (by exact neq_int_eq (by exact rfl) (by exact rfl) (by exact rfl) (by first | assumption | omega)) ?_
       simp only [lay]
       refine lv (.bool false) (by exact xp (b := true)) ?_
       simp only [lay]
       exact hk66 _ _ ⟨false, _, _, _, _, _, _, _, _, _, _, _, _, _, _, _, _, _, _, _, _, _, _, _, _, _, _, _, (by cases hn : none17 l with | false => rfl | true => exfalso; have hx := none17_iff.1 hn; rw [hO, hEr] at hx; omega), rfl, rfl⟩
      refine lv (.bool true) (by exact neq_int_ne (by exact rfl) (by exact rfl) (by exact rfl) (by first | assumption | omega)) ?_
      simp only [lay]
      refine lv (.bool true) (by exact xp (b := true)) ?_
      simp only [lay]
      exact hk66 _ _ ⟨true, _, _, _, _, _, _, _, _, _, _, _, _, _, _, _, _, _, _, _, _, _, _, _, _, _, _, _, none17_iff.2 (by rw [hO, hEr]; omega), rfl, rfl⟩
     refine lv (.bool false) (by exact ex_gtr (by exact rfl) (by exact rfl) (by exact rfl) (decide_eq_false (by first | assumption | omega | decide))) ?_
     simp only [lay]
     refine lv (.bool false) (by exact xp (b := true)) ?_
     simp only [lay]
     refine lv (.bool false) (by exact xm) ?_
     simp only [lay]
     refine lzn ?_
     simp only [lay]
     refine lzn ?_
     simp only [lay]
     refine lzn ?_
     simp only [lay]
     refine lzn ?_
     simp only [lay]
     refine lzn ?_
     simp only [lay]
     refine lv (.bool false) (by exact xp (b := false)) ?_
     simp only [lay]
     refine lv (.bool false) (by exact xm) ?_
     simp only [lay]
     refine lzn ?_
     simp only [lay]
     refine lzn ?_
     simp only [lay]
     refine lzn ?_
     simp only [lay]
     refine lzn ?_
     simp only [lay]
     refine lzn ?_
     simp only [lay]
     refine lv (.bool false) (by exact xp (b := false)) ?_
     simp only [lay]
     exact hk66 _ _ ⟨false, _, _, _, _, _, _, _, _, _, _, _, _, _, _, _, _, _, _, _, _, _, _, _, _, _, _, _, (by cases hn : none17 l with | false => rfl | true => exfalso; have hx := none17_iff.1 hn; rw [hO, hEr] at hx; omega), rfl, rfl⟩
    refine lv (.bool false) (by exact yqn) ?_
    simp only [lay]
    refine lv (.bool false) (by exact xp (b := true)) ?_
    simp only [lay]
    refine lv (.bool false) (by exact xm) ?_
    simp only [lay]
    refine lzn ?_
    simp only [lay]
    refine lzn ?_
    simp only [lay]
    refine lzn ?_
    simp only [lay]
    refine lzn ?_
    simp only [lay]
    refine lv (.bool false) (by exact xp (b := false)) ?_
    simp only [lay]
    refine lv (.bool false) (by exact xm) ?_
    simp only [lay]
    refine lzn ?_
    simp only [lay]
    refine lzn ?_
    simp only [lay]
    refine lzn ?_
    simp only [lay]
    refine lzn ?_
    simp only [lay]
    refine lzn ?_
    simp only [lay]
    refine lv (.bool false) (by exact xp (b := false)) ?_
    simp only [lay]
    refine lv (.bool false) (by exact xm) ?_
    simp only [lay]
    refine lzn ?_
    simp only [lay]
    refine lzn ?_
    simp only [lay]
    refine lzn ?_
    simp only [lay]
    refine lzn ?_
    simp only [lay]
    refine lzn ?_
    simp only [lay]
    refine lv (.bool false) (by exact xp (b := false)) ?_
    simp only [lay]
    exact hk66 _ _ ⟨false, _, _, _, _, _, _, _, _, _, _, _, _, _, _, _, _, _, _, _, _, _, _, _, _, _, _, _, (by cases hn : none17 l with | false => rfl | true => exfalso; have hx := none17_iff.1 hn; rw [hO, hEr] at hx; omega), rfl, rfl⟩
   refine lv (.bool false) (by exact yqn) ?_
   simp only [lay]
   refine lv (.bool false) (by exact xm) ?_
   simp only [lay]
   refine lzn ?_
   simp only [lay]
   refine lzn ?_
   simp only [lay]
   refine lzn ?_
   simp only [lay]
   refine lv (.bool false) (by exact xp (b := false)) ?_
   simp only [lay]
   refine lv (.bool false) (by exact xm) ?_
   simp only [lay]
   refine lzn ?_
   simp only [lay]
   refine lzn ?_
   simp only [lay]
   refine lzn ?_
   simp only [lay]
   refine lzn ?_
   simp only [lay]
   refine lv (.bool false) (by exact xp (b := false)) ?_
   simp only [lay]
   refine lv (.bool false) (by exact xm) ?_
   simp only [lay]
   refine lzn ?_
   simp only [lay]
   refine lzn ?_
   simp only [lay]
   refine lzn ?_
   simp only [lay]
   refine lzn ?_
   simp only [lay]
   refine lzn ?_
   simp only [lay]
   refine lv (.bool false) (by exact xp (b := false)) ?_
   simp only [lay]
   refine lv (.bool false) (by exact xm) ?_
   simp only [lay]
   refine lzn ?_
   simp only [lay]
   refine lzn ?_
   simp only [lay]
   refine lzn ?_
   simp only [lay]
   refine lzn ?_
   simp only [lay]
   refine lzn ?_
   simp only [lay]
   refine lv (.bool false) (by exact xp (b := false)) ?_
   simp only [lay]
   exact hk66 _ _ ⟨false, _, _, _, _, _, _, _, _, _, _, _, _, _, _, _, _, _, _, _, _, _, _, _, _, _, _, _, (by cases hn : none17 l with | false => rfl | true => exfalso; have hx := none17_iff.1 hn; rw [hO, hEr] at hx; omega), rfl, rfl⟩
  rintro _ _ ⟨b65, x38, x39, x40, x41, x42, x43, x44, x45, x46, x47, x48, x49, x50, x51, x52, x53, x54, x55, x56, x57, x58, x59, x60, x61, x62, x63, x64, hnn, rfl, rfl⟩
  simp only [List.drop_succ_cons, List.drop_zero]
  cases b65
  case false =>
   refine lz (ow_same (.tuple #[]) (by exact xk Try.func35) (when17_no 176 W32) ?_)
   simp only [lay]
   refine wn ?_
   refine wp_sr ?_
   refine lv (.pointer (some ⟨g25, 6, none⟩)) (by exact xf 6 0 Try.underlying27) ?_
   simp only [lay]
   refine lv (.int .u8 D.proto) (by exact xc Try.underlying5 (hg33.cell 6 rfl)) ?_
   simp only [lay]
   refine lz (ow_same (.bool (wrong17 D.proto)) (by exact xk Try.func37) (wrong17_any D.proto W32) ?_)
   simp only [lay]
   by_cases q83 : wrong17 D.proto = true
   case pos =>
    rw [q83]
    refine lz (ow_panic [{ v := .iface 111 (.agg #[.int .i64 171]), recovered := false }] (fun w' => W32 = w') (by exact xk Try.func35) (when17_yes 171 W32) ?_)
    rintro _ rfl
    have e := inside17_wrong (s := s) (t := t) hnn (by rw [hO]; assumption)
    have b84 := bt hb18 hb30
    have l85 := lq hb18 ge28
    have b86 := b84.trans (hb35.mono l85)
    have has87 := hg10.to b86
    have b88 := bt b15 hb18
    have b89 := bt b88 hb30
    have l90 := lq b88 ge28
    have b91 := b89.trans (hb35.mono l90)
    have l92 := lq hb6 ge11
    refine leave17_fault has87 ?_
    intro W93 hE94 hb95 hk96
    exact ⟨_, res_tc Try.results17 rfl (load_errno hE94) rfl, ⟨_, by rw [e], by rw [e]; exact OwnB.nil _ _⟩, b91.trans (hb95.mono l92)⟩
   replace q83 := eq_false_of_ne_true q83
   rw [q83]
   have hck : (head17 D s t []).check = 0 := by rw [head17_check hof q83, if_neg (by simp only [List.length_nil]; split <;> omega)]
   have hwr : (head17 D s t []).write = (head17 D s t []).bytes := by rw [D6.write, if_pos hck]
   have hlen := head17_len ho20.ok hE
   refine lz (ow_same (.tuple #[]) (by exact xk Try.func35) (when17_no 171 W32) ?_)
   simp only [lay]
   refine wn ?_
   refine wp_seq ?_
   refine rg_drawn W32.heap.size (by kernel_rfl) (Nat.le_refl _) ?_
   intro W97 hb98 hs99 hS100
   have z101 := hb98.size
   refine tk (i := 0) (.slice A n c) hS100 rfl (by kernel_rfl) (by kernel_rfl) (by kernel_rfl) (by exact hqD45 Try.results17 _ (by decide) _) (by kernel_rfl) (by intro _ _; exact xm) ?_
   simp only [lay]
   obtain ⟨b102, o103, hA104⟩ := y.form (k := 2) (by omega)
   refine tk (i := 1) (.pointer (some ⟨b102, o103 + 2, none⟩)) hS100 rfl (by kernel_rfl) (by kernel_rfl) (by kernel_rfl) (by exact hqD45 Try.results17 _ (by decide) _) (by kernel_rfl) (by intro _ _; exact xi 2 Try.underlying25 hA104) ?_
   simp only [lay]
   have b105 := bt b15 hb18
   have b106 := bt b105 hb30
   have l107 := lq b105 ge28
   have b108 := b106.trans (hb35.mono l107)
   have by109 := y.to b108
   refine tk (i := 2) (.int .u8 (l.getD 2 0)) hS100 rfl (by kernel_rfl) (by kernel_rfl) (by kernel_rfl) (by exact hqD45 Try.results17 _ (by decide) _) (by kernel_rfl) (by intro _ h; exact xc Try.underlying5 ((by109.to h).atE (k := 2) hA104 (by omega))) ?_
   simp only [lay]
   refine tk (i := 3) (.int .i64 (l.getD 2 0)) hS100 rfl (by kernel_rfl) (by kernel_rfl) (by kernel_rfl) (by exact hqD45 Try.results17 _ (by decide) _) (by kernel_rfl) (by intro _ _; exact xv (conv_i64 5 3 .u8 (l.getD 2 0) (by kernel_rfl) Try.underlying3 (in_rng6 (getD_byte y.rng 2)) _)) ?_
   simp only [lay]
   refine tk (i := 4) (.int .i64 ((l.getD 2 0) * 256)) hS100 rfl (by kernel_rfl) (by kernel_rfl) (by kernel_rfl) (by exact hqD45 Try.results17 _ (by decide) _) (by kernel_rfl) (by intro _ _; exact xb (w_shl64 _ _ (getD_byte y.rng 2) _)) ?_
   simp only [lay]
   refine tk (i := 5) (.slice A n c) hS100 rfl (by kernel_rfl) (by kernel_rfl) (by kernel_rfl) (by exact hqD45 Try.results17 _ (by decide) _) (by kernel_rfl) (by intro _ _; exact xm) ?_
   simp only [lay]
   refine tk (i := 6) (.pointer (some ⟨b102, o103 + 3, none⟩)) hS100 rfl (by kernel_rfl) (by kernel_rfl) (by kernel_rfl) (by exact hqD45 Try.results17 _ (by decide) _) (by kernel_rfl) (by intro _ _; exact xi 3 Try.underlying25 hA104) ?_
   simp only [lay]
   refine tk (i := 7) (.int .u8 (l.getD 3 0)) hS100 rfl (by kernel_rfl) (by kernel_rfl) (by kernel_rfl) (by exact hqD45 Try.results17 _ (by decide) _) (by kernel_rfl) (by intro _ h; exact xc Try.underlying5 ((by109.to h).atE (k := 3) hA104 (by omega))) ?_
   simp only [lay]
   refine tk (i := 8) (.int .i64 (l.getD 3 0)) hS100 rfl (by kernel_rfl) (by kernel_rfl) (by kernel_rfl) (by exact hqD45 Try.results17 _ (by decide) _) (by kernel_rfl) (by intro _ _; exact xv (conv_i64 5 3 .u8 (l.getD 3 0) (by kernel_rfl) Try.underlying3 (in_rng6 (getD_byte y.rng 3)) _)) ?_
   simp only [lay]
   refine tk (i := 9) (.int .i64 ((l.getD 2 0) * 256 + l.getD 3 0)) hS100 rfl (by kernel_rfl) (by kernel_rfl) (by kernel_rfl) (by exact hqD45 Try.results17 _ (by decide) _) (by kernel_rfl) (by intro _ _; exact xb (w_or64 _ _ _ (getD_byte y.rng 2) (getD_byte y.rng 3) _)) ?_
   simp only [lay]
   refine tk (i := 10) (.int .i64 ((l.getD 2 0) * 256 + l.getD 3 0 - 20)) hS100 rfl (by kernel_rfl) (by kernel_rfl) (by kernel_rfl) (by exact hqD45 Try.results17 _ (by decide) _) (by kernel_rfl) (by intro _ _; exact xb (b_sub _ ((l.getD 2 0) * 256 + l.getD 3 0 - 20) rfl (by omega) _)) ?_
   simp only [lay]
   refine tk (i := 11) (.pointer (some ⟨g25, 15, none⟩)) hS100 rfl (by kernel_rfl) (by kernel_rfl) (by kernel_rfl) (by exact hqD45 Try.results17 _ (by decide) _) (by kernel_rfl) (by intro _ _; exact xf 15 0 Try.underlying27) ?_
   simp only [lay]
   refine tk (i := 12) (.slice p19.oA D.ol.length p19.oc) hS100 rfl (by kernel_rfl) (by kernel_rfl) (by kernel_rfl) (by exact hqD45 Try.results17 _ (by decide) _) (by kernel_rfl) (by intro _ h; exact xc Try.underlying25 ((hg33.to h).cell 15 rfl)) ?_
   simp only [lay]
   refine tk (i := 13) (.int .i64 (D.ol.length : Int)) hS100 rfl (by kernel_rfl) (by kernel_rfl) (by kernel_rfl) (by exact hqD45 Try.results17 _ (by decide) _) (by kernel_rfl) (by intro _ _; exact xz Try.underlying25) ?_
   simp only [lay]
   refine tk (i := 14) (.int .i64 SD) hS100 rfl (by kernel_rfl) (by kernel_rfl) (by kernel_rfl) (by exact hqD45 Try.results17 _ (by decide) _) (by kernel_rfl) (by intro _ _; exact xb (b_sub _ SD hsd (by omega) _)) ?_
   simp only [lay]
   refine tk (i := 15) (.int .i64 SD) hS100 rfl (by kernel_rfl) (by kernel_rfl) (by kernel_rfl) (by exact hqD45 Try.results17 _ (by decide) _) (by kernel_rfl) (by intro _ _; exact xa) ?_
   simp only [lay]
   refine wpAnyH_done (by kernel_rfl) ?_ _
   change Code.wp _ _ _ _ _
   refine wp_sr ?_
   have has110 := hg33.to hb98
   refine lv (.agg (D.cells p19)) (by exact xo (has110.load (P := Try.prog) 27 Try.underlying27 rfl (by kernel_rfl))) ?_
   simp only [lay]
   have b111 := bt hb13 hb18
   have b112 := bt b111 hb30
   have l113 := lq b111 ge28
   have b114 := b112.trans (hb35.mono l113)
   have b115 := bt b114 hb98
   have has116 := hg3.to b115
   refine lv (.agg (ends6 s t)) (by exact xo (has116.load (P := Try.prog) 31 Try.underlying31 rfl (by kernel_rfl))) ?_
   simp only [lay]
   refine lz (ow_call (fun v w' => v = .agg ((head17 D s t []).cells pZ6) ∧ Below W97.heap.size W97 w') (by exact xk Try.func38) ((header_any D ho20.ok _ s t W97).mono fun e w' h => ⟨_, h.1, rfl, h.2⟩) ?_)
   rintro _ W117 ⟨rfl, hb118⟩
   have z119 := hb118.size
   simp only [lay]
   refine lz (ow_call (fun v w' => (∃ u, v = .tuple #[u, .int .i64 0] ∧ OwnB w' W117.heap.size u (head17 D s t []).bytes) ∧ Below W117.heap.size W117 w') (by exact xk Try.func54) (by have := write6_x (w := W117) (head17_rd0 ho20.ok hE); rw [hck, hwr] at this; exact this) ?_)
   rintro _ W120 ⟨⟨u122, rfl, hO123⟩, hb121⟩
   have z124 := hb121.size
   obtain ⟨A125, c126, rfl, y127⟩ := hO123.by_
   simp only [lay]
   refine lv (.tuple #[.slice A125 (((head17 D s t []).bytes).length) c126, .int .i64 0]) (by exact xm) ?_
   simp only [lay]
   refine lv (.slice A125 (((head17 D s t []).bytes).length) c126) (by exact xe) ?_
   simp only [lay]
   refine lv (.int .i64 0) (by exact xe) ?_
   simp only [lay]
   refine lv (.slice A125 (((head17 D s t []).bytes).length) c126) (by exact xa) ?_
   simp only [lay]
   refine lv (.int .i64 0) (by exact xa) ?_
   simp only [lay]
   refine wn ?_
   refine wp_sr ?_
   refine lv (.int .i64 0) (by exact xm) ?_
   simp only [lay]
   refine lz (ow_same (.tuple #[]) (by exact xk Try.func33) (must17_no W120) ?_)
   simp only [lay]
   refine wn ?_
   refine wp_sr ?_
   refine lv (.int .i64 SD) (by exact xm) ?_
   simp only [lay]
   refine lv (.slice A125 (((head17 D s t []).bytes).length) c126) (by exact xm) ?_
   simp only [lay]
   refine lv (.int .i64 (((head17 D s t []).bytes).length : Int)) (by exact xz Try.underlying25) ?_
   simp only [lay]
   refine lv (.int .i64 (SD + (((head17 D s t []).bytes).length : Int))) (by exact xb (b_add _ (SD + (((head17 D s t []).bytes).length : Int)) rfl (by omega) _)) ?_
   simp only [lay]
   refine lv (.int .i64 (SD + (((head17 D s t []).bytes).length : Int) - 40)) (by exact xb (b_sub _ (SD + (((head17 D s t []).bytes).length : Int) - 40) rfl (by omega) _)) ?_
   simp only [lay]
   obtain ⟨NN, hNN⟩ : ∃ NN, min (SD + ((head17 D s t []).bytes.length - 40)) 65535 = NN := ⟨_, rfl⟩
   have hN : NN = SD + (((head17 D s t []).bytes).length : Int) - 40 ∨ NN = 65535 ∧ 65535 < SD + (((head17 D s t []).bytes).length : Int) - 40 := by omega
   have hN2 : 0 ≤ NN ∧ NN ≤ 65535 := by omega
   refine lv (.int .i64 NN) (by exact ex_min (r := NN) (by exact rfl) (by exact rfl) (by exact rfl) (by split <;> omega)) ?_
   simp only [lay]
   refine lv (.int .i64 NN) (by exact xa) ?_
   simp only [lay]
   refine wn ?_
   refine wp_sr ?_
   refine lv (.slice A125 (((head17 D s t []).bytes).length) c126) (by exact xm) ?_
   simp only [lay]
   refine lv (.slice A125 (((head17 D s t []).bytes).length) c126) (by exact xm) ?_
   simp only [lay]
   refine lv (.int .i64 NN) (by exact xm) ?_
   simp only [lay]
   refine lv (.int .i64 (NN / 256)) (by exact xb (shr8_i64 _ _ _)) ?_
   simp only [lay]
   refine lv (.int .u8 (NN / 256)) (by exact xv (conv_u8' 3 5 .i64 (NN / 256) (by kernel_rfl) Try.underlying5 (by omega) _)) ?_
   simp only [lay]
   refine lv (.int .i64 NN) (by exact xm) ?_
   simp only [lay]
   refine lv (.int .u8 (NN % 256)) (by exact xv (conv_u8 3 5 .i64 NN (by kernel_rfl) Try.underlying5 _)) ?_
   simp only [lay]
   obtain ⟨g128, rfl, h129, h130⟩ := own_form hO123 (by first | omega | simp [D4.src])
   refine lv (.pointer (some ⟨g128, 0 + 4, none⟩)) (by exact ex_index (k := 4) (by exact rfl) Try.underlying25 (by kernel_rfl) (by exact rfl) (by exact rfl) (show 4 < ((head17 D s t []).bytes).length by omega)) ?_
   simp only [lay]
   refine lz (ow_stB 5 (.tmp 91) (.tmp 88) g128 _ W117.heap.size (((head17 D s t []).bytes).length) c126 (NN / 256) _ rfl (by exact rfl) (by exact rfl) (by kernel_rfl) hO123 (by omega) (own_len hO123) (by omega) ?_)
   intro W131 hO132 bs133 hb134
   have z135 := hb134.size
   simp only [lay]
   refine lv (.pointer (some ⟨g128, 0 + 5, none⟩)) (by exact ex_index (k := 5) (by exact rfl) Try.underlying25 (by kernel_rfl) (by exact rfl) (by exact rfl) (show 5 < ((head17 D s t []).bytes).length by omega)) ?_
   simp only [lay]
   refine lz (ow_stB 5 (.tmp 92) (.tmp 90) g128 _ W117.heap.size (((head17 D s t []).bytes).length) c126 (NN % 256) _ rfl (by exact rfl) (by exact rfl) (by kernel_rfl) hO132 (by omega) (own_len hO132) (by omega) ?_)
   intro W136 hO137 bs138 hb139
   have z140 := hb139.size
   simp only [lay]
   refine wn ?_
   refine wp_sr ?_
   refine lv (.slice (some ⟨g128, 0, none⟩) (((head17 D s t []).bytes).length) c126) (by exact xm) ?_
   simp only [lay]
   have b141 := bt hb98 hb118
   have b142 := bt b141 hb121
   have l143 := Nat.le_trans b141.size h129
   have b144 := b142.trans (hb134.mono l143)
   have b145 := b144.trans (hb139.mono l143)
   have has146 := hg33.to b145
   refine lv (.agg (D.cells p19)) (by exact xo (has146.load (P := Try.prog) 27 Try.underlying27 rfl (by kernel_rfl))) ?_
   simp only [lay]
   have b147 := bt b115 hb118
   have b148 := bt b147 hb121
   have l149 := Nat.le_trans b147.size h129
   have b150 := b148.trans (hb134.mono l149)
   have b151 := b150.trans (hb139.mono l149)
   have has152 := hg3.to b151
   refine lv (.agg (ends6 s t)) (by exact xo (has152.load (P := Try.prog) 31 Try.underlying31 rfl (by kernel_rfl))) ?_
   simp only [lay]
   refine lv (.int .i64 SD) (by exact xm) ?_
   simp only [lay]
   have l153 : W17.heap.size ≤ g25 := Nat.le_of_eq ge28.symm
   have b154 := hb30.trans (hb35.mono l153)
   have b155 := bt b154 hb98
   have b156 := bt b155 hb118
   have b157 := bt b156 hb121
   have l158 := Nat.le_trans b156.size h129
   have b159 := b157.trans (hb134.mono l158)
   have b160 := b159.trans (hb139.mono l158)
   have rd161 := hr22.to b160
   refine lz (ow_call (fun v w' => OwnB w' W136.heap.size v (told17 D s t SD) ∧ Below W136.heap.size W136 w') (by exact xk Try.func55) (told17_any _ _ _ _ hE SD (by omega) W136 rd161 hbl) ?_)
   rintro v164 W162 ⟨hO165, hb163⟩
   have z166 := hb163.size
   obtain ⟨A167, c168, rfl, y169⟩ := hO165.by_
   simp only [lay]
   have own175 := hO137.to hb163
   have b176 := hb121.trans (hb134.mono h129)
   have b177 := b176.trans (hb139.mono h129)
   have b178 := bt b177 hb163
   refine lz (ow_app (.tmp 93) (.tmp 97) 25 rfl Try.underlying25 info8 _ _ ((((head17 D s t []).bytes).set (0 + 4) (NN / 256)).set (0 + 5) (NN % 256)) rfl own175 _ _ _ _ (told17 D s t SD) rfl (own_byS hO165) (by simp only [List.length_set]; have := told17_len D s t SD; omega) b178.size ?_)
   intro v174 W170 hO171 hb172 hgr173
   have z179 := hb172.size
   obtain ⟨A180, c181, rfl, y182⟩ := hO171.by_
   simp only [lay]
   refine lv (.slice A180 (((((head17 D s t []).bytes).set (0 + 4) (NN / 256)).set (0 + 5) (NN % 256) ++ (told17 D s t SD)).length) c181) (by exact xa) ?_
   simp only [lay]
   have b187 := bt hb18 hb30
   have l188 := lq hb18 ge28
   have b189 := b187.trans (hb35.mono l188)
   have b190 := bt b189 hb98
   have b191 := bt b190 hb118
   have b192 := bt b191 hb121
   have l193 := Nat.le_trans b191.size h129
   have b194 := b192.trans (hb134.mono l193)
   have b195 := b194.trans (hb139.mono l193)
   have b196 := bt b195 hb163
   have l197 := Nat.le_trans b191.size (Nat.le_refl _)
   have b198 := b196.trans (hb172.mono l197)
   have has199 := hg10.to b198
   refine lz (ow_st1 37 (.tmp 5) (.const (.int .i64 0)) g8 0 (.int .i64 0) _ #[.int .i64 0] _ rfl (by exact rfl) (by exact rfl) rfl (by kernel_rfl) has199 rfl rfl (by kernel_rfl) ?_)
   intro W183 hg184 bs185 hb186
   have b200 := bt b160 hb163
   have l201 := Nat.le_trans b156.size (Nat.le_refl _)
   have b202 := b200.trans (hb172.mono l201)
   have own203 := hO23.to b202
   have own204 := hO24.to b202
   have b205 := bt b145 hb163
   have l206 := Nat.le_trans b141.size (Nat.le_refl _)
   have b207 := b205.trans (hb172.mono l206)
   have has208 := hg33.to b207
   have z209 := hb186.size
   have own210 := own203.but6 bs185 (by omega)
   have own211 := own204.but6 bs185 (by omega)
   have has212 := has208.but6 bs185 (by omega)
   have own213 := hO171.but6 bs185 (by omega)
   simp only [lay]
   refine wn ?_
   refine wp_ret ?_
   try simp only [Exit.then]
   have e : inside17 l s t = ((((head17 D s t []).bytes).set (0 + 4) (NN / 256)).set (0 + 5) (NN % 256) ++ (told17 D s t SD), 0) := by
    rw [inside17_ok hO hnn (by assumption), hSD, hNN]
    rfl
   have b214 := bt b108 hb98
   have b215 := bt b214 hb118
   have b216 := bt b215 hb121
   have l217 := Nat.le_trans b215.size h129
   have b218 := b216.trans (hb134.mono l217)
   have b219 := b218.trans (hb139.mono l217)
   have b220 := bt b219 hb163
   have l221 := Nat.le_trans b215.size (Nat.le_refl _)
   have b222 := b220.trans (hb172.mono l221)
   have l223 := lq hb6 ge11
   have b224 := b222.trans (hb186.mono l223)
   exact leave17_ok (res_tc Try.results17 rfl (load_errno hg184) rfl) ⟨⟨_, by rw [e], by rw [e]; exact (own213.more b215.size)⟩, b224⟩
  refine lz (ow_panic [{ v := .iface 111 (.agg #[.int .i64 176]), recovered := false }] (fun w' => W32 = w') (by exact xk Try.func35) (when17_yes 176 W32) ?_)
  rintro _ rfl
  have e := inside17_none (s := s) (t := t) (l := l) hnn
  have b225 := bt hb18 hb30
  have l226 := lq hb18 ge28
  have b227 := b225.trans (hb35.mono l226)
  have has228 := hg10.to b227
  have b229 := bt b15 hb18
  have b230 := bt b229 hb30
  have l231 := lq b229 ge28
  have b232 := b230.trans (hb35.mono l231)
  have l233 := lq hb6 ge11
  refine leave17_fault has228 ?_
  intro W234 hE235 hb236 hk237
  exact ⟨_, res_tc Try.results17 rfl (load_errno hE235) rfl, ⟨_, by rw [e], by rw [e]; exact OwnB.nil _ _⟩, b232.trans (hb236.mono l233)⟩
 refine lv (.bool true) (by exact neq_int_ne (by exact rfl) (by exact rfl) (by exact rfl) (by first | assumption | omega)) ?_
 simp only [lay]
 refine lz (ow_panic [{ v := .iface 111 (.agg #[.int .i64 176]), recovered := false }] (fun w' => W32 = w') (by exact xk Try.func35) (when17_yes 176 W32) ?_)
 rintro _ rfl
 have e := inside17_none (s := s) (t := t) (l := l) (none17_iff.2 (by rw [hEr]; omega))
 have b238 := bt hb18 hb30
 have l239 := lq hb18 ge28
 have b240 := b238.trans (hb35.mono l239)
 have has241 := hg10.to b240
 have b242 := bt b15 hb18
 have b243 := bt b242 hb30
 have l244 := lq b242 ge28
 have b245 := b243.trans (hb35.mono l244)
 have l246 := lq hb6 ge11
 refine leave17_fault has241 ?_
 intro W247 hE248 hb249 hk250
 exact ⟨_, res_tc Try.results17 rfl (load_errno hE248) rfl, ⟨_, by rw [e], by rw [e]; exact OwnB.nil _ _⟩, b245.trans (hb249.mono l246)⟩
end Go.Proofs.Ytijnifbpbgckgaa
