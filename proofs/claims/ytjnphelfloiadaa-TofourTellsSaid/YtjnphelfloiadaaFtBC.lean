/-
  Lemmas and walks for the row of TofourTells (part 29 of 37).
-/
import Derived.Test.YtjnphelfloiadaaFtAI
import Derived.Test.YtjnphelfloiadaaFtAW
import Derived.Test.YtjnphelfloiadaaFtBA
import Derived.Test.YtjnphelfloiadaaFtBB
set_option linter.unusedVariables false
set_option linter.unusedSimpArgs false
namespace Go.Proofs.Ytjnphelfloiadaa
open Go.RowKit Go.Shelf
attribute [local irreducible] wpList Code.wp Oper.wp wpOp wpAnyH

set_option maxRecDepth 100000 in
set_option maxHeartbeats 8000000 in
theorem inside18_any (A : Option Addr) (n c : Nat) (l s t : List Int) (hE : E4ok s t) (w : World) (y : By w.heap.size w A n c l) :
  Calls Try.prog 16 #[.slice A n c, .agg (e4c s t)] w fun e w' => TwoR (inside18 l s t) w.heap.size w' e ∧ Below w.heap.size w w' := by
 obtain ⟨D, hD⟩ : ∃ D, got6 false l = D := ⟨_, rfl⟩
 obtain ⟨E, hEr⟩ : ∃ E, (g6 false l).err = E := ⟨_, rfl⟩
 obtain ⟨PT, hPT⟩ : ∃ P, ((g6 false l).pat : Int) = P := ⟨_, rfl⟩
 have sL := hE.sL
 have tL := hE.tL
 go_enter_defers Try.func16, Try.ntmps16
 refine wp_sr ?_
 refine lz (ow_box 32 (.tmp 1) _ rfl rfl ?_)
 intro g1 W2 hg3 ge4 sz5 hb6
 have z7 := hb6.size
 simp only [lay]
 refine lv (.slice none 0 0) (by exact xa) ?_
 simp only [lay]
 refine lz (ow_alloc (.int .i64 0) #[.int .i64 0] rfl (by kernel_rfl) rfl ?_)
 intro g8 W9 hg10 ge11 sz12 hb13
 have z14 := hb13.size
 simp only [lay]
 refine wn ?_
 refine wp_sr ?_
 refine lz (ow_defer (k := 27) rfl rfl ?_)
 simp only [lay]
 refine wn ?_
 refine wp_sr ?_
 refine lv (.slice A n c) (by exact xm) ?_
 simp only [lay]
 have b15 := bt hb6 hb13
 have by16 := y.to b15
 refine lz (ow_call (fun v w' => (∃ p, v = .tuple #[.agg (D.cells p), .int .i64 PT, .int .i64 E] ∧ Own6 w' W9.heap.size D p) ∧ Below W9.heap.size W9 w') (by exact xk Try.func48) (by have := ppart6_x by16; rw [hD, hEr, hPT] at this; exact this) ?_)
 rintro _ W17 ⟨⟨p19, rfl, ho20⟩, hb18⟩
 have z21 := hb18.size
 have hr22 := ho20.rd
 have hO23 := ho20.body
 simp only [lay]
 refine lv (.tuple #[.agg (D.cells p19), .int .i64 PT, .int .i64 E]) (by exact xm) ?_
 simp only [lay]
 refine lv (.agg (D.cells p19)) (by exact xe) ?_
 simp only [lay]
 refine lv (.int .i64 PT) (by exact xe) ?_
 simp only [lay]
 refine lv (.int .i64 E) (by exact xe) ?_
 simp only [lay]
 refine lz (oa #[.int .u8 0, .int .u32 0, .int .u8 0, .int .u8 0, .int .u8 0, .int .u8 0, .int .u8 0, .int .u8 0, .int .u8 0, .int .u8 0, .int .u8 0, .int .u8 0, .int .u8 0, .int .u8 0, .int .u8 0, .int .u8 0, .int .u8 0, .int .u8 0, .int .u8 0, .int .u8 0, .int .u8 0, .int .u8 0, .int .u8 0, .int .u8 0, .int .u8 0, .int .u8 0, .int .u8 0, .int .u8 0, .int .u8 0, .int .u8 0, .int .u8 0, .int .u8 0, .int .u8 0, .int .u8 0, .int .u8 0, .slice none 0 0, .bool false, .int .u32 0, .int .i64 0, .bool false, .int .u8 0, .slice none 0 0] ?_)
 intro g24 W25 hg26 ge27 sz28 hb29
 have z30 := hb29.size
 simp only [lay]
 refine lz (ow_st 28 (.tmp 6) (.tmp 18) g24 (D.cells p19) _ _ rfl (by exact rfl) (by exact rfl) hg26 (by kernel_rfl) rfl (by kernel_rfl) ?_)
 intro W31 hg32 bs33 hb34
 have z35 := hb34.size
 simp only [lay]
 refine lv (.int .i64 PT) (by exact xa) ?_
 simp only [lay]
 refine lv (.int .i64 E) (by exact xa) ?_
 simp only [lay]
 refine wn ?_
 refine wp_seq ?_
 refine wp_sr ?_
 by_cases q36 : E = 0
 case pos =>
  subst q36
  obtain ⟨hck0, hal, ha40, hsd, h40⟩ := got6_part y.rng hEr
  rw [hD] at hck0 hal ha40
  obtain ⟨hokh, hof, hbl⟩ := check18 hck0
  have yl := y.len
  obtain ⟨SD, hSD⟩ : ∃ SD, said18 l = SD := ⟨_, rfl⟩
  rw [hSD] at hsd
  obtain ⟨hsd0, hsd1⟩ := hsd
  have hsdE : two17 l 4 - ((D.ahead : Int) - 40) = SD := by rw [← hSD, said18, hD]; rfl
  have hch := (head18_check hof s t []).trans (if_neg (by decide))
  have hwr := head18_write hof s t
  have t4 := two17_rng y.rng 4
  refine wpList_cut 32 (fun a W => ∃ (b68 : Bool) (x37 x38 x39 x40 x41 x42 x43 x44 x45 x46 x47 x48 x49 x50 x51 x52 x53 x54 x55 x56 x57 x58 x59 x60 x61 x62 x63 x64 x65 x66 x67 : Value), none18 l = b68 ∧ a = ⟨#[.slice A n c, .agg (e4c s t), undef, .pointer (some ⟨g1, 0, none⟩), .slice none 0 0, .pointer (some ⟨g8, 0, none⟩), .pointer (some ⟨g24, 0, none⟩), .int .i64 PT, .int .i64 0, undef, undef, undef, undef, undef, undef, .tuple #[.agg (D.cells p19), .int .i64 PT, .int .i64 0], .slice A n c, .tuple #[.agg (D.cells p19), .int .i64 PT, .int .i64 0], .agg (D.cells p19), .int .i64 PT, .int .i64 0, x37, x38, x39, x40, x41, x42, x43, x44, x45, x46, x47, x48, x49, x50, x51, x52, x53, x54, x55, x56, x57, x58, x59, x60, x61, x62, x63, x64, x65, x66, x67, .bool b68, undef, undef, undef, undef, undef, undef, undef, undef, undef, undef, undef, undef, undef, undef, undef, undef, undef, undef, undef, undef, undef, undef, undef, undef, undef, undef, undef, undef, undef, undef, undef, undef, undef, undef, undef, undef, undef, undef, undef, undef, undef], [dfr18 g8]⟩ ∧ W31 = W) (fun hk69 => ?_) ?_
  case refine_1 =>
   refine lv (.int .i64 0) (by exact xm) ?_
   simp only [lay]
   refine lv (.bool false) (by exact neq_int_eq (by exact rfl) (by exact rfl) (by exact rfl) (by decide)) ?_
   simp only [lay]
   refine lv (.bool false) (by exact xm) ?_
   simp only [lay]
   refine lv (.pointer (some ⟨g24, 38, none⟩)) (by exact xf 38 0 Try.underlying28) ?_
   simp only [lay]
   refine lv (.int .i64 D.off) (by exact xc Try.underlying3 (hg32.cell 38 rfl)) ?_
   simp only [lay]
   by_cases q70 : D.off = 0
   case pos =>
    refine lv (.bool true) (by exact yq) ?_
    simp only [lay]
    refine lv (.bool true) (by exact xm) ?_
    simp only [lay]
    refine lv (.pointer (some ⟨g24, 40, none⟩)) (by exact xf 40 0 Try.underlying28) ?_
    simp only [lay]
    refine lv (.int .u8 D.pro) (by exact xc Try.underlying5 (hg32.cell 40 rfl)) ?_
    simp only [lay]
    by_cases q71 : D.pro = 58
    case pos =>
     refine lv (.bool true) (by exact yq) ?_
     simp only [lay]
     refine lv (.bool true) (by exact xp (b := true)) ?_
     simp only [lay]
     refine lv (.bool true) (by exact xm) ?_
     simp only [lay]
     refine lv (.pointer (some ⟨g24, 41, none⟩)) (by exact xf 41 0 Try.underlying28) ?_
     simp only [lay]
     refine lv (.slice p19.bA D.bl.length p19.bc) (by exact xc Try.underlying26 (hg32.cell 41 rfl)) ?_
     simp only [lay]
     refine lv (.int .i64 (D.bl.length : Int)) (by exact xz Try.underlying26) ?_
     simp only [lay]
     by_cases q72 : (D.bl.length : Int) > 0
     case pos =>
      refine lv (.bool true) (by exact ex_gtr (by exact rfl) (by exact rfl) (by exact rfl) (decide_eq_true (by first | assumption | omega | decide))) ?_
      simp only [lay]
      refine lv (.bool true) (by exact xp (b := true)) ?_
      simp only [lay]
      refine lv (.bool true) (by exact xm) ?_
      simp only [lay]
      refine lv (.pointer (some ⟨g24, 41, none⟩)) (by exact xf 41 0 Try.underlying28) ?_
      simp only [lay]
      refine lv (.slice p19.bA D.bl.length p19.bc) (by exact xc Try.underlying26 (hg32.cell 41 rfl)) ?_
      simp only [lay]
      have l73 : W17.heap.size ≤ g24 := Nat.le_of_eq ge27.symm
      have b74 := hb29.trans (hb34.mono l73)
      have own75 := hO23.to b74
      have y76 := (own_byS own75)
      obtain ⟨b77, o78, hA79⟩ := y76.form (k := 0) (by omega)
      refine lv (.pointer (some ⟨b77, o78 + 0, none⟩)) (by exact xi 0 Try.underlying26 hA79) ?_
      simp only [lay]
      refine lv (.int .u8 (D.bl.getD 0 0)) (by exact xc Try.underlying5 (y76.atE (k := 0) hA79 (by omega))) ?_
      simp only [lay]
      by_cases q80 : D.bl.getD 0 0 = 128
      case pos =>
       refine lv (.bool false) (by exact neq_int_eq (by exact rfl) (by exact rfl) (by exact rfl) (by first | assumption | omega)) ?_
       simp only [lay]
       refine lv (.bool false) (by exact xp (b := true)) ?_
       simp only [lay]
       refine lv (.bool false) (by exact xm) ?_
       simp only [lay]
       refine lzn ?_
       simp only [lay]
       refine lzn ?_
       simp only [lay]
       refine lzn ?_
       simp only [lay]
       refine lzn ?_
       simp only [lay]
       refine lzn ?_
       simp only [lay]
       refine lv (.bool false) (by exact xp (b := false)) ?_
       simp only [lay]
       refine lv (.bool false) (by exact xp (b := false)) ?_
       simp only [lay]
       exact hk69 _ _ ⟨false, _, _, _, _, _, _, _, _, _, _, _, _, _, _, _, _, _, _, _, _, _, _, _, _, _, _, _, _, _, _, _, (by cases hn : none18 l with | false => rfl | true => exfalso; have hx := none18_iff.1 hn; rw [hD, hEr] at hx; omega), rfl, rfl⟩
      refine lv (.bool true) (by exact neq_int_ne (by exact rfl) (by exact rfl) (by exact rfl) (by first | assumption | omega)) ?_
      simp only [lay]
      refine lv (.bool true) (by exact xp (b := true)) ?_
      simp only [lay]
      refine lv (.bool true) (by exact xm) ?_
      simp only [lay]
      refine lv (.pointer (some ⟨g24, 41, none⟩)) (by exact xf 41 0 Try.underlying28) ?_
      simp only [lay]
      refine lv (.slice p19.bA D.bl.length p19.bc) (by exact xc Try.underlying26 (hg32.cell 41 rfl)) ?_
      simp only [lay]
      have y81 := (own_byS own75)
      obtain ⟨b82, o83, hA84⟩ := y81.form (k := 0) (by omega)
      refine lv (.pointer (some ⟨b82, o83 + 0, none⟩)) (by exact xi 0 Try.underlying26 hA84) ?_
      simp only [lay]
      refine lv (.int .u8 (D.bl.getD 0 0)) (by exact xc Try.underlying5 (y81.atE (k := 0) hA84 (by omega))) ?_
      simp only [lay]
      by_cases q85 : D.bl.getD 0 0 = 129
      case pos =>
       refine lv (.bool false) (by exact neq_int_eq (by exact rfl) (by exact rfl) (by exact rfl) (by first | assumption | omega)) ?_
       simp only [lay]
       refine lv (.bool false) (by exact xp (b := true)) ?_
       simp only [lay]
       refine lv (.bool false) (by exact xp (b := false)) ?_
       simp only [lay]
       exact hk69 _ _ ⟨false, _, _, _, _, _, _, _, _, _, _, _, _, _, _, _, _, _, _, _, _, _, _, _, _, _, _, _, _, _, _, _, (by cases hn : none18 l with | false => rfl | true => exfalso; have hx := none18_iff.1 hn; rw [hD, hEr] at hx; omega), rfl, rfl⟩
      refine lv (.bool true) (by exact neq_int_ne (by exact rfl) (by exact rfl) (by exact rfl) (by first | assumption | omega)) ?_
      simp only [lay]
      refine lv (.bool true) (by exact xp (b := true)) ?_
      simp only [lay]
      refine lv (.bool true) (by exact xp (b := false)) ?_
      simp only [lay]
      exact hk69 _ _ ⟨true, _, _, _, _, _, _, _, _, _, _, _, _, _, _, _, _, _, _, _, _, _, _, _, _, _, _, _, _, _, _, _, none18_iff.2 (by rw [hD, hEr]; omega), rfl, rfl⟩
     refine lv (.bool false) (by exact ex_gtr (by exact rfl) (by exact rfl) (by exact rfl) (decide_eq_false (by first | assumption | omega | decide))) ?_
     simp only [lay]
     refine lv (.bool false) (by exact xp (b := true)) ?_
     simp only [lay]
     refine lv (.bool false) (by exact xm) ?_
     simp only [lay]
     refine lzn ?_
     simp only [lay]
     refine lzn ?_
     simp only [lay]
     refine lzn ?_
     simp only [lay]
     refine lzn ?_
     simp only [lay]
     refine lzn ?_
     simp only [lay]
     refine lv (.bool false) (by exact xp (b := false)) ?_
     simp only [lay]
     refine lv (.bool false) (by exact xm) ?_
     simp only [lay]
     refine lzn ?_
     simp only [lay]
     refine lzn ?_
     simp only [lay]
     refine lzn ?_
     simp only [lay]
     refine lzn ?_
     simp only [lay]
     refine lzn ?_
     simp only [lay]
     refine lv (.bool false) (by exact xp (b := false)) ?_
     simp only [lay]
     refine lv (.bool false) (by exact xp (b := false)) ?_
     simp only [lay]
     exact hk69 _ _ ⟨false, _, _, _, _, _, _, _, _, _, _, _, _, _, _, _, _, _, _, _, _, _, _, _, _, _, _, _, _, _, _, _, (by cases hn : none18 l with | false => rfl | true => exfalso; have hx := none18_iff.1 hn; rw [hD, hEr] at hx; omega), rfl, rfl⟩
    refine lv (.bool false) (by exact yqn) ?_
    simp only [lay]
    refine lv (.bool false) (by exact xp (b := true)) ?_
    simp only [lay]
    refine lv (.bool false) (by exact xm) ?_
    simp only [lay]
    refine lzn ?_
    simp only [lay]
    refine lzn ?_
    simp only [lay]
    refine lzn ?_
    simp only [lay]
    refine lzn ?_
    simp only [lay]
    refine lv (.bool false) (by exact xp (b := false)) ?_
    simp only [lay]
    refine lv (.bool false) (by exact xm) ?_
    simp only [lay]
    refine lzn ?_
    simp only [lay]
    refine lzn ?_
    simp only [lay]
    refine lzn ?_
    simp only [lay]
    refine lzn ?_
    simp only [lay]
    refine lzn ?_
    simp only [lay]
    refine lv (.bool false) (by exact xp (b := false)) ?_
    simp only [lay]
    refine lv (.bool false) (by exact xm) ?_
    simp only [lay]
    refine lzn ?_
    simp only [lay]
    refine lzn ?_
    simp only [lay]
    refine lzn ?_
    simp only [lay]
    refine lzn ?_
    simp only [lay]
    refine lzn ?_
    simp only [lay]
    refine lv (.bool false) (by exact xp (b := false)) ?_
    simp only [lay]
    refine lv (.bool false) (by exact xp (b := false)) ?_
    simp only [lay]
    exact hk69 _ _ ⟨false, _, _, _, _, _, _, _, _, _, _, _, _, _, _, _, _, _, _, _, _, _, _, _, _, _, _, _, _, _, _, _, (by cases hn : none18 l with | false => rfl | true => exfalso; have hx := none18_iff.1 hn; rw [hD, hEr] at hx; omega), rfl, rfl⟩
   refine lv (.bool false) (by exact yqn) ?_
   simp only [lay]
   refine lv (.bool false) (by exact xm) ?_
   simp only [lay]
   refine lzn ?_
   simp only [lay]
   refine lzn ?_
   simp only [lay]
   refine lzn ?_
   simp only [lay]
   refine lv (.bool false) (by exact xp (b := false)) ?_
   simp only [lay]
   refine lv (.bool false) (by exact xm) ?_
   simp only [lay]
   refine lzn ?_
   simp only [lay]
   refine lzn ?_
   simp only [lay]
   refine lzn ?_
   simp only [lay]
   refine lzn ?_
   simp only [lay]
   refine lv (.bool false) (by exact xp (b := false)) ?_
   simp only [lay]
   refine lv (.bool false) (by exact xm) ?_
   simp only [lay]
   refine lzn ?_
   simp only [lay]
   refine lzn ?_
   simp only [lay]
   refine lzn ?_
   simp only [lay]
   refine lzn ?_
   simp only [lay]
   refine lzn ?_
   simp only [lay]
   refine lv (.bool false) (by exact xp (b := false)) ?_
   simp only [lay]
   refine lv (.bool false) (by exact xm) ?_
   simp only [lay]
   refine lzn ?_
   simp only [lay]
   refine lzn ?_
   simp only [lay]
   refine lzn ?_
   simp only [lay]
   refine lzn ?_
   simp only [lay]
   refine lzn ?_
   simp only [lay]
   refine lv (.bool false) (by exact xp (b := false)) ?_
   simp only [lay]
   refine lv (.bool false) (by exact xp (b := false)) ?_
   simp only [lay]
   exact hk69 _ _ ⟨false, _, _, _, _, _, _, _, _, _, _, _, _, _, _, _, _, _, _, _, _, _, _, _, _, _, _, _, _, _, _, _, (by cases hn : none18 l with | false => rfl | true => exfalso; have hx := none18_iff.1 hn; rw [hD, hEr] at hx; omega), rfl, rfl⟩
  rintro _ _ ⟨b68, x37, x38, x39, x40, x41, x42, x43, x44, x45, x46, x47, x48, x49, x50, x51, x52, x53, x54, x55, x56, x57, x58, x59, x60, x61, x62, x63, x64, x65, x66, x67, hnn, rfl, rfl⟩
  simp only [List.drop_succ_cons, List.drop_zero]
  cases b68
  case false =>
   refine wn ?_
   refine cF9 ?_
   refine wp_skip ?_
   change Code.wp _ _ _ _ _
   refine wp_sr ?_
   refine lv (.agg (D.cells p19)) (by exact xo (hg32.load (P := Try.prog) 28 Try.underlying28 rfl (by kernel_rfl))) ?_
   simp only [lay]
   by_cases q86 : routed18 D.hs = true
   case pos =>
    have l89 : W17.heap.size ≤ g24 := Nat.le_of_eq ge27.symm
    have b90 := hb29.trans (hb34.mono l89)
    have rd91 := hr22.to b90
    refine lz (ow_panic [{ v := .iface 36 (.int .i64 170), recovered := false }] (fun w' => Below W31.heap.size W31 w') (by exact xk Try.func30) ((side18_any D _ W31 rd91 hokh).mono fun e w' h => ⟨by rw [h.1.out, side18, if_pos q86]; rfl, h.2⟩) ?_)
    rintro W87 hb88
    have z92 := hb88.size
    have e := inside18_route (s := s) (t := t) hnn (by rw [hD]; assumption)
    have b93 := bt hb18 hb29
    have l94 := lq hb18 ge27
    have b95 := b93.trans (hb34.mono l94)
    have b96 := bt b95 hb88
    have has97 := hg10.to b96
    have b98 := bt b15 hb18
    have b99 := bt b98 hb29
    have l100 := lq b98 ge27
    have b101 := b99.trans (hb34.mono l100)
    have b102 := bt b101 hb88
    have l103 := lq hb6 ge11
    refine leave18_fault has97 ?_
    intro W104 hE105 hb106 hk107
    exact ⟨_, res_tc Try.results16 rfl (load_errno hE105) rfl, ⟨_, by rw [e], by rw [e]; exact OwnB.nil _ _⟩, b102.trans (hb106.mono l103)⟩
   have hr0 := eq_false_of_ne_true q86
   by_cases q108 : wrong18 D.pro = true
   case pos =>
    have l111 : W17.heap.size ≤ g24 := Nat.le_of_eq ge27.symm
    have b112 := hb29.trans (hb34.mono l111)
    have rd113 := hr22.to b112
    refine lz (ow_panic [{ v := .iface 36 (.int .i64 171), recovered := false }] (fun w' => Below W31.heap.size W31 w') (by exact xk Try.func30) ((side18_any D _ W31 rd113 hokh).mono fun e w' h => ⟨by rw [h.1.out, side18, if_neg q86, if_pos q108]; rfl, h.2⟩) ?_)
    rintro W109 hb110
    have z114 := hb110.size
    have e := inside18_wrong (s := s) (t := t) hnn (by rw [hD]; assumption) (by rw [hD]; assumption)
    have b115 := bt hb18 hb29
    have l116 := lq hb18 ge27
    have b117 := b115.trans (hb34.mono l116)
    have b118 := bt b117 hb110
    have has119 := hg10.to b118
    have b120 := bt b15 hb18
    have b121 := bt b120 hb29
    have l122 := lq b120 ge27
    have b123 := b121.trans (hb34.mono l122)
    have b124 := bt b123 hb110
    have l125 := lq hb6 ge11
    refine leave18_fault has119 ?_
    intro W126 hE127 hb128 hk129
    exact ⟨_, res_tc Try.results16 rfl (load_errno hE127) rfl, ⟨_, by rw [e], by rw [e]; exact OwnB.nil _ _⟩, b124.trans (hb128.mono l125)⟩
   have hw0 := eq_false_of_ne_true q108
   have l130 : W17.heap.size ≤ g24 := Nat.le_of_eq ge27.symm
   have b131 := hb29.trans (hb34.mono l130)
   have rd132 := hr22.to b131
   refine lz (ow_call (fun v w' => v = .tuple #[] ∧ Below W31.heap.size W31 w') (by exact xk Try.func30) ((side18_any D _ W31 rd132 hokh).mono fun e w' h => ⟨_, by rw [h.1.out, side18, if_neg q86, if_neg q108], rfl, h.2⟩) ?_)
   rintro _ W133 ⟨rfl, hb134⟩
   have z135 := hb134.size
   simp only [lay]
   refine wn ?_
   refine wp_sr ?_
   have has136 := hg32.to hb134
   refine lv (.agg (D.cells p19)) (by exact xo (has136.load (P := Try.prog) 28 Try.underlying28 rfl (by kernel_rfl))) ?_
   simp only [lay]
   have b137 := bt b131 hb134
   have rd138 := hr22.to b137
   refine lz (ow_call (fun v w' => v = .tuple #[.int .i64 D.all, .int .i64 (D.ahead : Int), .int .i64 0] ∧ Below W133.heap.size W133 w') (by exact xk Try.func49) (size6_x rd138 hck0) ?_)
   rintro _ W139 ⟨rfl, hb140⟩
   have z141 := hb140.size
   simp only [lay]
   refine lv (.tuple #[.int .i64 D.all, .int .i64 (D.ahead : Int), .int .i64 0]) (by exact xm) ?_
   simp only [lay]
   refine lv (.int .i64 D.all) (by exact xe) ?_
   simp only [lay]
   refine lv (.int .i64 (D.ahead : Int)) (by exact xe) ?_
   simp only [lay]
   refine lv (.int .i64 0) (by exact xe) ?_
   simp only [lay]
   refine lv (.int .i64 D.all) (by exact xa) ?_
   simp only [lay]
   refine lv (.int .i64 (D.ahead : Int)) (by exact xa) ?_
   simp only [lay]
   refine lv (.int .i64 0) (by exact xa) ?_
   simp only [lay]
   refine wn ?_
   refine wp_sr ?_
   refine lv (.slice A n c) (by exact xm) ?_
   simp only [lay]
   have b142 := bt b15 hb18
   have b143 := bt b142 hb29
   have l144 := lq b142 ge27
   have b145 := b143.trans (hb34.mono l144)
   have b146 := bt b145 hb134
   have b147 := bt b146 hb140
   have by148 := y.to b147
   refine lz (ow_call (fun v w' => v = .int .u16 (two17 l 4) ∧ Below W139.heap.size W139 w') (by exact xk Try.func50) ((two18_any _ _ _ _ 4 W139 by148 (by omega) (by omega)).mono fun e w' h => ⟨_, h.1, rfl, h.2⟩) ?_)
   rintro _ W149 ⟨rfl, hb150⟩
   have z151 := hb150.size
   simp only [lay]
   refine lv (.int .i64 (two17 l 4)) (by exact xv (conv_i64 33 3 .u16 (two17 l 4) (by kernel_rfl) Try.underlying3 (by omega) _)) ?_
   simp only [lay]
   refine lv (.int .i64 (D.ahead : Int)) (by exact xm) ?_
   simp only [lay]
   refine lv (.int .i64 ((D.ahead : Int) - 40)) (by exact xb (b_sub _ ((D.ahead : Int) - 40) rfl (by omega) _)) ?_
   simp only [lay]
   refine lv (.int .i64 SD) (by exact xb (b_sub _ SD hsdE (by omega) _)) ?_
   simp only [lay]
   refine lv (.int .i64 SD) (by exact xa) ?_
   simp only [lay]
   refine wn ?_
   refine wp_sr ?_
   have b152 := bt hb134 hb140
   have b153 := bt b152 hb150
   have has154 := hg32.to b153
   refine lv (.agg (D.cells p19)) (by exact xo (has154.load (P := Try.prog) 28 Try.underlying28 rfl (by kernel_rfl))) ?_
   simp only [lay]
   have b155 := bt hb13 hb18
   have b156 := bt b155 hb29
   have l157 := lq b155 ge27
   have b158 := b156.trans (hb34.mono l157)
   have b159 := bt b158 hb134
   have b160 := bt b159 hb140
   have b161 := bt b160 hb150
   have has162 := hg3.to b161
   refine lv (.agg (e4c s t)) (by exact xo (has162.load (P := Try.prog) 32 Try.underlying32 rfl (by kernel_rfl))) ?_
   simp only [lay]
   refine lz (ow_call (fun v w' => v = .agg ((head18 D s t []).cells pZ18) ∧ Below W149.heap.size W149 w') (by exact xk Try.func31) ((header18_any D ho20.ok _ s t W149).mono fun e w' h => ⟨_, h.1, rfl, h.2⟩) ?_)
   rintro _ W163 ⟨rfl, hb164⟩
   have z165 := hb164.size
   simp only [lay]
   refine lz (ow_call (fun v w' => (∃ u, v = .tuple #[u, .int .i64 0] ∧ OwnB w' W163.heap.size u ((head18 D s t []).first (head18 D s t []).sum)) ∧ Below W163.heap.size W163 w') (by exact xk Try.func51) (by have := write4_x (w := W163) (head18_rd0 ho20.ok hE) hch; rw [hwr] at this; exact this) ?_)
   rintro _ W166 ⟨⟨u168, rfl, hO169⟩, hb167⟩
   have z170 := hb167.size
   obtain ⟨A171, c172, rfl, y173⟩ := hO169.by_
   have hfl : ((head18 D s t []).first (head18 D s t []).sum).length = 20 := rfl
   simp only [lay]
   refine lv (.tuple #[.slice A171 (((head18 D s t []).first (head18 D s t []).sum).length) c172, .int .i64 0]) (by exact xm) ?_
   simp only [lay]
   refine lv (.slice A171 (((head18 D s t []).first (head18 D s t []).sum).length) c172) (by exact xe) ?_
   simp only [lay]
   refine lv (.int .i64 0) (by exact xe) ?_
   simp only [lay]
   refine lv (.slice A171 (((head18 D s t []).first (head18 D s t []).sum).length) c172) (by exact xa) ?_
   simp only [lay]
   refine lv (.int .i64 0) (by exact xa) ?_
   simp only [lay]
   refine wn ?_
   refine wp_sr ?_
   refine lv (.slice A171 (((head18 D s t []).first (head18 D s t []).sum).length) c172) (by exact xm) ?_
   simp only [lay]
   refine lv (.int .i64 SD) (by exact xm) ?_
   simp only [lay]
   refine lv (.int .i64 (SD + 20)) (by exact xb (b_add _ (SD + 20) rfl (by omega) _)) ?_
   simp only [lay]
   obtain ⟨NN, hNN⟩ : ∃ NN, min (SD + 20) 65535 = NN := ⟨_, rfl⟩
   have hN2 : 0 ≤ NN ∧ NN < 65536 := by omega
   refine lv (.int .i64 NN) (by exact ex_min (r := NN) (by exact rfl) (by exact rfl) (by exact rfl) (by split <;> omega)) ?_
   simp only [lay]
   refine lv (.int .u16 NN) (by exact xv (conv_u16 3 33 .i64 NN (by kernel_rfl) Try.underlying33 (by omega) (by omega) _)) ?_
   simp only [lay]
   obtain ⟨g174, rfl, h175, h176⟩ := own_form hO169 (by first | omega | (simp only [List.length_append]; omega) | simp [D4.src])
   refine lz (ow_call (fun v w' => v = .tuple #[] ∧ OwnB w' W163.heap.size (.slice (some ⟨g174, 0, none⟩) (((head18 D s t []).first (head18 D s t []).sum).length) c172) (put17 ((head18 D s t []).first (head18 D s t []).sum) 2 NN) ∧ But6 g174 W166 w' ∧ Below g174 W166 w') (by exact xk Try.func52) ((set18_any g174 (((head18 D s t []).first (head18 D s t []).sum).length) c172 W163.heap.size 2 NN (by omega) _ W166 hO169 (by omega) (by omega)).mono fun e w' h => ⟨_, h.1, rfl, h.2⟩) ?_)
   rintro _ W179 ⟨rfl, hO178, bs177, hb180⟩
   have z181 := hb180.size
   simp only [lay]
   refine wn ?_
   refine wp_sr ?_
   refine lv (.slice (some ⟨g174, 0, none⟩) (((head18 D s t []).first (head18 D s t []).sum).length) c172) (by exact xm) ?_
   simp only [lay]
   refine lz (ow_call (fun v w' => v = .tuple #[] ∧ OwnB w' W163.heap.size (.slice (some ⟨g174, 0, none⟩) (((head18 D s t []).first (head18 D s t []).sum).length) c172) (put17 (put17 ((head18 D s t []).first (head18 D s t []).sum) 2 NN) 10 0) ∧ But6 g174 W179 w' ∧ Below g174 W179 w') (by exact xk Try.func52) ((set18_any g174 (((head18 D s t []).first (head18 D s t []).sum).length) c172 W163.heap.size 10 0 (by omega) _ W179 hO178 (by omega) (by omega)).mono fun e w' h => ⟨_, h.1, rfl, h.2⟩) ?_)
   rintro _ W184 ⟨rfl, hO183, bs182, hb185⟩
   have z186 := hb185.size
   simp only [lay]
   refine wn ?_
   refine wp_sr ?_
   refine lv (.slice (some ⟨g174, 0, none⟩) (((head18 D s t []).first (head18 D s t []).sum).length) c172) (by exact xm) ?_
   simp only [lay]
   refine lv (.slice (some ⟨g174, 0, none⟩) (((head18 D s t []).first (head18 D s t []).sum).length) c172) (by exact xm) ?_
   simp only [lay]
   refine lz (ow_build [.slice (some ⟨g174, 0, none⟩) (((head18 D s t []).first (head18 D s t []).sum).length) c172] rfl Try.underlying100 (by kernel_rfl) (by kernel_rfl) rfl (by decide) (by decide) (by first | rfl | (simp only [List.map_toArray, List.map_cons, List.map_nil] <;> rfl)) (by simp [Value.cells]) ?_)
   intro g187 W188 hg189 ge190 sz191 hb192
   have z193 := hb192.size
   simp only [lay]
   have own194 := hO183.to hb192
   refine lz (ow_call (fun v w' => (∃ q, v = .int .u16 q ∧ q = 65535 - sumw (put17 (put17 ((head18 D s t []).first (head18 D s t []).sum) 2 NN) 10 0) ∧ 0 ≤ q ∧ q < 65536) ∧ Below W188.heap.size W188 w') (by exact xk Try.func53) (of1 hg189 (own_byS own194)) ?_)
   rintro _ W195 ⟨⟨q197, rfl, hq198, q0199, q1200⟩, hb196⟩
   have z201 := hb196.size
   simp only [lay]
   have b206 := bt hb192 hb196
   have own207 := hO183.to b206
   refine lz (ow_call (fun v w' => v = .tuple #[] ∧ OwnB w' W163.heap.size (.slice (some ⟨g174, 0, none⟩) (((head18 D s t []).first (head18 D s t []).sum).length) c172) (put17 (put17 (put17 ((head18 D s t []).first (head18 D s t []).sum) 2 NN) 10 0) 10 q197) ∧ But6 g174 W195 w' ∧ Below g174 W195 w') (by exact xk Try.func52) ((set18_any g174 (((head18 D s t []).first (head18 D s t []).sum).length) c172 W163.heap.size 10 q197 (by omega) _ W195 own207 (by omega) (by omega)).mono fun e w' h => ⟨_, h.1, rfl, h.2⟩) ?_)
   rintro _ W204 ⟨rfl, hO203, bs202, hb205⟩
   have has208 := hg189.to hb196
   have z209 := hb205.size
   have has210 := has208.but6 bs202 (by omega)
   simp only [lay]
   refine wn ?_
   refine wp_sr ?_
   refine lv (.slice (some ⟨g174, 0, none⟩) (((head18 D s t []).first (head18 D s t []).sum).length) c172) (by exact xm) ?_
   simp only [lay]
   have b211 := bt b153 hb164
   have b212 := bt b211 hb167
   have l213 := Nat.le_trans b211.size h175
   have b214 := b212.trans (hb180.mono l213)
   have b215 := b214.trans (hb185.mono l213)
   have b216 := bt b215 hb192
   have b217 := bt b216 hb196
   have b218 := b217.trans (hb205.mono l213)
   have has219 := hg32.to b218
   refine lv (.agg (D.cells p19)) (by exact xo (has219.load (P := Try.prog) 28 Try.underlying28 rfl (by kernel_rfl))) ?_
   simp only [lay]
   have b220 := bt b161 hb164
   have b221 := bt b220 hb167
   have l222 := Nat.le_trans b220.size h175
   have b223 := b221.trans (hb180.mono l222)
   have b224 := b223.trans (hb185.mono l222)
   have b225 := bt b224 hb192
   have b226 := bt b225 hb196
   have b227 := b226.trans (hb205.mono l222)
   have has228 := hg3.to b227
   refine lv (.agg (e4c s t)) (by exact xo (has228.load (P := Try.prog) 32 Try.underlying32 rfl (by kernel_rfl))) ?_
   simp only [lay]
   refine lv (.int .i64 SD) (by exact xm) ?_
   simp only [lay]
   have b229 := bt b137 hb140
   have b230 := bt b229 hb150
   have b231 := bt b230 hb164
   have b232 := bt b231 hb167
   have l233 := Nat.le_trans b231.size h175
   have b234 := b232.trans (hb180.mono l233)
   have b235 := b234.trans (hb185.mono l233)
   have b236 := bt b235 hb192
   have b237 := bt b236 hb196
   have b238 := b237.trans (hb205.mono l233)
   have rd239 := hr22.to b238
   refine lz (ow_call (fun v w' => OwnB w' W204.heap.size v (told18 D s t SD) ∧ Below W204.heap.size W204 w') (by exact xk Try.func54) (told18_any _ _ _ _ hE SD (by omega) W204 rd239 hbl) ?_)
   rintro v242 W240 ⟨hO243, hb241⟩
   have z244 := hb241.size
   obtain ⟨A245, c246, rfl, y247⟩ := hO243.by_
   simp only [lay]
   have own253 := hO203.to hb241
   have b254 := hb167.trans (hb180.mono h175)
   have b255 := b254.trans (hb185.mono h175)
   have b256 := bt b255 hb192
   have b257 := bt b256 hb196
   have b258 := b257.trans (hb205.mono h175)
   have b259 := bt b258 hb241
   refine lz (ow_app (.tmp 88) (.tmp 92) 26 rfl Try.underlying26 info8 _ _ (put17 (put17 (put17 ((head18 D s t []).first (head18 D s t []).sum) 2 NN) 10 0) 10 q197) rfl own253 _ _ _ _ (told18 D s t SD) rfl (own_byS hO243) (by simp only [put17_len]; have := told18_len D s t SD; omega) b259.size ?_)
   intro v252 W248 hO249 hb250 hgr251
   have z260 := hb250.size
   obtain ⟨A261, c262, rfl, y263⟩ := hO249.by_
   simp only [lay]
   refine lv (.slice A261 ((put17 (put17 (put17 ((head18 D s t []).first (head18 D s t []).sum) 2 NN) 10 0) 10 q197 ++ (told18 D s t SD)).length) c262) (by exact xa) ?_
   simp only [lay]
   have b268 := bt hb18 hb29
   have l269 := lq hb18 ge27
   have b270 := b268.trans (hb34.mono l269)
   have b271 := bt b270 hb134
   have b272 := bt b271 hb140
   have b273 := bt b272 hb150
   have b274 := bt b273 hb164
   have b275 := bt b274 hb167
   have l276 := Nat.le_trans b274.size h175
   have b277 := b275.trans (hb180.mono l276)
   have b278 := b277.trans (hb185.mono l276)
   have b279 := bt b278 hb192
   have b280 := bt b279 hb196
   have b281 := b280.trans (hb205.mono l276)
   have b282 := bt b281 hb241
   have l283 := Nat.le_trans b274.size (Nat.le_refl _)
   have b284 := b282.trans (hb250.mono l283)
   have has285 := hg10.to b284
   refine lz (ow_st1 36 (.tmp 5) (.const (.int .i64 0)) g8 0 (.int .i64 0) _ #[.int .i64 0] _ rfl (by exact rfl) (by exact rfl) rfl (by kernel_rfl) has285 rfl rfl (by kernel_rfl) ?_)
   intro W264 hg265 bs266 hb267
   have b286 := bt b238 hb241
   have l287 := Nat.le_trans b231.size (Nat.le_refl _)
   have b288 := b286.trans (hb250.mono l287)
   have own289 := hO23.to b288
   have b290 := bt b218 hb241
   have l291 := Nat.le_trans b211.size (Nat.le_refl _)
   have b292 := b290.trans (hb250.mono l291)
   have has293 := hg32.to b292
   have z294 := hb267.size
   have own295 := own289.but6 bs266 (by omega)
   have has296 := has293.but6 bs266 (by omega)
   have own297 := hO249.but6 bs266 (by omega)
   simp only [lay]
   refine wn ?_
   refine wp_ret ?_
   try simp only [Exit.then]
   rw [sum18_any] at hq198
   have e : inside18 l s t = (put17 (put17 (put17 ((head18 D s t []).first (head18 D s t []).sum) 2 NN) 10 0) 10 q197 ++ (told18 D s t SD), 0) := by
    rw [inside18_ok hD hnn hr0 hw0, hSD, hNN, sum18, ← hq198, sum18_any (head18 D s t []) (head18 D s t []).sum]
   have b298 := bt b147 hb150
   have b299 := bt b298 hb164
   have b300 := bt b299 hb167
   have l301 := Nat.le_trans b299.size h175
   have b302 := b300.trans (hb180.mono l301)
   have b303 := b302.trans (hb185.mono l301)
   have b304 := bt b303 hb192
   have b305 := bt b304 hb196
   have b306 := b305.trans (hb205.mono l301)
   have b307 := bt b306 hb241
   have l308 := Nat.le_trans b299.size (Nat.le_refl _)
   have b309 := b307.trans (hb250.mono l308)
   have l310 := lq hb6 ge11
   have b311 := b309.trans (hb267.mono l310)
   exact leave18_ok (res_tc Try.results16 rfl (load_errno hg265) rfl) ⟨⟨_, by rw [e], by rw [e]; exact (own297.more b299.size)⟩, b311⟩
  refine wn ?_
  refine cT9 ?_
  refine wp_region_lit ?_
  refine lv (.iface 36 (.int .i64 176)) (by kernel_rfl) ?_
  simp only [lay]
  refine lz (ow_raise _ _ rfl (by exact rfl) ?_)
  have e := inside18_none (s := s) (t := t) (l := l) hnn
  have b312 := bt hb18 hb29
  have l313 := lq hb18 ge27
  have b314 := b312.trans (hb34.mono l313)
  have has315 := hg10.to b314
  have b316 := bt b15 hb18
  have b317 := bt b316 hb29
  have l318 := lq b316 ge27
  have b319 := b317.trans (hb34.mono l318)
  have l320 := lq hb6 ge11
  refine leave18_fault has315 ?_
  intro W321 hE322 hb323 hk324
  exact ⟨_, res_tc Try.results16 rfl (load_errno hE322) rfl, ⟨_, by rw [e], by rw [e]; exact OwnB.nil _ _⟩, b319.trans (hb323.mono l320)⟩
 refine lv (.int .i64 E) (by exact xm) ?_
 simp only [lay]
 refine lv (.bool true) (by exact neq_int_ne (by exact rfl) (by exact rfl) (by exact rfl) (by first | assumption | omega)) ?_
 simp only [lay]
 refine lv (.bool true) (by exact xm) ?_
 simp only [lay]
 refine lzn ?_
 simp only [lay]
 refine lzn ?_
 simp only [lay]
 refine lzn ?_
 simp only [lay]
 refine lzn ?_
 simp only [lay]
 refine lzn ?_
 simp only [lay]
 refine lzn ?_
 simp only [lay]
 refine lzn ?_
 simp only [lay]
 refine lzn ?_
 simp only [lay]
 refine lzn ?_
 simp only [lay]
 refine lzn ?_
 simp only [lay]
 refine lzn ?_
 simp only [lay]
 refine lzn ?_
 simp only [lay]
 refine lzn ?_
 simp only [lay]
 refine lzn ?_
 simp only [lay]
 refine lzn ?_
 simp only [lay]
 refine lzn ?_
 simp only [lay]
 refine lzn ?_
 simp only [lay]
 refine lzn ?_
 simp only [lay]
 refine lzn ?_
 simp only [lay]
 refine lzn ?_
 simp only [lay]
 refine lzn ?_
 simp only [lay]
 refine lzn ?_
 simp only [lay]
 refine lzn ?_
 simp only [lay]
 refine lzn ?_
 simp only [lay]
 refine lzn ?_
 simp only [lay]
 refine lzn ?_
 simp only [lay]
 refine lzn ?_
 simp only [lay]
 refine lzn ?_
 simp only [lay]
 refine lv (.bool true) (by exact xp (b := true)) ?_
 simp only [lay]
 refine wn ?_
 refine cT9 ?_
 refine wp_region_lit ?_
 refine lv (.iface 36 (.int .i64 176)) (by kernel_rfl) ?_
 simp only [lay]
 refine lz (ow_raise _ _ rfl (by exact rfl) ?_)
 have e := inside18_none (s := s) (t := t) (l := l) (none18_iff.2 (by rw [hEr]; omega))
 have b326 := bt hb18 hb29
 have l327 := lq hb18 ge27
 have b328 := b326.trans (hb34.mono l327)
 have has329 := hg10.to b328
 have b330 := bt b15 hb18
 have b331 := bt b330 hb29
 have l332 := lq b330 ge27
 have b333 := b331.trans (hb34.mono l332)
 have l334 := lq hb6 ge11
 refine leave18_fault has329 ?_
 intro W335 hE336 hb337 hk338
 exact ⟨_, res_tc Try.results16 rfl (load_errno hE336) rfl, ⟨_, by rw [e], by rw [e]; exact OwnB.nil _ _⟩, b333.trans (hb337.mono l334)⟩
end Go.Proofs.Ytjnphelfloiadaa
