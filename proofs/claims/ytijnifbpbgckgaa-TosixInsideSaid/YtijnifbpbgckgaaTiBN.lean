/-
  Lemmas and walks for the row of TosixInside (part 40 of 41).
-/
import Derived.Test.YtijnifbpbgckgaaTiAG
import Derived.Test.YtijnifbpbgckgaaTiBC
import Derived.Test.YtijnifbpbgckgaaTiBE
import Derived.Test.YtijnifbpbgckgaaTiBM
set_option linter.unusedVariables false
set_option linter.unusedSimpArgs false
namespace Go.Proofs.Ytijnifbpbgckgaa
open Go.RowKit Go.Shelf
attribute [local irreducible] wpList Code.wp Oper.wp wpOp wpAnyH

/-- a message without a body, and whether it has a meaning -/
def KindR (r : (Int × Int × Int) × Bool) (e : Ending) : Prop := ∃ a b c, e = .returned (.tuple #[.agg #[.int .u8 a, .int .u8 b, .int .u32 c, .slice none 0 0], .bool r.2]) ∧ (r.2 = true → r.1 = (a, b, c))
theorem KindR.mk {r : (Int × Int × Int) × Bool} {a b c : Int} {q : Bool} (h : r.2 = q) (h' : q = true → r.1 = (a, b, c)) : KindR r (.returned (.tuple #[.agg #[.int .u8 a, .int .u8 b, .int .u32 c, .slice none 0 0], .bool q])) := by
 subst h
 exact ⟨a, b, c, rfl, h'⟩

set_option maxRecDepth 100000 in
set_option maxHeartbeats 8000000 in
theorem rInside17_any (A : Option Addr) (n c : Nat) (l s t : List Int) (hE : E6ok s t) (w : World) (y : By w.heap.size w A n c l) :
  Calls Try.prog 18 #[.slice A n c, .agg (ends6 s t)] w fun e w' => TwoR (inside17 l s t) w.heap.size w' e ∧ Below w.heap.size w w' := by
 obtain ⟨D, hD⟩ : ∃ D, got4 true l = D := ⟨_, rfl⟩
 obtain ⟨E, hEr⟩ : ∃ E, pe4 true l = E := ⟨_, rfl⟩
 have sL := hE.sL
 have tL := hE.tL
 go_enter Try.func18, Try.ntmps18
 refine wp_sr ?_
 refine lz (ow_box 31 (.tmp 1) _ rfl rfl ?_)
 intro g1 W2 hg3 ge4 sz5 hb6
 have z7 := hb6.size
 simp only [lay]
 refine lv (.slice none 0 0) (by exact xa) ?_
 simp only [lay]
 refine lv (.int .i64 0) (by exact xa) ?_
 simp only [lay]
 refine wn ?_
 refine wp_sr ?_
 refine lv (.slice A n c) (by exact xm) ?_
 simp only [lay]
 have by8 := y.to hb6
 refine lz (ow_call (fun v w' => (∃ p, v = .tuple #[.agg (D.cells p), .int .i64 (pat4 E), .int .i64 E] ∧ Own4 w' W2.heap.size D p) ∧ Below W2.heap.size W2 w') (by exact xk Try.func56) (by have := rpart_x by8; rw [hD, hEr] at this; exact this) ?_)
 rintro _ W9 ⟨⟨p11, rfl, ho12⟩, hb10⟩
 have z13 := hb10.size
 have hr14 := ho12.rd
 have hO15 := ho12.opt
 have hO16 := ho12.body
 simp only [lay]
 refine lv (.tuple #[.agg (D.cells p11), .int .i64 (pat4 E), .int .i64 E]) (by exact xm) ?_
 simp only [lay]
 refine lv (.agg (D.cells p11)) (by exact xe) ?_
 simp only [lay]
 refine lv (.int .i64 (pat4 E)) (by exact xe) ?_
 simp only [lay]
 refine lv (.int .i64 E) (by exact xe) ?_
 simp only [lay]
 refine lz (oa #[.int .u8 0, .int .u16 0, .bool false, .bool false, .int .i64 0, .int .u8 0, .int .u8 0, .int .u8 0, .int .u8 0, .int .u8 0, .int .u8 0, .int .u8 0, .int .u8 0, .int .u8 0, .int .u8 0, .slice none 0 0, .slice none 0 0] ?_)
 intro g17 W18 hg19 ge20 sz21 hb22
 have z23 := hb22.size
 simp only [lay]
 refine lz (ow_st 27 (.tmp 6) (.tmp 17) g17 (D.cells p11) _ _ rfl (by exact rfl) (by exact rfl) hg19 (by kernel_rfl) rfl (by kernel_rfl) ?_)
 intro W24 hg25 bs26 hb27
 have z28 := hb27.size
 simp only [lay]
 refine lv (.int .i64 (pat4 E)) (by exact xa) ?_
 simp only [lay]
 refine lv (.int .i64 E) (by exact xa) ?_
 simp only [lay]
 refine wn ?_
 refine wp_seq ?_
 refine wp_sr ?_
 by_cases q29 : E = 0
 case pos =>
  subst q29
  have hO : of4 l = D := by rw [← hD, got4, if_pos hEr]
  obtain ⟨hsd0, hsd1, hbl, hof, hol⟩ := said17_rng y.rng hEr
  rw [hO] at hbl hof hol
  obtain ⟨h20, -⟩ := pe4_zero hEr
  have yl := y.len
  have t2 := getD_byte y.rng 2
  have t3 := getD_byte y.rng 3
  obtain ⟨SD, hSD⟩ : ∃ SD, said17 l = SD := ⟨_, rfl⟩
  have hsd : l.getD 2 0 * 256 + l.getD 3 0 - 20 - (D.ol.length : Int) = SD := by rw [← hSD, said17, tot4, hO]
  rw [hSD] at hsd0 hsd1
  refine wpList_cut 32 (fun a W => ∃ (b61 : Bool) (x30 x31 x32 x33 x34 x35 x36 x37 x38 x39 x40 x41 x42 x43 x44 x45 x46 x47 x48 x49 x50 x51 x52 x53 x54 x55 x56 x57 x58 x59 x60 : Value), none17 l = b61 ∧ a = ⟨#[.slice A n c, .agg (ends6 s t), undef, .pointer (some ⟨g1, 0, none⟩), .slice none 0 0, .int .i64 0, .pointer (some ⟨g17, 0, none⟩), .int .i64 (pat4 0), .int .i64 0, undef, undef, undef, undef, undef, .tuple #[.agg (D.cells p11), .int .i64 (pat4 0), .int .i64 0], .slice A n c, .tuple #[.agg (D.cells p11), .int .i64 (pat4 0), .int .i64 0], .agg (D.cells p11), .int .i64 (pat4 0), .int .i64 0, x30, x31, x32, x33, x34, x35, x36, x37, x38, x39, x40, x41, x42, x43, x44, x45, x46, x47, x48, x49, x50, x51, x52, x53, x54, x55, x56, x57, x58, x59, x60, .bool b61, undef, undef, undef, undef, undef, undef, undef, undef, undef, undef, undef, undef, undef, undef, undef, undef, undef, undef, undef, undef, undef, undef, undef, undef, undef, undef, undef, undef, undef, undef, undef, undef, undef, undef, undef, undef, undef, undef, undef, undef, undef, undef, undef, undef, undef, undef, undef, undef, undef], []⟩ ∧ W24 = W) (fun hk62 => ?_) ?_
  case refine_1 =>
   refine lv (.int .i64 0) (by exact xm) ?_
   simp only [lay]
   refine lv (.bool false) (by exact neq_int_eq (by exact rfl) (by exact rfl) (by exact rfl) (by decide)) ?_
   simp only [lay]
   refine lv (.bool false) (by exact xm) ?_
   simp only [lay]
   refine lv (.pointer (some ⟨g17, 4, none⟩)) (by exact xf 4 0 Try.underlying27) ?_
   simp only [lay]
   refine lv (.int .i64 D.off) (by exact xc Try.underlying3 (hg25.cell 4 rfl)) ?_
   simp only [lay]
   by_cases q63 : D.off = 0
   case pos =>
    refine lv (.bool true) (by exact yq) ?_
    simp only [lay]
    refine lv (.bool true) (by exact xm) ?_
    simp only [lay]
    refine lv (.pointer (some ⟨g17, 6, none⟩)) (by exact xf 6 0 Try.underlying27) ?_
    simp only [lay]
    refine lv (.int .u8 D.proto) (by exact xc Try.underlying5 (hg25.cell 6 rfl)) ?_
    simp only [lay]
    by_cases q64 : D.proto = 1
    case pos =>
     refine lv (.bool true) (by exact yq) ?_
     simp only [lay]
     refine lv (.bool true) (by exact xp (b := true)) ?_
     simp only [lay]
     refine lv (.bool true) (by exact xm) ?_
     simp only [lay]
     refine lv (.pointer (some ⟨g17, 16, none⟩)) (by exact xf 16 0 Try.underlying27) ?_
     simp only [lay]
     refine lv (.slice p11.bA D.bl.length p11.bc) (by exact xc Try.underlying25 (hg25.cell 16 rfl)) ?_
     simp only [lay]
     refine lv (.int .i64 (D.bl.length : Int)) (by exact xz Try.underlying25) ?_
     simp only [lay]
     by_cases q65 : (D.bl.length : Int) > 0
     case pos =>
      refine lv (.bool true) (by exact ex_gtr (by exact rfl) (by exact rfl) (by exact rfl) (decide_eq_true (by first | assumption | omega | decide))) ?_
      simp only [lay]
      refine lv (.bool true) (by exact xp (b := true)) ?_
      simp only [lay]
      refine lv (.bool true) (by exact xm) ?_
      simp only [lay]
      refine lv (.pointer (some ⟨g17, 16, none⟩)) (by exact xf 16 0 Try.underlying27) ?_
      simp only [lay]
      refine lv (.slice p11.bA D.bl.length p11.bc) (by exact xc Try.underlying25 (hg25.cell 16 rfl)) ?_
      simp only [lay]
      have l66 : W9.heap.size ≤ g17 := Nat.le_of_eq ge20.symm
      have b67 := hb22.trans (hb27.mono l66)
      have own68 := hO16.to b67
      have y69 := (own_byS own68)
      obtain ⟨b70, o71, hA72⟩ := y69.form (k := 0) (by omega)
      refine lv (.pointer (some ⟨b70, o71 + 0, none⟩)) (by exact xi 0 Try.underlying25 hA72) ?_
      simp only [lay]
      refine lv (.int .u8 (D.bl.getD 0 0)) (by exact xc Try.underlying5 (y69.atE (k := 0) hA72 (by omega))) ?_
      simp only [lay]
      by_cases q73 : D.bl.getD 0 0 = 0
      case pos =>
       refine lv (.bool false) (by exact neq_int_eq (by exact rfl) (by exact rfl) (by exact rfl) (by first | assumption | omega)) ?_
       simp only [lay]
       refine lv (.bool false) (by exact xp (b := true)) ?_
       simp only [lay]
       refine lv (.bool false) (by exact xm) ?_
       simp only [lay]
       refine lzn ?_
       simp only [lay]
       refine lzn ?_
       simp only [lay]
       refine lzn ?_
       simp only [lay]
       refine lzn ?_
       simp only [lay]
       refine lzn ?_
       simp only [lay]
       refine lv (.bool false) (by exact xp (b := false)) ?_
       simp only [lay]
       refine lv (.bool false) (by exact xp (b := false)) ?_
       simp only [lay]
       exact hk62 _ _ ⟨false, _, _, _, _, _, _, _, _, _, _, _, _, _, _, _, _, _, _, _, _, _, _, _, _, _, _, _, _, _, _, _, (by cases hn : none17 l with | false => rfl | true => exfalso; have hx := none17_iff.1 hn; rw [hO, hEr] at hx; omega), rfl, rfl⟩
      refine lv (.bool true) (by exact neq_int_ne (by exact rfl) (by exact rfl) (by exact rfl) (by first | assumption | omega)) ?_
      simp only [lay]
      refine lv (.bool true) (by exact xp (b := true)) ?_
      simp only [lay]
      refine lv (.bool true) (by exact xm) ?_
      simp only [lay]
      refine lv (.pointer (some ⟨g17, 16, none⟩)) (by exact xf 16 0 Try.underlying27) ?_
      simp only [lay]
      refine lv (.slice p11.bA D.bl.length p11.bc) (by exact xc Try.underlying25 (hg25.cell 16 rfl)) ?_
      simp only [lay]
      have y74 := (own_byS own68)
      obtain ⟨b75, o76, hA77⟩ := y74.form (k := 0) (by omega)
      refine lv (.pointer (some ⟨b75, o76 + 0, none⟩)) (by exact xi 0 Try.underlying25 hA77) ?_
      simp only [lay]
      refine lv (.int .u8 (D.bl.getD 0 0)) (by exact xc Try.underlying5 (y74.atE (k := 0) hA77 (by omega))) ?_
      simp only [lay]
      by_cases q78 : D.bl.getD 0 0 = 8
      case pos =>
       refine lv (.bool false) (by exact neq_int_eq (by exact rfl) (by exact rfl) (by exact rfl) (by first | assumption | omega)) ?_
       simp only [lay]
       refine lv (.bool false) (by exact xp (b := true)) ?_
       simp only [lay]
       refine lv (.bool false) (by exact xp (b := false)) ?_
       simp only [lay]
       exact hk62 _ _ ⟨false, _, _, _, _, _, _, _, _, _, _, _, _, _, _, _, _, _, _, _, _, _, _, _, _, _, _, _, _, _, _, _, (by cases hn : none17 l with | false => rfl | true => exfalso; have hx := none17_iff.1 hn; rw [hO, hEr] at hx; omega), rfl, rfl⟩
      refine lv (.bool true) (by exact neq_int_ne (by exact rfl) (by exact rfl) (by exact rfl) (by first | assumption | omega)) ?_
      simp only [lay]
      refine lv (.bool true) (by exact xp (b := true)) ?_
      simp only [lay]
      refine lv (.bool true) (by exact xp (b := false)) ?_
      simp only [lay]
      exact hk62 _ _ ⟨true, _, _, _, _, _, _, _, _, _, _, _, _, _, _, _, _, _, _, _, _, _, _, _, _, _, _, _, _, _, _, _, none17_iff.2 (by rw [hO, hEr]; omega), rfl, rfl⟩
     refine lv (.bool false) (by exact ex_gtr (by exact rfl) (by exact rfl) (by exact rfl) (decide_eq_false (by first | assumption | omega | decide))) ?_
     simp only [lay]
     refine lv (.bool false) (by exact xp (b := true)) ?_
     simp only [lay]
     refine lv (.bool false) (by exact xm) ?_
     simp only [lay]
     refine lzn ?_
     simp only [lay]
     refine lzn ?_
     simp only [lay]
     refine lzn ?_
     simp only [lay]
     refine lzn ?_
     simp only [lay]
     refine lzn ?_
     simp only [lay]
     refine lv (.bool false) (by exact xp (b := false)) ?_
     simp only [lay]
     refine lv (.bool false) (by exact xm) ?_
     simp only [lay]
     refine lzn ?_
     simp only [lay]
     refine lzn ?_
     simp only [lay]
     refine lzn ?_
     simp only [lay]
     refine lzn ?_
     simp only [lay]
     refine lzn ?_
     simp only [lay]
     refine lv (.bool false) (by exact xp (b := false)) ?_
     simp only [lay]
     refine lv (.bool false) (by exact xp (b := false)) ?_
     simp only [lay]
     exact hk62 _ _ ⟨false, _, _, _, _, _, _, _, _, _, _, _, _, _, _, _, _, _, _, _, _, _, _, _, _, _, _, _, _, _, _, _, (by cases hn : none17 l with | false => rfl | true => exfalso; have hx := none17_iff.1 hn; rw [hO, hEr] at hx; omega), rfl, rfl⟩
    refine lv (.bool false) (by exact yqn) ?_
    simp only [lay]
    refine lv (.bool false) (by exact xp (b := true)) ?_
    simp only [lay]
    refine lv (.bool false) (by exact xm) ?_
    simp only [lay]
    refine lzn ?_
    simp only [lay]
    refine lzn ?_
    simp only [lay]
    refine lzn ?_
    simp only [lay]
    refine lzn ?_
    simp only [lay]
    refine lv (.bool false) (by exact xp (b := false)) ?_
    simp only [lay]
    refine lv (.bool false) (by exact xm) ?_
    simp only [lay]
    refine lzn ?_
    simp only [lay]
    refine lzn ?_
    simp only [lay]
    refine lzn ?_
    simp only [lay]
    refine lzn ?_
    simp only [lay]
    refine lzn ?_
    simp only [lay]
    refine lv (.bool false) (by exact xp (b := false)) ?_
    simp only [lay]
    refine lv (.bool false) (by exact xm) ?_
    simp only [lay]
    refine lzn ?_
    simp only [lay]
    refine lzn ?_
    simp only [lay]
    refine lzn ?_
    simp only [lay]
    refine lzn ?_
    simp only [lay]
    refine lzn ?_
    simp only [lay]
    refine lv (.bool false) (by exact xp (b := false)) ?_
    simp only [lay]
    refine lv (.bool false) (by exact xp (b := false)) ?_
    simp only [lay]
    exact hk62 _ _ ⟨false, _, _, _, _, _, _, _, _, _, _, _, _, _, _, _, _, _, _, _, _, _, _, _, _, _, _, _, _, _, _, _, (by cases hn : none17 l with | false => rfl | true => exfalso; have hx := none17_iff.1 hn; rw [hO, hEr] at hx; omega), rfl, rfl⟩
   refine lv (.bool false) (by exact yqn) ?_
   simp only [lay]
   refine lv (.bool false) (by exact xm) ?_
   simp only [lay]
   refine lzn ?_
   simp only [lay]
   refine lzn ?_
   simp only [lay]
   refine lzn ?_
   simp only [lay]
   refine lv (.bool false) (by exact xp (b := false)) ?_
   simp only [lay]
   refine lv (.bool false) (by exact xm) ?_
   simp only [lay]
   refine lzn ?_
   simp only [lay]
   refine lzn ?_
   simp only [lay]
   refine lzn ?_
   simp only [lay]
   refine lzn ?_
   simp only [lay]
   refine lv (.bool false) (by exact xp (b := false)) ?_
   simp only [lay]
   refine lv (.bool false) (by exact xm) ?_
   simp only [lay]
   refine lzn ?_
   simp only [lay]
   refine lzn ?_
   simp only [lay]
   refine lzn ?_
   simp only [lay]
   refine lzn ?_
   simp only [lay]
   refine lzn ?_
   simp only [lay]
   refine lv (.bool false) (by exact xp (b := false)) ?_
   simp only [lay]
   refine lv (.bool false) (by exact xm) ?_
   simp only [lay]
   refine lzn ?_
   simp only [lay]
   refine lzn ?_
   simp only [lay]
   refine lzn ?_
   simp only [lay]
   refine lzn ?_
   simp only [lay]
   refine lzn ?_
   simp only [lay]
   refine lv (.bool false) (by exact xp (b := false)) ?_
   simp only [lay]
   refine lv (.bool false) (by exact xp (b := false)) ?_
   simp only [lay]
   exact hk62 _ _ ⟨false, _, _, _, _, _, _, _, _, _, _, _, _, _, _, _, _, _, _, _, _, _, _, _, _, _, _, _, _, _, _, _, (by cases hn : none17 l with | false => rfl | true => exfalso; have hx := none17_iff.1 hn; rw [hO, hEr] at hx; omega), rfl, rfl⟩
  rintro _ _ ⟨b61, x30, x31, x32, x33, x34, x35, x36, x37, x38, x39, x40, x41, x42, x43, x44, x45, x46, x47, x48, x49, x50, x51, x52, x53, x54, x55, x56, x57, x58, x59, x60, hnn, rfl, rfl⟩
  simp only [List.drop_succ_cons, List.drop_zero]
  cases b61
  case false =>
   refine wn ?_
   refine wp_cond_false (by exact rfl) ?_
   refine wp_skip ?_
   change Code.wp _ _ _ _ _
   refine wp_seq ?_
   refine wp_sr ?_
   refine lv (.pointer (some ⟨g17, 6, none⟩)) (by exact xf 6 0 Try.underlying27) ?_
   simp only [lay]
   refine lv (.int .u8 D.proto) (by exact xc Try.underlying5 (hg25.cell 6 rfl)) ?_
   simp only [lay]
   refine lz (ow_same (.bool (wrong17 D.proto)) (by exact xk Try.func45) (rwrong17_any D.proto W24) ?_)
   simp only [lay]
   refine wn ?_
   by_cases q79 : wrong17 D.proto = true
   case pos =>
    rw [q79]
    refine wp_cond_true (by exact rfl) ?_
    refine wp_sr ?_
    refine lv (.slice none 0 0) (by exact xa) ?_
    simp only [lay]
    refine lv (.int .i64 171) (by exact xa) ?_
    simp only [lay]
    refine wn ?_
    refine wp_ret ?_
    try simp only [Exit.then]
    have e := inside17_wrong (s := s) (t := t) hnn (by rw [hO]; assumption)
    have b80 := bt hb6 hb10
    have b81 := bt b80 hb22
    have l82 := lq b80 ge20
    have b83 := b81.trans (hb27.mono l82)
    exact bodyPost_ret (res_tt Try.results18 rfl rfl) rfl ⟨TwoR.ok e (OwnB.nil _ _), b83⟩
   replace q79 := eq_false_of_ne_true q79
   rw [q79]
   have hck : (head17 D s t []).check = 0 := by rw [head17_check hof q79, if_neg (by simp only [List.length_nil]; split <;> omega)]
   have hwr : (head17 D s t []).write = (head17 D s t []).bytes := by rw [D6.write, if_pos hck]
   have hlen := head17_len ho12.ok hE
   refine wp_cond_false (by exact rfl) ?_
   refine wp_skip ?_
   change Code.wp _ _ _ _ _
   refine wp_seq ?_
   refine rg_drawn W24.heap.size (by kernel_rfl) (Nat.le_refl _) ?_
   intro W84 hb85 hs86 hS87
   have z88 := hb85.size
   refine te 0 (.slice A n c) hS87 rfl (by intro _ _; exact xm) ?_
   simp only [lay]
   obtain ⟨b89, o90, hA91⟩ := y.form (k := 2) (by omega)
   refine te 1 (.pointer (some ⟨b89, o90 + 2, none⟩)) hS87 rfl (by intro _ _; exact xi 2 Try.underlying25 hA91) ?_
   simp only [lay]
   have b92 := bt hb6 hb10
   have b93 := bt b92 hb22
   have l94 := lq b92 ge20
   have b95 := b93.trans (hb27.mono l94)
   have by96 := y.to b95
   refine te 2 (.int .u8 (l.getD 2 0)) hS87 rfl (by intro _ h; exact xc Try.underlying5 ((by96.to h).atE (k := 2) hA91 (by omega))) ?_
   simp only [lay]
   refine te 3 (.int .i64 (l.getD 2 0)) hS87 rfl (by intro _ _; exact xv (conv_i64 5 3 .u8 (l.getD 2 0) (by kernel_rfl) Try.underlying3 (in_rng6 (getD_byte y.rng 2)) _)) ?_
   simp only [lay]
   refine te 4 (.int .i64 ((l.getD 2 0) * 256)) hS87 rfl (by intro _ _; exact xb (b_mul _ ((l.getD 2 0) * 256) rfl (by have := (getD_byte y.rng 2); omega) _)) ?_
   simp only [lay]
   refine te 5 (.slice A n c) hS87 rfl (by intro _ _; exact xm) ?_
   simp only [lay]
   refine te 6 (.pointer (some ⟨b89, o90 + 3, none⟩)) hS87 rfl (by intro _ _; exact xi 3 Try.underlying25 hA91) ?_
   simp only [lay]
   refine te 7 (.int .u8 (l.getD 3 0)) hS87 rfl (by intro _ h; exact xc Try.underlying5 ((by96.to h).atE (k := 3) hA91 (by omega))) ?_
   simp only [lay]
   refine te 8 (.int .i64 (l.getD 3 0)) hS87 rfl (by intro _ _; exact xv (conv_i64 5 3 .u8 (l.getD 3 0) (by kernel_rfl) Try.underlying3 (in_rng6 (getD_byte y.rng 3)) _)) ?_
   simp only [lay]
   refine te 9 (.int .i64 ((l.getD 2 0) * 256 + l.getD 3 0)) hS87 rfl (by intro _ _; exact xb (b_add _ ((l.getD 2 0) * 256 + l.getD 3 0) rfl (by have := (getD_byte y.rng 2); have := (getD_byte y.rng 3); omega) _)) ?_
   simp only [lay]
   refine te 10 (.int .i64 ((l.getD 2 0) * 256 + l.getD 3 0 - 20)) hS87 rfl (by intro _ _; exact xb (b_sub _ ((l.getD 2 0) * 256 + l.getD 3 0 - 20) rfl (by omega) _)) ?_
   simp only [lay]
   refine te 11 (.pointer (some ⟨g17, 15, none⟩)) hS87 rfl (by intro _ _; exact xf 15 0 Try.underlying27) ?_
   simp only [lay]
   refine te 12 (.slice p11.oA D.ol.length p11.oc) hS87 rfl (by intro _ h; exact xc Try.underlying25 ((hg25.to h).cell 15 rfl)) ?_
   simp only [lay]
   refine te 13 (.int .i64 (D.ol.length : Int)) hS87 rfl (by intro _ _; exact xz Try.underlying25) ?_
   simp only [lay]
   refine te 14 (.int .i64 SD) hS87 rfl (by intro _ _; exact xb (b_sub _ SD hsd (by omega) _)) ?_
   simp only [lay]
   refine te 15 (.int .i64 SD) hS87 rfl (by intro _ _; exact xa) ?_
   simp only [lay]
   refine wpAnyH_done (by kernel_rfl) ?_ _
   change Code.wp _ _ _ _ _
   refine wp_sr ?_
   have has97 := hg25.to hb85
   refine lv (.agg (D.cells p11)) (by exact xo (has97.load (P := Try.prog) 27 Try.underlying27 rfl (by kernel_rfl))) ?_
   simp only [lay]
   have b98 := bt hb10 hb22
   have l99 := lq hb10 ge20
   have b100 := b98.trans (hb27.mono l99)
   have b101 := bt b100 hb85
   have has102 := hg3.to b101
   refine lv (.agg (ends6 s t)) (by exact xo (has102.load (P := Try.prog) 31 Try.underlying31 rfl (by kernel_rfl))) ?_
   simp only [lay]
   refine lz (ow_call (fun v w' => v = .agg ((head17 D s t []).cells (pB6 none 0)) ∧ Below W84.heap.size W84 w') (by exact xk Try.func48) ((rheader_any D ho12.ok _ s t [] none 0 W84).mono fun e w' h => ⟨_, h.1, rfl, h.2⟩) ?_)
   rintro _ W103 ⟨rfl, hb104⟩
   have z105 := hb104.size
   simp only [lay]
   refine lz (oa #[.int .u8 0, .int .u32 0, .int .u8 0, .int .u8 0, .int .u8 0, .int .u8 0, .int .u8 0, .int .u8 0, .int .u8 0, .int .u8 0, .int .u8 0, .int .u8 0, .int .u8 0, .int .u8 0, .int .u8 0, .int .u8 0, .int .u8 0, .int .u8 0, .int .u8 0, .int .u8 0, .int .u8 0, .int .u8 0, .int .u8 0, .int .u8 0, .int .u8 0, .int .u8 0, .int .u8 0, .int .u8 0, .int .u8 0, .int .u8 0, .int .u8 0, .int .u8 0, .int .u8 0, .int .u8 0, .int .u8 0, .slice none 0 0, .bool false, .int .u32 0, .int .i64 0, .bool false, .int .u8 0, .slice none 0 0] ?_)
   intro g106 W107 hg108 ge109 sz110 hb111
   have z112 := hb111.size
   simp only [lay]
   refine lz (ow_st 36 (.tmp 10) (.tmp 72) g106 ((head17 D s t []).cells (pB6 none 0)) _ _ rfl (by exact rfl) (by exact rfl) hg108 (by kernel_rfl) rfl (by kernel_rfl) ?_)
   intro W113 hg114 bs115 hb116
   have z117 := hb116.size
   simp only [lay]
   refine wn ?_
   refine wp_sr ?_
   refine lv (.agg ((head17 D s t []).cells (pB6 none 0))) (by exact xo (hg114.load (P := Try.prog) 36 Try.underlying36 rfl (by kernel_rfl))) ?_
   simp only [lay]
   refine lz (ow_call (fun v w' => (∃ u, v = .tuple #[u, .int .i64 0] ∧ OwnB w' W113.heap.size u (head17 D s t []).bytes) ∧ Below W113.heap.size W113 w') (by exact xk Try.func57) (by have := rwrite6_x (w := W113) (head17_rd0 ho12.ok hE); rw [hck, hwr] at this; exact this) ?_)
   rintro _ W118 ⟨⟨u120, rfl, hO121⟩, hb119⟩
   have z122 := hb119.size
   obtain ⟨A123, c124, rfl, y125⟩ := hO121.by_
   simp only [lay]
   refine lv (.tuple #[.slice A123 (((head17 D s t []).bytes).length) c124, .int .i64 0]) (by exact xm) ?_
   simp only [lay]
   refine lv (.slice A123 (((head17 D s t []).bytes).length) c124) (by exact xe) ?_
   simp only [lay]
   refine lv (.int .i64 0) (by exact xe) ?_
   simp only [lay]
   refine lv (.slice A123 (((head17 D s t []).bytes).length) c124) (by exact xa) ?_
   simp only [lay]
   refine lv (.int .i64 0) (by exact xa) ?_
   simp only [lay]
   refine wn ?_
   refine wp_sr ?_
   refine lv (.int .i64 SD) (by exact xm) ?_
   simp only [lay]
   refine lv (.slice A123 (((head17 D s t []).bytes).length) c124) (by exact xm) ?_
   simp only [lay]
   refine lv (.int .i64 (((head17 D s t []).bytes).length : Int)) (by exact xz Try.underlying25) ?_
   simp only [lay]
   refine lv (.int .i64 (SD + (((head17 D s t []).bytes).length : Int))) (by exact xb (b_add _ (SD + (((head17 D s t []).bytes).length : Int)) rfl (by omega) _)) ?_
   simp only [lay]
   refine lv (.int .i64 (SD + (((head17 D s t []).bytes).length : Int) - 40)) (by exact xb (b_sub _ (SD + (((head17 D s t []).bytes).length : Int) - 40) rfl (by omega) _)) ?_
   simp only [lay]
   refine lv (.int .i64 (SD + (((head17 D s t []).bytes).length : Int) - 40)) (by exact xa) ?_
   simp only [lay]
   refine wn ?_
   refine wp_seq ?_
   refine wp_sr ?_
   refine lv (.int .i64 (SD + (((head17 D s t []).bytes).length : Int) - 40)) (by exact xm) ?_
   simp only [lay]
   by_cases q126 : SD + (((head17 D s t []).bytes).length : Int) - 40 > 65535
   case pos =>
    refine lv (.bool true) (by exact ex_gtr (by exact rfl) (by exact rfl) (by exact rfl) (decide_eq_true (by first | assumption | omega | decide))) ?_
    simp only [lay]
    refine wn ?_
    refine wp_cond_true (by exact rfl) ?_
    refine wp_region_lit ?_
    refine lv (.int .i64 65535) (by exact xa) ?_
    simp only [lay]
    refine wn ?_
    refine wp_sr ?_
    refine lv (.slice A123 (((head17 D s t []).bytes).length) c124) (by exact xm) ?_
    simp only [lay]
    refine lv (.slice A123 (((head17 D s t []).bytes).length) c124) (by exact xm) ?_
    simp only [lay]
    refine lv (.int .i64 65535) (by exact xm) ?_
    simp only [lay]
    refine lv (.int .i64 (65535 / 256)) (by exact xb (b_quo _ (65535 / 256) rfl (by omega) (by decide) _)) ?_
    simp only [lay]
    refine lv (.int .u8 (65535 / 256)) (by exact xv (conv_u8' 3 5 .i64 (65535 / 256) (by kernel_rfl) Try.underlying5 (by omega) _)) ?_
    simp only [lay]
    refine lv (.int .i64 65535) (by exact xm) ?_
    simp only [lay]
    refine lv (.int .i64 (65535 % 256)) (by exact xb (b_rem _ (65535 % 256) rfl (by omega) (by decide) _)) ?_
    simp only [lay]
    refine lv (.int .u8 (65535 % 256)) (by exact xv (conv_u8' 3 5 .i64 (65535 % 256) (by kernel_rfl) Try.underlying5 (by omega) _)) ?_
    simp only [lay]
    obtain ⟨g127, rfl, h128, h129⟩ := own_form hO121 (by first | omega | simp [D4.src])
    refine lv (.pointer (some ⟨g127, 0 + 4, none⟩)) (by exact ex_index (k := 4) (by exact rfl) Try.underlying25 (by kernel_rfl) (by exact rfl) (by exact rfl) (show 4 < ((head17 D s t []).bytes).length by omega)) ?_
    simp only [lay]
    refine lz (ow_stB 5 (.tmp 93) (.tmp 89) g127 _ W113.heap.size (((head17 D s t []).bytes).length) c124 (65535 / 256) _ rfl (by exact rfl) (by exact rfl) (by kernel_rfl) hO121 (by omega) (own_len hO121) (by omega) ?_)
    intro W130 hO131 bs132 hb133
    have z134 := hb133.size
    simp only [lay]
    refine lv (.pointer (some ⟨g127, 0 + 5, none⟩)) (by exact ex_index (k := 5) (by exact rfl) Try.underlying25 (by kernel_rfl) (by exact rfl) (by exact rfl) (show 5 < ((head17 D s t []).bytes).length by omega)) ?_
    simp only [lay]
    refine lz (ow_stB 5 (.tmp 94) (.tmp 92) g127 _ W113.heap.size (((head17 D s t []).bytes).length) c124 (65535 % 256) _ rfl (by exact rfl) (by exact rfl) (by kernel_rfl) hO131 (by omega) (own_len hO131) (by omega) ?_)
    intro W135 hO136 bs137 hb138
    have z139 := hb138.size
    simp only [lay]
    refine wn ?_
    refine wp_sr ?_
    refine lv (.slice (some ⟨g127, 0, none⟩) (((head17 D s t []).bytes).length) c124) (by exact xm) ?_
    simp only [lay]
    have b140 := bt hb85 hb104
    have b141 := bt b140 hb111
    have l142 := lq b140 ge109
    have b143 := b141.trans (hb116.mono l142)
    have b144 := bt b143 hb119
    have l145 := Nat.le_trans b143.size h128
    have b146 := b144.trans (hb133.mono l145)
    have b147 := b146.trans (hb138.mono l145)
    have has148 := hg25.to b147
    refine lv (.agg (D.cells p11)) (by exact xo (has148.load (P := Try.prog) 27 Try.underlying27 rfl (by kernel_rfl))) ?_
    simp only [lay]
    have b149 := bt b101 hb104
    have b150 := bt b149 hb111
    have l151 := lq b149 ge109
    have b152 := b150.trans (hb116.mono l151)
    have b153 := bt b152 hb119
    have l154 := Nat.le_trans b152.size h128
    have b155 := b153.trans (hb133.mono l154)
    have b156 := b155.trans (hb138.mono l154)
    have has157 := hg3.to b156
    refine lv (.agg (ends6 s t)) (by exact xo (has157.load (P := Try.prog) 31 Try.underlying31 rfl (by kernel_rfl))) ?_
    simp only [lay]
    refine lv (.int .i64 SD) (by exact xm) ?_
    simp only [lay]
    have l158 : W9.heap.size ≤ g17 := Nat.le_of_eq ge20.symm
    have b159 := hb22.trans (hb27.mono l158)
    have b160 := bt b159 hb85
    have b161 := bt b160 hb104
    have b162 := bt b161 hb111
    have l163 := lq b161 ge109
    have b164 := b162.trans (hb116.mono l163)
    have b165 := bt b164 hb119
    have l166 := Nat.le_trans b164.size h128
    have b167 := b165.trans (hb133.mono l166)
    have b168 := b167.trans (hb138.mono l166)
    have rd169 := hr14.to b168
    refine lz (ow_call (fun v w' => OwnB w' W135.heap.size v (told17 D s t SD) ∧ Below W135.heap.size W135 w') (by exact xk Try.func58) (rinside17_any _ _ _ _ hE SD (by omega) W135 rd169 hbl) ?_)
    rintro v172 W170 ⟨hO173, hb171⟩
    have z174 := hb171.size
    obtain ⟨A175, c176, rfl, y177⟩ := hO173.by_
    simp only [lay]
    have own183 := hO136.to hb171
    have b184 := hb119.trans (hb133.mono h128)
    have b185 := b184.trans (hb138.mono h128)
    have b186 := bt b185 hb171
    refine lz (ow_app (.tmp 95) (.tmp 99) 25 rfl Try.underlying25 info8 _ _ ((((head17 D s t []).bytes).set (0 + 4) (65535 / 256)).set (0 + 5) (65535 % 256)) rfl own183 _ _ _ _ (told17 D s t SD) rfl (own_byS hO173) (by simp only [List.length_set]; have := told17_len D s t SD; omega) b186.size ?_)
    intro v182 W178 hO179 hb180 hgr181
    have z187 := hb180.size
    obtain ⟨A188, c189, rfl, y190⟩ := hO179.by_
    simp only [lay]
    refine lv (.slice A188 (((((head17 D s t []).bytes).set (0 + 4) (65535 / 256)).set (0 + 5) (65535 % 256) ++ (told17 D s t SD)).length) c189) (by exact xa) ?_
    simp only [lay]
    refine lv (.int .i64 0) (by exact xa) ?_
    simp only [lay]
    refine wn ?_
    refine wp_ret ?_
    try simp only [Exit.then]
    have hNN : min (SD + ((head17 D s t []).bytes.length - 40)) 65535 = 65535 := by omega
    have e : inside17 l s t = ((((head17 D s t []).bytes).set (0 + 4) (65535 / 256)).set (0 + 5) (65535 % 256) ++ (told17 D s t SD), 0) := by
     rw [inside17_ok hO hnn (by assumption), hSD, hNN]
     rfl
    have b191 := bt b95 hb85
    have b192 := bt b191 hb104
    have b193 := bt b192 hb111
    have l194 := lq b192 ge109
    have b195 := b193.trans (hb116.mono l194)
    have b196 := bt b195 hb119
    have l197 := Nat.le_trans b195.size h128
    have b198 := b196.trans (hb133.mono l197)
    have b199 := b198.trans (hb138.mono l197)
    have b200 := bt b199 hb171
    have l201 := Nat.le_trans b195.size (Nat.le_refl _)
    have b202 := b200.trans (hb180.mono l201)
    exact bodyPost_ret (res_tt Try.results18 rfl rfl) rfl ⟨TwoR.ok e (hO179.more b195.size), b202⟩
   refine lv (.bool false) (by exact ex_gtr (by exact rfl) (by exact rfl) (by exact rfl) (decide_eq_false (by first | assumption | omega | decide))) ?_
   simp only [lay]
   refine wn ?_
   refine wp_cond_false (by exact rfl) ?_
   refine wp_skip ?_
   change Code.wp _ _ _ _ _
   refine wp_sr ?_
   refine lv (.slice A123 (((head17 D s t []).bytes).length) c124) (by exact xm) ?_
   simp only [lay]
   refine lv (.slice A123 (((head17 D s t []).bytes).length) c124) (by exact xm) ?_
   simp only [lay]
   refine lv (.int .i64 (SD + (((head17 D s t []).bytes).length : Int) - 40)) (by exact xm) ?_
   simp only [lay]
   refine lv (.int .i64 ((SD + (((head17 D s t []).bytes).length : Int) - 40) / 256)) (by exact xb (b_quo _ ((SD + (((head17 D s t []).bytes).length : Int) - 40) / 256) rfl (by omega) (by decide) _)) ?_
   simp only [lay]
   refine lv (.int .u8 ((SD + (((head17 D s t []).bytes).length : Int) - 40) / 256)) (by exact xv (conv_u8' 3 5 .i64 ((SD + (((head17 D s t []).bytes).length : Int) - 40) / 256) (by kernel_rfl) Try.underlying5 (by omega) _)) ?_
   simp only [lay]
   refine lv (.int .i64 (SD + (((head17 D s t []).bytes).length : Int) - 40)) (by exact xm) ?_
   simp only [lay]
   refine lv (.int .i64 ((SD + (((head17 D s t []).bytes).length : Int) - 40) % 256)) (by exact xb (b_rem _ ((SD + (((head17 D s t []).bytes).length : Int) - 40) % 256) rfl (by omega) (by decide) _)) ?_
   simp only [lay]
   refine lv (.int .u8 ((SD + (((head17 D s t []).bytes).length : Int) - 40) % 256)) (by exact xv (conv_u8' 3 5 .i64 ((SD + (((head17 D s t []).bytes).length : Int) - 40) % 256) (by kernel_rfl) Try.underlying5 (by omega) _)) ?_
   simp only [lay]
   obtain ⟨g203, rfl, h204, h205⟩ := own_form hO121 (by first | omega | simp [D4.src])
   refine lv (.pointer (some ⟨g203, 0 + 4, none⟩)) (by exact ex_index (k := 4) (by exact rfl) Try.underlying25 (by kernel_rfl) (by exact rfl) (by exact rfl) (show 4 < ((head17 D s t []).bytes).length by omega)) ?_
   simp only [lay]
   refine lz (ow_stB 5 (.tmp 93) (.tmp 89) g203 _ W113.heap.size (((head17 D s t []).bytes).length) c124 ((SD + (((head17 D s t []).bytes).length : Int) - 40) / 256) _ rfl (by exact rfl) (by exact rfl) (by kernel_rfl) hO121 (by omega) (own_len hO121) (by omega) ?_)
   intro W206 hO207 bs208 hb209
   have z210 := hb209.size
   simp only [lay]
   refine lv (.pointer (some ⟨g203, 0 + 5, none⟩)) (by exact ex_index (k := 5) (by exact rfl) Try.underlying25 (by kernel_rfl) (by exact rfl) (by exact rfl) (show 5 < ((head17 D s t []).bytes).length by omega)) ?_
   simp only [lay]
   refine lz (ow_stB 5 (.tmp 94) (.tmp 92) g203 _ W113.heap.size (((head17 D s t []).bytes).length) c124 ((SD + (((head17 D s t []).bytes).length : Int) - 40) % 256) _ rfl (by exact rfl) (by exact rfl) (by kernel_rfl) hO207 (by omega) (own_len hO207) (by omega) ?_)
   intro W211 hO212 bs213 hb214
   have z215 := hb214.size
   simp only [lay]
   refine wn ?_
   refine wp_sr ?_
   refine lv (.slice (some ⟨g203, 0, none⟩) (((head17 D s t []).bytes).length) c124) (by exact xm) ?_
   simp only [lay]
   have b216 := bt hb85 hb104
   have b217 := bt b216 hb111
   have l218 := lq b216 ge109
   have b219 := b217.trans (hb116.mono l218)
   have b220 := bt b219 hb119
   have l221 := Nat.le_trans b219.size h204
   have b222 := b220.trans (hb209.mono l221)
   have b223 := b222.trans (hb214.mono l221)
   have has224 := hg25.to b223
   refine lv (.agg (D.cells p11)) (by exact xo (has224.load (P := Try.prog) 27 Try.underlying27 rfl (by kernel_rfl))) ?_
   simp only [lay]
   have b225 := bt b101 hb104
   have b226 := bt b225 hb111
   have l227 := lq b225 ge109
   have b228 := b226.trans (hb116.mono l227)
   have b229 := bt b228 hb119
   have l230 := Nat.le_trans b228.size h204
   have b231 := b229.trans (hb209.mono l230)
   have b232 := b231.trans (hb214.mono l230)
   have has233 := hg3.to b232
   refine lv (.agg (ends6 s t)) (by exact xo (has233.load (P := Try.prog) 31 Try.underlying31 rfl (by kernel_rfl))) ?_
   simp only [lay]
   refine lv (.int .i64 SD) (by exact xm) ?_
   simp only [lay]
   have l234 : W9.heap.size ≤ g17 := Nat.le_of_eq ge20.symm
   have b235 := hb22.trans (hb27.mono l234)
   have b236 := bt b235 hb85
   have b237 := bt b236 hb104
   have b238 := bt b237 hb111
   have l239 := lq b237 ge109
   have b240 := b238.trans (hb116.mono l239)
   have b241 := bt b240 hb119
   have l242 := Nat.le_trans b240.size h204
   have b243 := b241.trans (hb209.mono l242)
   have b244 := b243.trans (hb214.mono l242)
   have rd245 := hr14.to b244
   refine lz (ow_call (fun v w' => OwnB w' W211.heap.size v (told17 D s t SD) ∧ Below W211.heap.size W211 w') (by exact xk Try.func58) (rinside17_any _ _ _ _ hE SD (by omega) W211 rd245 hbl) ?_)
   rintro v248 W246 ⟨hO249, hb247⟩
   have z250 := hb247.size
   obtain ⟨A251, c252, rfl, y253⟩ := hO249.by_
   simp only [lay]
   have own259 := hO212.to hb247
   have b260 := hb119.trans (hb209.mono h204)
   have b261 := b260.trans (hb214.mono h204)
   have b262 := bt b261 hb247
   refine lz (ow_app (.tmp 95) (.tmp 99) 25 rfl Try.underlying25 info8 _ _ ((((head17 D s t []).bytes).set (0 + 4) ((SD + (((head17 D s t []).bytes).length : Int) - 40) / 256)).set (0 + 5) ((SD + (((head17 D s t []).bytes).length : Int) - 40) % 256)) rfl own259 _ _ _ _ (told17 D s t SD) rfl (own_byS hO249) (by simp only [List.length_set]; have := told17_len D s t SD; omega) b262.size ?_)
   intro v258 W254 hO255 hb256 hgr257
   have z263 := hb256.size
   obtain ⟨A264, c265, rfl, y266⟩ := hO255.by_
   simp only [lay]
   refine lv (.slice A264 (((((head17 D s t []).bytes).set (0 + 4) ((SD + (((head17 D s t []).bytes).length : Int) - 40) / 256)).set (0 + 5) ((SD + (((head17 D s t []).bytes).length : Int) - 40) % 256) ++ (told17 D s t SD)).length) c265) (by exact xa) ?_
   simp only [lay]
   refine lv (.int .i64 0) (by exact xa) ?_
   simp only [lay]
   refine wn ?_
   refine wp_ret ?_
   try simp only [Exit.then]
   have hNN : min (SD + ((head17 D s t []).bytes.length - 40)) 65535 = SD + ((head17 D s t []).bytes.length : Int) - 40 := by omega
   have e : inside17 l s t = ((((head17 D s t []).bytes).set (0 + 4) ((SD + (((head17 D s t []).bytes).length : Int) - 40) / 256)).set (0 + 5) ((SD + (((head17 D s t []).bytes).length : Int) - 40) % 256) ++ (told17 D s t SD), 0) := by
    rw [inside17_ok hO hnn (by assumption), hSD, hNN]
    rfl
   have b267 := bt b95 hb85
   have b268 := bt b267 hb104
   have b269 := bt b268 hb111
   have l270 := lq b268 ge109
   have b271 := b269.trans (hb116.mono l270)
   have b272 := bt b271 hb119
   have l273 := Nat.le_trans b271.size h204
   have b274 := b272.trans (hb209.mono l273)
   have b275 := b274.trans (hb214.mono l273)
   have b276 := bt b275 hb247
   have l277 := Nat.le_trans b271.size (Nat.le_refl _)
   have b278 := b276.trans (hb256.mono l277)
   exact bodyPost_ret (res_tt Try.results18 rfl rfl) rfl ⟨TwoR.ok e (hO255.more b271.size), b278⟩
  refine wn ?_
  refine wp_cond_true (by exact rfl) ?_
  refine wp_sr ?_
  refine lv (.slice none 0 0) (by exact xa) ?_
  simp only [lay]
  refine lv (.int .i64 176) (by exact xa) ?_
  simp only [lay]
  refine wn ?_
  refine wp_ret ?_
  try simp only [Exit.then]
  have e := inside17_none (s := s) (t := t) (l := l) hnn
  have b279 := bt hb6 hb10
  have b280 := bt b279 hb22
  have l281 := lq b279 ge20
  have b282 := b280.trans (hb27.mono l281)
  exact bodyPost_ret (res_tt Try.results18 rfl rfl) rfl ⟨TwoR.ok e (OwnB.nil _ _), b282⟩
 refine lv (.int .i64 E) (by exact xm) ?_
 simp only [lay]
 refine lv (.bool true) (by exact neq_int_ne (by exact rfl) (by exact rfl) (by exact rfl) (by first | assumption | omega)) ?_
 simp only [lay]
 refine lv (.bool true) (by exact xm) ?_
 simp only [lay]
 refine lzn ?_
 simp only [lay]
 refine lzn ?_
 simp only [lay]
 refine lzn ?_
 simp only [lay]
 refine lzn ?_
 simp only [lay]
 refine lzn ?_
 simp only [lay]
 refine lzn ?_
 simp only [lay]
 refine lzn ?_
 simp only [lay]
 refine lzn ?_
 simp only [lay]
 refine lzn ?_
 simp only [lay]
 refine lzn ?_
 simp only [lay]
 refine lzn ?_
 simp only [lay]
 refine lzn ?_
 simp only [lay]
 refine lzn ?_
 simp only [lay]
 refine lzn ?_
 simp only [lay]
 refine lzn ?_
 simp only [lay]
 refine lzn ?_
 simp only [lay]
 refine lzn ?_
 simp only [lay]
 refine lzn ?_
 simp only [lay]
 refine lzn ?_
 simp only [lay]
 refine lzn ?_
 simp only [lay]
 refine lzn ?_
 simp only [lay]
 refine lzn ?_
 simp only [lay]
 refine lzn ?_
 simp only [lay]
 refine lzn ?_
 simp only [lay]
 refine lzn ?_
 simp only [lay]
 refine lzn ?_
 simp only [lay]
 refine lzn ?_
 simp only [lay]
 refine lzn ?_
 simp only [lay]
 refine lv (.bool true) (by exact xp (b := true)) ?_
 simp only [lay]
 refine wn ?_
 refine wp_cond_true (by exact rfl) ?_
 refine wp_sr ?_
 refine lv (.slice none 0 0) (by exact xa) ?_
 simp only [lay]
 refine lv (.int .i64 176) (by exact xa) ?_
 simp only [lay]
 refine wn ?_
 refine wp_ret ?_
 try simp only [Exit.then]
 have e := inside17_none (s := s) (t := t) (l := l) (none17_iff.2 (by rw [hEr]; omega))
 have b284 := bt hb6 hb10
 have b285 := bt b284 hb22
 have l286 := lq b284 ge20
 have b287 := b285.trans (hb27.mono l286)
 exact bodyPost_ret (res_tt Try.results18 rfl rfl) rfl ⟨TwoR.ok e (OwnB.nil _ _), b287⟩
end Go.Proofs.Ytijnifbpbgckgaa
