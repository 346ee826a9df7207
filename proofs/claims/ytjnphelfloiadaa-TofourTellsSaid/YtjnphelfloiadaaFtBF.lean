/-
  Lemmas and walks for the row of TofourTells (part 32 of 37).
-/
import Derived.Test.YtjnphelfloiadaaFtAI
import Derived.Test.YtjnphelfloiadaaFtAQ
import Derived.Test.YtjnphelfloiadaaFtBB
import Derived.Test.YtjnphelfloiadaaFtBD
import Derived.Test.YtjnphelfloiadaaFtBE
set_option linter.unusedVariables false
set_option linter.unusedSimpArgs false
namespace Go.Proofs.Ytjnphelfloiadaa
open Go.RowKit Go.Shelf
attribute [local irreducible] wpList Code.wp Oper.wp wpOp wpAnyH

set_option maxRecDepth 100000 in
set_option maxHeartbeats 8000000 in
theorem tells18_any (d : D6) (p : W6) (w : World) (hR : Rd6 w.heap.size w d p) :
  Calls Try.prog 21 #[.agg (d.cells p)] w fun e w' => e = .returned (.tuple #[.agg (ends6 (tells18 d).1.1 (tells18 d).1.2), .bool (tells18 d).2.1, .int .i64 (tells18 d).2.2]) ∧ Below w.heap.size w w' := by
 obtain ⟨M, hM⟩ : ∃ x, parse7 d.bl (ps18 d) = x := ⟨_, rfl⟩
 obtain ⟨PE, hPE⟩ : ∃ x, perr7 d.bl (ps18 d) = x := ⟨_, rfl⟩
 have hM2 : parse7 d.bl (pse6 d.src d.dst (d.bl.length : Int) 58) = M := hM
 have hPE2 : perr7 d.bl (pse6 d.src d.dst (d.bl.length : Int) 58) = PE := hPE
 obtain ⟨D, hD⟩ : ∃ x, got6 false M.bl = x := ⟨_, rfl⟩
 obtain ⟨E, hEr⟩ : ∃ x, (g6 false M.bl).err = x := ⟨_, rfl⟩
 obtain ⟨PT, hPT⟩ : ∃ P, ((g6 false M.bl).pat : Int) = P := ⟨_, rfl⟩
 have yb6 := hR.body
 have hlb := yb6.len
 go_enter Try.func21, Try.ntmps21
 refine wp_sr ?_
 refine lz (ow_box 28 (.tmp 0) _ rfl rfl ?_)
 intro g1 W2 hg3 ge4 sz5 hb6
 have z7 := hb6.size
 simp only [lay]
 refine lz (oa #[.int .u8 0, .int .u8 0, .int .u8 0, .int .u8 0, .int .u8 0, .int .u8 0, .int .u8 0, .int .u8 0, .int .u8 0, .int .u8 0, .int .u8 0, .int .u8 0, .int .u8 0, .int .u8 0, .int .u8 0, .int .u8 0, .int .u8 0, .int .u8 0, .int .u8 0, .int .u8 0, .int .u8 0, .int .u8 0, .int .u8 0, .int .u8 0, .int .u8 0, .int .u8 0, .int .u8 0, .int .u8 0, .int .u8 0, .int .u8 0, .int .u8 0, .int .u8 0] ?_)
 intro g8 W9 hg10 ge11 sz12 hb13
 have z14 := hb13.size
 simp only [lay]
 refine lv (.bool false) (by exact xa) ?_
 simp only [lay]
 refine lv (.int .i64 0) (by exact xa) ?_
 simp only [lay]
 refine wn ?_
 refine wp_seq ?_
 refine wp_sr ?_
 have has15 := hg3.to hb13
 refine lv (.agg (d.cells p)) (by exact xo (has15.load (P := Try.prog) 28 Try.underlying28 rfl (by kernel_rfl))) ?_
 simp only [lay]
 have b16 := bt hb6 hb13
 have rd17 := hR.to b16
 refine lz (ow_call (fun v w' => v = .int .i64 d.check ∧ Below W9.heap.size W9 w') (by exact xk Try.func29) (check6_x rd17) ?_)
 rintro _ W18 ⟨rfl, hb19⟩
 have z20 := hb19.size
 simp only [lay]
 refine lv (.int .i64 d.check) (by exact xa) ?_
 simp only [lay]
 refine wn ?_
 refine wp_sr ?_
 refine lv (.int .i64 d.check) (by exact xm) ?_
 simp only [lay]
 by_cases q21 : d.check = 0
 case pos =>
  obtain ⟨hokh, hof, hbl⟩ := check18 q21
  refine lv (.bool false) (by exact neq_int_eq (by exact rfl) (by exact rfl) (by exact rfl) (by first | assumption | omega)) ?_
  simp only [lay]
  refine wn ?_
  refine cF9 ?_
  refine wp_skip ?_
  change Code.wp _ _ _ _ _
  refine wp_seq ?_
  refine wp_sr ?_
  refine lv (.pointer (some ⟨g1, 36, none⟩)) (by exact xf 36 0 Try.underlying28) ?_
  simp only [lay]
  have b22 := bt hb13 hb19
  have has23 := hg3.to b22
  refine lv (.bool d.frag) (by exact xc Try.underlying4 (has23.cell 36 rfl)) ?_
  simp only [lay]
  refine lv (.bool d.frag) (by exact xm) ?_
  simp only [lay]
  by_cases q24 : d.frag = true
  case pos =>
   rw [q24]
   refine lv (.pointer (some ⟨g1, 39, none⟩)) (by exact xf 39 0 Try.underlying28) ?_
   simp only [lay]
   refine lv (.bool d.more) (by exact xc Try.underlying4 (has23.cell 39 rfl)) ?_
   simp only [lay]
   refine lv (.bool d.more) (by exact xm) ?_
   simp only [lay]
   by_cases q25 : d.more = true
   case pos =>
    rw [q25]
    refine lzn ?_
    simp only [lay]
    refine lzn ?_
    simp only [lay]
    refine lzn ?_
    simp only [lay]
    refine lv (.bool true) (by exact xp (b := true)) ?_
    simp only [lay]
    refine lv (.bool true) (by exact xp (b := true)) ?_
    simp only [lay]
    refine lv (.bool true) (by exact xm) ?_
    simp only [lay]
    refine lzn ?_
    simp only [lay]
    refine lzn ?_
    simp only [lay]
    refine lzn ?_
    simp only [lay]
    refine lv (.bool true) (by exact xp (b := true)) ?_
    simp only [lay]
    refine wn ?_
    refine cT9 ?_
    refine wp_sr ?_
    refine lv (.agg #[.int .u8 0, .int .u8 0, .int .u8 0, .int .u8 0, .int .u8 0, .int .u8 0, .int .u8 0, .int .u8 0, .int .u8 0, .int .u8 0, .int .u8 0, .int .u8 0, .int .u8 0, .int .u8 0, .int .u8 0, .int .u8 0, .int .u8 0, .int .u8 0, .int .u8 0, .int .u8 0, .int .u8 0, .int .u8 0, .int .u8 0, .int .u8 0, .int .u8 0, .int .u8 0, .int .u8 0, .int .u8 0, .int .u8 0, .int .u8 0, .int .u8 0, .int .u8 0]) (by kernel_rfl) ?_
    simp only [lay]
    have has30 := hg10.to hb19
    refine lz (ow_st 56 (.tmp 2) (.tmp 32) g8 #[.int .u8 0, .int .u8 0, .int .u8 0, .int .u8 0, .int .u8 0, .int .u8 0, .int .u8 0, .int .u8 0, .int .u8 0, .int .u8 0, .int .u8 0, .int .u8 0, .int .u8 0, .int .u8 0, .int .u8 0, .int .u8 0, .int .u8 0, .int .u8 0, .int .u8 0, .int .u8 0, .int .u8 0, .int .u8 0, .int .u8 0, .int .u8 0, .int .u8 0, .int .u8 0, .int .u8 0, .int .u8 0, .int .u8 0, .int .u8 0, .int .u8 0, .int .u8 0] _ _ rfl (by exact rfl) (by exact rfl) has30 (by kernel_rfl) rfl (by kernel_rfl) ?_)
    intro W26 hg27 bs28 hb29
    have z31 := hb29.size
    simp only [lay]
    refine lv (.bool false) (by exact xa) ?_
    simp only [lay]
    refine lv (.int .i64 0) (by exact xa) ?_
    simp only [lay]
    refine wn ?_
    refine wp_ret ?_
    try simp only [Exit.then]
    have qp : d.part = true := by unfold D6.part; simp [*]; try omega
    have e : tells18 d = ((z16, z16), false, 0) := by
     unfold tells18
     simp only [hM, hPE, hEr, hD]
     simp only [qp, true_or, Bool.false_eq_true, false_or, if_true]
     repeat (first | rw [if_pos (by first | assumption | omega | exact ne_true_of_eq_false (by assumption))] | rw [if_neg (by first | assumption | omega | exact ne_true_of_eq_false (by assumption))])
    have b32 := bt b16 hb19
    have l33 := lq hb6 ge11
    have b34 := b32.trans (hb29.mono l33)
    exact bodyPost_ret (res_cell3 Try.results21 rfl (hg27.load (P := Try.prog) 56 Try.underlying56 rfl (by kernel_rfl)) rfl rfl) rfl ⟨by rw [e]; rfl, b34⟩
   replace q25 := eq_false_of_ne_true q25
   rw [q25]
   refine lv (.pointer (some ⟨g1, 38, none⟩)) (by exact xf 38 0 Try.underlying28) ?_
   simp only [lay]
   refine lv (.int .i64 d.off) (by exact xc Try.underlying3 (has23.cell 38 rfl)) ?_
   simp only [lay]
   by_cases q35 : d.off > 0
   case pos =>
    refine lv (.bool true) (by exact ex_gtr (by exact rfl) (by exact rfl) (by exact rfl) (decide_eq_true (by first | assumption | omega | decide))) ?_
    simp only [lay]
    refine lv (.bool true) (by exact xp (b := false)) ?_
    simp only [lay]
    refine lv (.bool true) (by exact xp (b := true)) ?_
    simp only [lay]
    refine lv (.bool true) (by exact xm) ?_
    simp only [lay]
    refine lzn ?_
    simp only [lay]
    refine lzn ?_
    simp only [lay]
    refine lzn ?_
    simp only [lay]
    refine lv (.bool true) (by exact xp (b := true)) ?_
    simp only [lay]
    refine wn ?_
    refine cT9 ?_
    refine wp_sr ?_
    refine lv (.agg #[.int .u8 0, .int .u8 0, .int .u8 0, .int .u8 0, .int .u8 0, .int .u8 0, .int .u8 0, .int .u8 0, .int .u8 0, .int .u8 0, .int .u8 0, .int .u8 0, .int .u8 0, .int .u8 0, .int .u8 0, .int .u8 0, .int .u8 0, .int .u8 0, .int .u8 0, .int .u8 0, .int .u8 0, .int .u8 0, .int .u8 0, .int .u8 0, .int .u8 0, .int .u8 0, .int .u8 0, .int .u8 0, .int .u8 0, .int .u8 0, .int .u8 0, .int .u8 0]) (by kernel_rfl) ?_
    simp only [lay]
    have has40 := hg10.to hb19
    refine lz (ow_st 56 (.tmp 2) (.tmp 32) g8 #[.int .u8 0, .int .u8 0, .int .u8 0, .int .u8 0, .int .u8 0, .int .u8 0, .int .u8 0, .int .u8 0, .int .u8 0, .int .u8 0, .int .u8 0, .int .u8 0, .int .u8 0, .int .u8 0, .int .u8 0, .int .u8 0, .int .u8 0, .int .u8 0, .int .u8 0, .int .u8 0, .int .u8 0, .int .u8 0, .int .u8 0, .int .u8 0, .int .u8 0, .int .u8 0, .int .u8 0, .int .u8 0, .int .u8 0, .int .u8 0, .int .u8 0, .int .u8 0] _ _ rfl (by exact rfl) (by exact rfl) has40 (by kernel_rfl) rfl (by kernel_rfl) ?_)
    intro W36 hg37 bs38 hb39
    have z41 := hb39.size
    simp only [lay]
    refine lv (.bool false) (by exact xa) ?_
    simp only [lay]
    refine lv (.int .i64 0) (by exact xa) ?_
    simp only [lay]
    refine wn ?_
    refine wp_ret ?_
    try simp only [Exit.then]
    have qp : d.part = true := by unfold D6.part; simp [*]; try omega
    have e : tells18 d = ((z16, z16), false, 0) := by
     unfold tells18
     simp only [hM, hPE, hEr, hD]
     simp only [qp, true_or, Bool.false_eq_true, false_or, if_true]
     repeat (first | rw [if_pos (by first | assumption | omega | exact ne_true_of_eq_false (by assumption))] | rw [if_neg (by first | assumption | omega | exact ne_true_of_eq_false (by assumption))])
    have b42 := bt b16 hb19
    have l43 := lq hb6 ge11
    have b44 := b42.trans (hb39.mono l43)
    exact bodyPost_ret (res_cell3 Try.results21 rfl (hg37.load (P := Try.prog) 56 Try.underlying56 rfl (by kernel_rfl)) rfl rfl) rfl ⟨by rw [e]; rfl, b44⟩
   refine lv (.bool false) (by exact ex_gtr (by exact rfl) (by exact rfl) (by exact rfl) (decide_eq_false (by first | assumption | omega | decide))) ?_
   simp only [lay]
   refine lv (.bool false) (by exact xp (b := false)) ?_
   simp only [lay]
   refine lv (.bool false) (by exact xp (b := true)) ?_
   simp only [lay]
   refine lv (.bool false) (by exact xm) ?_
   simp only [lay]
   refine lv (.pointer (some ⟨g1, 40, none⟩)) (by exact xf 40 0 Try.underlying28) ?_
   simp only [lay]
   refine lv (.int .u8 d.pro) (by exact xc Try.underlying5 (has23.cell 40 rfl)) ?_
   simp only [lay]
   by_cases q45 : d.pro = 58
   case pos =>
    refine lv (.bool false) (by exact neq_int_eq (by exact rfl) (by exact rfl) (by exact rfl) (by first | assumption | omega)) ?_
    simp only [lay]
    refine lv (.bool false) (by exact xp (b := false)) ?_
    simp only [lay]
    refine wn ?_
    refine cF9 ?_
    refine wp_skip ?_
    change Code.wp _ _ _ _ _
    refine wp_sr ?_
    refine lv (.pointer (some ⟨g1, 3, none⟩)) (by exact xf 3 15 Try.underlying28) ?_
    simp only [lay]
    refine lv (.agg #[.int .u8 (d.src.getD 0 0), .int .u8 (d.src.getD 1 0), .int .u8 (d.src.getD 2 0), .int .u8 (d.src.getD 3 0), .int .u8 (d.src.getD 4 0), .int .u8 (d.src.getD 5 0), .int .u8 (d.src.getD 6 0), .int .u8 (d.src.getD 7 0), .int .u8 (d.src.getD 8 0), .int .u8 (d.src.getD 9 0), .int .u8 (d.src.getD 10 0), .int .u8 (d.src.getD 11 0), .int .u8 (d.src.getD 12 0), .int .u8 (d.src.getD 13 0), .int .u8 (d.src.getD 14 0), .int .u8 (d.src.getD 15 0)]) (by exact ex_loadAt (by exact rfl) (by exact rfl) (has23.loadIn (P := Try.prog) 3 [.int .u8 (d.src.getD 0 0), .int .u8 (d.src.getD 1 0), .int .u8 (d.src.getD 2 0), .int .u8 (d.src.getD 3 0), .int .u8 (d.src.getD 4 0), .int .u8 (d.src.getD 5 0), .int .u8 (d.src.getD 6 0), .int .u8 (d.src.getD 7 0), .int .u8 (d.src.getD 8 0), .int .u8 (d.src.getD 9 0), .int .u8 (d.src.getD 10 0), .int .u8 (d.src.getD 11 0), .int .u8 (d.src.getD 12 0), .int .u8 (d.src.getD 13 0), .int .u8 (d.src.getD 14 0), .int .u8 (d.src.getD 15 0)] (by kernel_rfl) 24 Try.underlying24 rfl (by kernel_rfl))) ?_
    simp only [lay]
    refine lv (.pointer (some ⟨g1, 19, none⟩)) (by exact xf 19 15 Try.underlying28) ?_
    simp only [lay]
    refine lv (.agg #[.int .u8 (d.dst.getD 0 0), .int .u8 (d.dst.getD 1 0), .int .u8 (d.dst.getD 2 0), .int .u8 (d.dst.getD 3 0), .int .u8 (d.dst.getD 4 0), .int .u8 (d.dst.getD 5 0), .int .u8 (d.dst.getD 6 0), .int .u8 (d.dst.getD 7 0), .int .u8 (d.dst.getD 8 0), .int .u8 (d.dst.getD 9 0), .int .u8 (d.dst.getD 10 0), .int .u8 (d.dst.getD 11 0), .int .u8 (d.dst.getD 12 0), .int .u8 (d.dst.getD 13 0), .int .u8 (d.dst.getD 14 0), .int .u8 (d.dst.getD 15 0)]) (by exact ex_loadAt (by exact rfl) (by exact rfl) (has23.loadIn (P := Try.prog) 19 [.int .u8 (d.dst.getD 0 0), .int .u8 (d.dst.getD 1 0), .int .u8 (d.dst.getD 2 0), .int .u8 (d.dst.getD 3 0), .int .u8 (d.dst.getD 4 0), .int .u8 (d.dst.getD 5 0), .int .u8 (d.dst.getD 6 0), .int .u8 (d.dst.getD 7 0), .int .u8 (d.dst.getD 8 0), .int .u8 (d.dst.getD 9 0), .int .u8 (d.dst.getD 10 0), .int .u8 (d.dst.getD 11 0), .int .u8 (d.dst.getD 12 0), .int .u8 (d.dst.getD 13 0), .int .u8 (d.dst.getD 14 0), .int .u8 (d.dst.getD 15 0)] (by kernel_rfl) 24 Try.underlying24 rfl (by kernel_rfl))) ?_
    simp only [lay]
    refine lv (.pointer (some ⟨g1, 41, none⟩)) (by exact xf 41 0 Try.underlying28) ?_
    simp only [lay]
    refine lv (.slice p.bA d.bl.length p.bc) (by exact xc Try.underlying26 (has23.cell 41 rfl)) ?_
    simp only [lay]
    have b46 := bt b16 hb19
    have by47 := yb6.to b46
    refine lz (ow_call (fun v w' => (∃ A' c', v = .tuple #[.agg (M.cells A' c'), .int .i64 PE] ∧ M.ok ∧ OwnB w' W18.heap.size (.slice A' M.bl.length c') M.bl) ∧ Below W18.heap.size W18 w') (by exact xk Try.func32) (by have := iparse6_x hR.ok.srcL hR.ok.dstL hR.ok.src hR.ok.dst by47; rw [show pse6 d.src d.dst d.bl.length 58 = ps18 d from rfl, hM, hPE] at this; exact this) ?_)
    rintro _ W48 ⟨⟨A50, c51, rfl, hk52, hO53⟩, hb49⟩
    have z54 := hb49.size
    simp only [lay]
    refine lv (.tuple #[.agg (M.cells A50 c51), .int .i64 PE]) (by exact xm) ?_
    simp only [lay]
    refine lv (.agg (M.cells A50 c51)) (by exact xe) ?_
    simp only [lay]
    refine lv (.int .i64 PE) (by exact xe) ?_
    simp only [lay]
    refine lz (oa #[.int .u8 0, .int .u8 0, .int .u32 0, .slice none 0 0] ?_)
    intro g55 W56 hg57 ge58 sz59 hb60
    have z61 := hb60.size
    simp only [lay]
    refine lz (ow_st 43 (.tmp 6) (.tmp 41) g55 (M.cells A50 c51) _ _ rfl (by exact rfl) (by exact rfl) hg57 (by kernel_rfl) rfl (by kernel_rfl) ?_)
    intro W62 hg63 bs64 hb65
    have z66 := hb65.size
    simp only [lay]
    refine lv (.int .i64 PE) (by exact xa) ?_
    simp only [lay]
    refine wn ?_
    refine wp_seq ?_
    refine wp_sr ?_
    refine lv (.int .i64 PE) (by exact xm) ?_
    simp only [lay]
    by_cases q67 : PE = 0
    case pos =>
     refine lv (.bool false) (by exact neq_int_eq (by exact rfl) (by exact rfl) (by exact rfl) (by first | assumption | omega)) ?_
     simp only [lay]
     refine lv (.bool false) (by exact xm) ?_
     simp only [lay]
     refine lv (.pointer (some ⟨g55, 0, none⟩)) (by exact xf 0 0 Try.underlying43) ?_
     simp only [lay]
     refine lv (.int .u8 M.ty) (by exact xc Try.underlying5 (hg63.cell 0 rfl)) ?_
     simp only [lay]
     by_cases q68 : M.ty < 1
     case pos =>
      refine lv (.bool true) (by exact ex_lss (by exact rfl) (by exact rfl) (by exact rfl) (decide_eq_true (by first | assumption | omega | decide))) ?_
      simp only [lay]
      refine lv (.bool true) (by exact xp (b := false)) ?_
      simp only [lay]
      refine lv (.bool true) (by exact xm) ?_
      simp only [lay]
      refine lzn ?_
      simp only [lay]
      refine lzn ?_
      simp only [lay]
      refine lzn ?_
      simp only [lay]
      refine lv (.bool true) (by exact xp (b := true)) ?_
      simp only [lay]
      refine wn ?_
      refine cT9 ?_
      refine wp_sr ?_
      refine lv (.agg #[.int .u8 0, .int .u8 0, .int .u8 0, .int .u8 0, .int .u8 0, .int .u8 0, .int .u8 0, .int .u8 0, .int .u8 0, .int .u8 0, .int .u8 0, .int .u8 0, .int .u8 0, .int .u8 0, .int .u8 0, .int .u8 0, .int .u8 0, .int .u8 0, .int .u8 0, .int .u8 0, .int .u8 0, .int .u8 0, .int .u8 0, .int .u8 0, .int .u8 0, .int .u8 0, .int .u8 0, .int .u8 0, .int .u8 0, .int .u8 0, .int .u8 0, .int .u8 0]) (by kernel_rfl) ?_
      simp only [lay]
      have b73 := bt hb19 hb49
      have b74 := bt b73 hb60
      have l75 := lq b73 ge58
      have b76 := b74.trans (hb65.mono l75)
      have has77 := hg10.to b76
      refine lz (ow_st 56 (.tmp 2) (.tmp 55) g8 #[.int .u8 0, .int .u8 0, .int .u8 0, .int .u8 0, .int .u8 0, .int .u8 0, .int .u8 0, .int .u8 0, .int .u8 0, .int .u8 0, .int .u8 0, .int .u8 0, .int .u8 0, .int .u8 0, .int .u8 0, .int .u8 0, .int .u8 0, .int .u8 0, .int .u8 0, .int .u8 0, .int .u8 0, .int .u8 0, .int .u8 0, .int .u8 0, .int .u8 0, .int .u8 0, .int .u8 0, .int .u8 0, .int .u8 0, .int .u8 0, .int .u8 0, .int .u8 0] _ _ rfl (by exact rfl) (by exact rfl) has77 (by kernel_rfl) rfl (by kernel_rfl) ?_)
      intro W69 hg70 bs71 hb72
      have l78 : W48.heap.size ≤ g55 := Nat.le_of_eq ge58.symm
      have b79 := hb60.trans (hb65.mono l78)
      have own80 := hO53.to b79
      have z81 := hb72.size
      have own82 := own80.but6 bs71 (by omega)
      have has83 := hg63.but6 bs71 (by omega)
      simp only [lay]
      refine lv (.bool false) (by exact xa) ?_
      simp only [lay]
      refine lv (.int .i64 0) (by exact xa) ?_
      simp only [lay]
      refine wn ?_
      refine wp_ret ?_
      try simp only [Exit.then]
      have qp : d.part = false := by unfold D6.part; simp [*]; try omega
      have e : tells18 d = ((z16, z16), false, 0) := by
       unfold tells18
       simp only [hM, hPE, hEr, hD]
       simp only [qp, Bool.false_eq_true, false_or]
       repeat (first | rw [if_pos (by first | assumption | omega | exact ne_true_of_eq_false (by assumption))] | rw [if_neg (by first | assumption | omega | exact ne_true_of_eq_false (by assumption))])
      have b84 := bt b46 hb49
      have b85 := bt b84 hb60
      have l86 := lq b84 ge58
      have b87 := b85.trans (hb65.mono l86)
      have l88 := lq hb6 ge11
      have b89 := b87.trans (hb72.mono l88)
      exact bodyPost_ret (res_cell3 Try.results21 rfl (hg70.load (P := Try.prog) 56 Try.underlying56 rfl (by kernel_rfl)) rfl rfl) rfl ⟨by rw [e]; rfl, b89⟩
     refine lv (.bool false) (by exact ex_lss (by exact rfl) (by exact rfl) (by exact rfl) (decide_eq_false (by first | assumption | omega | decide))) ?_
     simp only [lay]
     refine lv (.bool false) (by exact xp (b := false)) ?_
     simp only [lay]
     refine lv (.bool false) (by exact xm) ?_
     simp only [lay]
     refine lv (.pointer (some ⟨g55, 0, none⟩)) (by exact xf 0 0 Try.underlying43) ?_
     simp only [lay]
     refine lv (.int .u8 M.ty) (by exact xc Try.underlying5 (hg63.cell 0 rfl)) ?_
     simp only [lay]
     by_cases q90 : M.ty > 4
     case pos =>
      refine lv (.bool true) (by exact ex_gtr (by exact rfl) (by exact rfl) (by exact rfl) (decide_eq_true (by first | assumption | omega | decide))) ?_
      simp only [lay]
      refine lv (.bool true) (by exact xp (b := false)) ?_
      simp only [lay]
      refine wn ?_
      refine cT9 ?_
      refine wp_sr ?_
      refine lv (.agg #[.int .u8 0, .int .u8 0, .int .u8 0, .int .u8 0, .int .u8 0, .int .u8 0, .int .u8 0, .int .u8 0, .int .u8 0, .int .u8 0, .int .u8 0, .int .u8 0, .int .u8 0, .int .u8 0, .int .u8 0, .int .u8 0, .int .u8 0, .int .u8 0, .int .u8 0, .int .u8 0, .int .u8 0, .int .u8 0, .int .u8 0, .int .u8 0, .int .u8 0, .int .u8 0, .int .u8 0, .int .u8 0, .int .u8 0, .int .u8 0, .int .u8 0, .int .u8 0]) (by kernel_rfl) ?_
      simp only [lay]
      have b95 := bt hb19 hb49
      have b96 := bt b95 hb60
      have l97 := lq b95 ge58
      have b98 := b96.trans (hb65.mono l97)
      have has99 := hg10.to b98
      refine lz (ow_st 56 (.tmp 2) (.tmp 55) g8 #[.int .u8 0, .int .u8 0, .int .u8 0, .int .u8 0, .int .u8 0, .int .u8 0, .int .u8 0, .int .u8 0, .int .u8 0, .int .u8 0, .int .u8 0, .int .u8 0, .int .u8 0, .int .u8 0, .int .u8 0, .int .u8 0, .int .u8 0, .int .u8 0, .int .u8 0, .int .u8 0, .int .u8 0, .int .u8 0, .int .u8 0, .int .u8 0, .int .u8 0, .int .u8 0, .int .u8 0, .int .u8 0, .int .u8 0, .int .u8 0, .int .u8 0, .int .u8 0] _ _ rfl (by exact rfl) (by exact rfl) has99 (by kernel_rfl) rfl (by kernel_rfl) ?_)
      intro W91 hg92 bs93 hb94
      have l100 : W48.heap.size ≤ g55 := Nat.le_of_eq ge58.symm
      have b101 := hb60.trans (hb65.mono l100)
      have own102 := hO53.to b101
      have z103 := hb94.size
      have own104 := own102.but6 bs93 (by omega)
      have has105 := hg63.but6 bs93 (by omega)
      simp only [lay]
      refine lv (.bool false) (by exact xa) ?_
      simp only [lay]
      refine lv (.int .i64 0) (by exact xa) ?_
      simp only [lay]
      refine wn ?_
      refine wp_ret ?_
      try simp only [Exit.then]
      have qp : d.part = false := by unfold D6.part; simp [*]; try omega
      have e : tells18 d = ((z16, z16), false, 0) := by
       unfold tells18
       simp only [hM, hPE, hEr, hD]
       simp only [qp, Bool.false_eq_true, false_or]
       repeat (first | rw [if_pos (by first | assumption | omega | exact ne_true_of_eq_false (by assumption))] | rw [if_neg (by first | assumption | omega | exact ne_true_of_eq_false (by assumption))])
      have b106 := bt b46 hb49
      have b107 := bt b106 hb60
      have l108 := lq b106 ge58
      have b109 := b107.trans (hb65.mono l108)
      have l110 := lq hb6 ge11
      have b111 := b109.trans (hb94.mono l110)
      exact bodyPost_ret (res_cell3 Try.results21 rfl (hg92.load (P := Try.prog) 56 Try.underlying56 rfl (by kernel_rfl)) rfl rfl) rfl ⟨by rw [e]; rfl, b111⟩
     refine lv (.bool false) (by exact ex_gtr (by exact rfl) (by exact rfl) (by exact rfl) (decide_eq_false (by first | assumption | omega | decide))) ?_
     simp only [lay]
     refine lv (.bool false) (by exact xp (b := false)) ?_
     simp only [lay]
     refine wn ?_
     refine cF9 ?_
     refine wp_skip ?_
     change Code.wp _ _ _ _ _
     refine wp_sr ?_
     refine lv (.pointer (some ⟨g55, 3, none⟩)) (by exact xf 3 0 Try.underlying43) ?_
     simp only [lay]
     refine lv (.slice A50 M.bl.length c51) (by exact xc Try.underlying26 (hg63.cell 3 rfl)) ?_
     simp only [lay]
     have l112 : W48.heap.size ≤ g55 := Nat.le_of_eq ge58.symm
     have b113 := hb60.trans (hb65.mono l112)
     have own114 := hO53.to b113
     refine lz (ow_call (fun v w' => (∃ p, v = .tuple #[.agg (D.cells p), .int .i64 PT, .int .i64 E] ∧ Own6 w' W62.heap.size D p) ∧ Below W62.heap.size W62 w') (by exact xk Try.func48) (by have := ppart6_x (own_byS own114); rw [hD, hEr, hPT] at this; exact this) ?_)
     rintro _ W115 ⟨⟨p117, rfl, ho118⟩, hb116⟩
     have z119 := hb116.size
     have hr120 := ho118.rd
     have hO121 := ho118.body
     simp only [lay]
     refine lv (.tuple #[.agg (D.cells p117), .int .i64 PT, .int .i64 E]) (by exact xm) ?_
     simp only [lay]
     refine lv (.agg (D.cells p117)) (by exact xe) ?_
     simp only [lay]
     refine lv (.int .i64 PT) (by exact xe) ?_
     simp only [lay]
     refine lv (.int .i64 E) (by exact xe) ?_
     simp only [lay]
     refine lz (oa #[.int .u8 0, .int .u32 0, .int .u8 0, .int .u8 0, .int .u8 0, .int .u8 0, .int .u8 0, .int .u8 0, .int .u8 0, .int .u8 0, .int .u8 0, .int .u8 0, .int .u8 0, .int .u8 0, .int .u8 0, .int .u8 0, .int .u8 0, .int .u8 0, .int .u8 0, .int .u8 0, .int .u8 0, .int .u8 0, .int .u8 0, .int .u8 0, .int .u8 0, .int .u8 0, .int .u8 0, .int .u8 0, .int .u8 0, .int .u8 0, .int .u8 0, .int .u8 0, .int .u8 0, .int .u8 0, .int .u8 0, .slice none 0 0, .bool false, .int .u32 0, .int .i64 0, .bool false, .int .u8 0, .slice none 0 0] ?_)
     intro g122 W123 hg124 ge125 sz126 hb127
     have z128 := hb127.size
     simp only [lay]
     refine lz (ow_st 28 (.tmp 8) (.tmp 60) g122 (D.cells p117) _ _ rfl (by exact rfl) (by exact rfl) hg124 (by kernel_rfl) rfl (by kernel_rfl) ?_)
     intro W129 hg130 bs131 hb132
     have z133 := hb132.size
     simp only [lay]
     refine lv (.int .i64 PT) (by exact xa) ?_
     simp only [lay]
     refine lv (.int .i64 E) (by exact xa) ?_
     simp only [lay]
     refine wn ?_
     refine wp_seq ?_
     refine wp_sr ?_
     refine lv (.int .i64 E) (by exact xm) ?_
     simp only [lay]
     by_cases q134 : E = 0
     case pos =>
      refine lv (.bool false) (by exact neq_int_eq (by exact rfl) (by exact rfl) (by exact rfl) (by first | assumption | omega)) ?_
      simp only [lay]
      refine wn ?_
      refine cF9 ?_
      refine wp_skip ?_
      change Code.wp _ _ _ _ _
      refine wp_sr ?_
      refine lv (.pointer (some ⟨g122, 3, none⟩)) (by exact xf 3 15 Try.underlying28) ?_
      simp only [lay]
      refine lv (.agg #[.int .u8 (D.src.getD 0 0), .int .u8 (D.src.getD 1 0), .int .u8 (D.src.getD 2 0), .int .u8 (D.src.getD 3 0), .int .u8 (D.src.getD 4 0), .int .u8 (D.src.getD 5 0), .int .u8 (D.src.getD 6 0), .int .u8 (D.src.getD 7 0), .int .u8 (D.src.getD 8 0), .int .u8 (D.src.getD 9 0), .int .u8 (D.src.getD 10 0), .int .u8 (D.src.getD 11 0), .int .u8 (D.src.getD 12 0), .int .u8 (D.src.getD 13 0), .int .u8 (D.src.getD 14 0), .int .u8 (D.src.getD 15 0)]) (by exact ex_loadAt (by exact rfl) (by exact rfl) (hg130.loadIn (P := Try.prog) 3 [.int .u8 (D.src.getD 0 0), .int .u8 (D.src.getD 1 0), .int .u8 (D.src.getD 2 0), .int .u8 (D.src.getD 3 0), .int .u8 (D.src.getD 4 0), .int .u8 (D.src.getD 5 0), .int .u8 (D.src.getD 6 0), .int .u8 (D.src.getD 7 0), .int .u8 (D.src.getD 8 0), .int .u8 (D.src.getD 9 0), .int .u8 (D.src.getD 10 0), .int .u8 (D.src.getD 11 0), .int .u8 (D.src.getD 12 0), .int .u8 (D.src.getD 13 0), .int .u8 (D.src.getD 14 0), .int .u8 (D.src.getD 15 0)] (by kernel_rfl) 24 Try.underlying24 rfl (by kernel_rfl))) ?_
      simp only [lay]
      refine lv (.pointer (some ⟨g122, 19, none⟩)) (by exact xf 19 15 Try.underlying28) ?_
      simp only [lay]
      refine lv (.agg #[.int .u8 (D.dst.getD 0 0), .int .u8 (D.dst.getD 1 0), .int .u8 (D.dst.getD 2 0), .int .u8 (D.dst.getD 3 0), .int .u8 (D.dst.getD 4 0), .int .u8 (D.dst.getD 5 0), .int .u8 (D.dst.getD 6 0), .int .u8 (D.dst.getD 7 0), .int .u8 (D.dst.getD 8 0), .int .u8 (D.dst.getD 9 0), .int .u8 (D.dst.getD 10 0), .int .u8 (D.dst.getD 11 0), .int .u8 (D.dst.getD 12 0), .int .u8 (D.dst.getD 13 0), .int .u8 (D.dst.getD 14 0), .int .u8 (D.dst.getD 15 0)]) (by exact ex_loadAt (by exact rfl) (by exact rfl) (hg130.loadIn (P := Try.prog) 19 [.int .u8 (D.dst.getD 0 0), .int .u8 (D.dst.getD 1 0), .int .u8 (D.dst.getD 2 0), .int .u8 (D.dst.getD 3 0), .int .u8 (D.dst.getD 4 0), .int .u8 (D.dst.getD 5 0), .int .u8 (D.dst.getD 6 0), .int .u8 (D.dst.getD 7 0), .int .u8 (D.dst.getD 8 0), .int .u8 (D.dst.getD 9 0), .int .u8 (D.dst.getD 10 0), .int .u8 (D.dst.getD 11 0), .int .u8 (D.dst.getD 12 0), .int .u8 (D.dst.getD 13 0), .int .u8 (D.dst.getD 14 0), .int .u8 (D.dst.getD 15 0)] (by kernel_rfl) 24 Try.underlying24 rfl (by kernel_rfl))) ?_
      simp only [lay]
      refine lv (.agg #[.int .u8 (D.src.getD 0 0), .int .u8 (D.src.getD 1 0), .int .u8 (D.src.getD 2 0), .int .u8 (D.src.getD 3 0), .int .u8 (D.src.getD 4 0), .int .u8 (D.src.getD 5 0), .int .u8 (D.src.getD 6 0), .int .u8 (D.src.getD 7 0), .int .u8 (D.src.getD 8 0), .int .u8 (D.src.getD 9 0), .int .u8 (D.src.getD 10 0), .int .u8 (D.src.getD 11 0), .int .u8 (D.src.getD 12 0), .int .u8 (D.src.getD 13 0), .int .u8 (D.src.getD 14 0), .int .u8 (D.src.getD 15 0), .int .u8 (D.dst.getD 0 0), .int .u8 (D.dst.getD 1 0), .int .u8 (D.dst.getD 2 0), .int .u8 (D.dst.getD 3 0), .int .u8 (D.dst.getD 4 0), .int .u8 (D.dst.getD 5 0), .int .u8 (D.dst.getD 6 0), .int .u8 (D.dst.getD 7 0), .int .u8 (D.dst.getD 8 0), .int .u8 (D.dst.getD 9 0), .int .u8 (D.dst.getD 10 0), .int .u8 (D.dst.getD 11 0), .int .u8 (D.dst.getD 12 0), .int .u8 (D.dst.getD 13 0), .int .u8 (D.dst.getD 14 0), .int .u8 (D.dst.getD 15 0)]) (by kernel_rfl) ?_
      simp only [lay]
      have b139 := bt hb19 hb49
      have b140 := bt b139 hb60
      have l141 := lq b139 ge58
      have b142 := b140.trans (hb65.mono l141)
      have b143 := bt b142 hb116
      have b144 := bt b143 hb127
      have l145 := lq b143 ge125
      have b146 := b144.trans (hb132.mono l145)
      have has147 := hg10.to b146
      refine lz (ow_st 56 (.tmp 2) (.tmp 70) g8 #[.int .u8 (D.src.getD 0 0), .int .u8 (D.src.getD 1 0), .int .u8 (D.src.getD 2 0), .int .u8 (D.src.getD 3 0), .int .u8 (D.src.getD 4 0), .int .u8 (D.src.getD 5 0), .int .u8 (D.src.getD 6 0), .int .u8 (D.src.getD 7 0), .int .u8 (D.src.getD 8 0), .int .u8 (D.src.getD 9 0), .int .u8 (D.src.getD 10 0), .int .u8 (D.src.getD 11 0), .int .u8 (D.src.getD 12 0), .int .u8 (D.src.getD 13 0), .int .u8 (D.src.getD 14 0), .int .u8 (D.src.getD 15 0), .int .u8 (D.dst.getD 0 0), .int .u8 (D.dst.getD 1 0), .int .u8 (D.dst.getD 2 0), .int .u8 (D.dst.getD 3 0), .int .u8 (D.dst.getD 4 0), .int .u8 (D.dst.getD 5 0), .int .u8 (D.dst.getD 6 0), .int .u8 (D.dst.getD 7 0), .int .u8 (D.dst.getD 8 0), .int .u8 (D.dst.getD 9 0), .int .u8 (D.dst.getD 10 0), .int .u8 (D.dst.getD 11 0), .int .u8 (D.dst.getD 12 0), .int .u8 (D.dst.getD 13 0), .int .u8 (D.dst.getD 14 0), .int .u8 (D.dst.getD 15 0)] _ _ rfl (by exact rfl) (by exact rfl) has147 (by kernel_rfl) rfl (by kernel_rfl) ?_)
      intro W135 hg136 bs137 hb138
      have b148 := bt b113 hb116
      have b149 := bt b148 hb127
      have l150 := lq b148 ge125
      have b151 := b149.trans (hb132.mono l150)
      have own152 := hO53.to b151
      have b153 := bt hb116 hb127
      have l154 := lq hb116 ge125
      have b155 := b153.trans (hb132.mono l154)
      have has156 := hg63.to b155
      have l157 : W115.heap.size ≤ g122 := Nat.le_of_eq ge125.symm
      have b158 := hb127.trans (hb132.mono l157)
      have own159 := hO121.to b158
      have z160 := hb138.size
      have own161 := own152.but6 bs137 (by omega)
      have has162 := has156.but6 bs137 (by omega)
      have own163 := own159.but6 bs137 (by omega)
      have has164 := hg130.but6 bs137 (by omega)
      simp only [lay]
      refine lv (.bool true) (by exact xa) ?_
      simp only [lay]
      refine lv (.int .i64 0) (by exact xa) ?_
      simp only [lay]
      refine wn ?_
      refine wp_ret ?_
      try simp only [Exit.then]
      have qp : d.part = false := by unfold D6.part; simp [*]; try omega
      have e : tells18 d = ((D.src, D.dst), true, 0) := by
       unfold tells18
       simp only [hM, hPE, hEr, hD]
       simp only [qp, Bool.false_eq_true, false_or]
       repeat (first | rw [if_pos (by first | assumption | omega | exact ne_true_of_eq_false (by assumption))] | rw [if_neg (by first | assumption | omega | exact ne_true_of_eq_false (by assumption))])
      have b165 := bt b46 hb49
      have b166 := bt b165 hb60
      have l167 := lq b165 ge58
      have b168 := b166.trans (hb65.mono l167)
      have b169 := bt b168 hb116
      have b170 := bt b169 hb127
      have l171 := lq b169 ge125
      have b172 := b170.trans (hb132.mono l171)
      have l173 := lq hb6 ge11
      have b174 := b172.trans (hb138.mono l173)
      exact bodyPost_ret (res_cell3 Try.results21 rfl (hg136.load (P := Try.prog) 56 Try.underlying56 rfl (by kernel_rfl)) rfl rfl) rfl ⟨by rw [e]; rfl, b174⟩
     refine lv (.bool true) (by exact neq_int_ne (by exact rfl) (by exact rfl) (by exact rfl) (by first | assumption | omega)) ?_
     simp only [lay]
     refine wn ?_
     refine cT9 ?_
     refine wp_sr ?_
     refine lv (.agg #[.int .u8 0, .int .u8 0, .int .u8 0, .int .u8 0, .int .u8 0, .int .u8 0, .int .u8 0, .int .u8 0, .int .u8 0, .int .u8 0, .int .u8 0, .int .u8 0, .int .u8 0, .int .u8 0, .int .u8 0, .int .u8 0, .int .u8 0, .int .u8 0, .int .u8 0, .int .u8 0, .int .u8 0, .int .u8 0, .int .u8 0, .int .u8 0, .int .u8 0, .int .u8 0, .int .u8 0, .int .u8 0, .int .u8 0, .int .u8 0, .int .u8 0, .int .u8 0]) (by kernel_rfl) ?_
     simp only [lay]
     have b179 := bt hb19 hb49
     have b180 := bt b179 hb60
     have l181 := lq b179 ge58
     have b182 := b180.trans (hb65.mono l181)
     have b183 := bt b182 hb116
     have b184 := bt b183 hb127
     have l185 := lq b183 ge125
     have b186 := b184.trans (hb132.mono l185)
     have has187 := hg10.to b186
     refine lz (ow_st 56 (.tmp 2) (.tmp 65) g8 #[.int .u8 0, .int .u8 0, .int .u8 0, .int .u8 0, .int .u8 0, .int .u8 0, .int .u8 0, .int .u8 0, .int .u8 0, .int .u8 0, .int .u8 0, .int .u8 0, .int .u8 0, .int .u8 0, .int .u8 0, .int .u8 0, .int .u8 0, .int .u8 0, .int .u8 0, .int .u8 0, .int .u8 0, .int .u8 0, .int .u8 0, .int .u8 0, .int .u8 0, .int .u8 0, .int .u8 0, .int .u8 0, .int .u8 0, .int .u8 0, .int .u8 0, .int .u8 0] _ _ rfl (by exact rfl) (by exact rfl) has187 (by kernel_rfl) rfl (by kernel_rfl) ?_)
     intro W175 hg176 bs177 hb178
     have b188 := bt b113 hb116
     have b189 := bt b188 hb127
     have l190 := lq b188 ge125
     have b191 := b189.trans (hb132.mono l190)
     have own192 := hO53.to b191
     have b193 := bt hb116 hb127
     have l194 := lq hb116 ge125
     have b195 := b193.trans (hb132.mono l194)
     have has196 := hg63.to b195
     have l197 : W115.heap.size ≤ g122 := Nat.le_of_eq ge125.symm
     have b198 := hb127.trans (hb132.mono l197)
     have own199 := hO121.to b198
     have z200 := hb178.size
     have own201 := own192.but6 bs177 (by omega)
     have has202 := has196.but6 bs177 (by omega)
     have own203 := own199.but6 bs177 (by omega)
     have has204 := hg130.but6 bs177 (by omega)
     simp only [lay]
     refine lv (.bool false) (by exact xa) ?_
     simp only [lay]
     refine lv (.int .i64 0) (by exact xa) ?_
     simp only [lay]
     refine wn ?_
     refine wp_ret ?_
     try simp only [Exit.then]
     have qp : d.part = false := by unfold D6.part; simp [*]; try omega
     have e : tells18 d = ((z16, z16), false, 0) := by
      unfold tells18
      simp only [hM, hPE, hEr, hD]
      simp only [qp, Bool.false_eq_true, false_or]
      repeat (first | rw [if_pos (by first | assumption | omega | exact ne_true_of_eq_false (by assumption))] | rw [if_neg (by first | assumption | omega | exact ne_true_of_eq_false (by assumption))])
     have b205 := bt b46 hb49
     have b206 := bt b205 hb60
     have l207 := lq b205 ge58
     have b208 := b206.trans (hb65.mono l207)
     have b209 := bt b208 hb116
     have b210 := bt b209 hb127
     have l211 := lq b209 ge125
     have b212 := b210.trans (hb132.mono l211)
     have l213 := lq hb6 ge11
     have b214 := b212.trans (hb178.mono l213)
     exact bodyPost_ret (res_cell3 Try.results21 rfl (hg176.load (P := Try.prog) 56 Try.underlying56 rfl (by kernel_rfl)) rfl rfl) rfl ⟨by rw [e]; rfl, b214⟩
    refine lv (.bool true) (by exact neq_int_ne (by exact rfl) (by exact rfl) (by exact rfl) (by first | assumption | omega)) ?_
    simp only [lay]
    refine lv (.bool true) (by exact xm) ?_
    simp only [lay]
    refine lzn ?_
    simp only [lay]
    refine lzn ?_
    simp only [lay]
    refine lzn ?_
    simp only [lay]
    refine lv (.bool true) (by exact xp (b := true)) ?_
    simp only [lay]
    refine lv (.bool true) (by exact xm) ?_
    simp only [lay]
    refine lzn ?_
    simp only [lay]
    refine lzn ?_
    simp only [lay]
    refine lzn ?_
    simp only [lay]
    refine lv (.bool true) (by exact xp (b := true)) ?_
    simp only [lay]
    refine wn ?_
    refine cT9 ?_
    refine wp_sr ?_
    refine lv (.agg #[.int .u8 0, .int .u8 0, .int .u8 0, .int .u8 0, .int .u8 0, .int .u8 0, .int .u8 0, .int .u8 0, .int .u8 0, .int .u8 0, .int .u8 0, .int .u8 0, .int .u8 0, .int .u8 0, .int .u8 0, .int .u8 0, .int .u8 0, .int .u8 0, .int .u8 0, .int .u8 0, .int .u8 0, .int .u8 0, .int .u8 0, .int .u8 0, .int .u8 0, .int .u8 0, .int .u8 0, .int .u8 0, .int .u8 0, .int .u8 0, .int .u8 0, .int .u8 0]) (by kernel_rfl) ?_
    simp only [lay]
    have b219 := bt hb19 hb49
    have b220 := bt b219 hb60
    have l221 := lq b219 ge58
    have b222 := b220.trans (hb65.mono l221)
    have has223 := hg10.to b222
    refine lz (ow_st 56 (.tmp 2) (.tmp 55) g8 #[.int .u8 0, .int .u8 0, .int .u8 0, .int .u8 0, .int .u8 0, .int .u8 0, .int .u8 0, .int .u8 0, .int .u8 0, .int .u8 0, .int .u8 0, .int .u8 0, .int .u8 0, .int .u8 0, .int .u8 0, .int .u8 0, .int .u8 0, .int .u8 0, .int .u8 0, .int .u8 0, .int .u8 0, .int .u8 0, .int .u8 0, .int .u8 0, .int .u8 0, .int .u8 0, .int .u8 0, .int .u8 0, .int .u8 0, .int .u8 0, .int .u8 0, .int .u8 0] _ _ rfl (by exact rfl) (by exact rfl) has223 (by kernel_rfl) rfl (by kernel_rfl) ?_)
    intro W215 hg216 bs217 hb218
    have l224 : W48.heap.size ≤ g55 := Nat.le_of_eq ge58.symm
    have b225 := hb60.trans (hb65.mono l224)
    have own226 := hO53.to b225
    have z227 := hb218.size
    have own228 := own226.but6 bs217 (by omega)
    have has229 := hg63.but6 bs217 (by omega)
    simp only [lay]
    refine lv (.bool false) (by exact xa) ?_
    simp only [lay]
    refine lv (.int .i64 0) (by exact xa) ?_
    simp only [lay]
    refine wn ?_
    refine wp_ret ?_
    try simp only [Exit.then]
    have qp : d.part = false := by unfold D6.part; simp [*]; try omega
    have e : tells18 d = ((z16, z16), false, 0) := by
     unfold tells18
     simp only [hM, hPE, hEr, hD]
     simp only [qp, Bool.false_eq_true, false_or]
     repeat (first | rw [if_pos (by first | assumption | omega | exact ne_true_of_eq_false (by assumption))] | rw [if_neg (by first | assumption | omega | exact ne_true_of_eq_false (by assumption))])
    have b230 := bt b46 hb49
    have b231 := bt b230 hb60
    have l232 := lq b230 ge58
    have b233 := b231.trans (hb65.mono l232)
    have l234 := lq hb6 ge11
    have b235 := b233.trans (hb218.mono l234)
    exact bodyPost_ret (res_cell3 Try.results21 rfl (hg216.load (P := Try.prog) 56 Try.underlying56 rfl (by kernel_rfl)) rfl rfl) rfl ⟨by rw [e]; rfl, b235⟩
   refine lv (.bool true) (by exact neq_int_ne (by exact rfl) (by exact rfl) (by exact rfl) (by first | assumption | omega)) ?_
   simp only [lay]
   refine lv (.bool true) (by exact xp (b := false)) ?_
   simp only [lay]
   refine wn ?_
   refine cT9 ?_
   refine wp_sr ?_
   refine lv (.agg #[.int .u8 0, .int .u8 0, .int .u8 0, .int .u8 0, .int .u8 0, .int .u8 0, .int .u8 0, .int .u8 0, .int .u8 0, .int .u8 0, .int .u8 0, .int .u8 0, .int .u8 0, .int .u8 0, .int .u8 0, .int .u8 0, .int .u8 0, .int .u8 0, .int .u8 0, .int .u8 0, .int .u8 0, .int .u8 0, .int .u8 0, .int .u8 0, .int .u8 0, .int .u8 0, .int .u8 0, .int .u8 0, .int .u8 0, .int .u8 0, .int .u8 0, .int .u8 0]) (by kernel_rfl) ?_
   simp only [lay]
   have has240 := hg10.to hb19
   refine lz (ow_st 56 (.tmp 2) (.tmp 32) g8 #[.int .u8 0, .int .u8 0, .int .u8 0, .int .u8 0, .int .u8 0, .int .u8 0, .int .u8 0, .int .u8 0, .int .u8 0, .int .u8 0, .int .u8 0, .int .u8 0, .int .u8 0, .int .u8 0, .int .u8 0, .int .u8 0, .int .u8 0, .int .u8 0, .int .u8 0, .int .u8 0, .int .u8 0, .int .u8 0, .int .u8 0, .int .u8 0, .int .u8 0, .int .u8 0, .int .u8 0, .int .u8 0, .int .u8 0, .int .u8 0, .int .u8 0, .int .u8 0] _ _ rfl (by exact rfl) (by exact rfl) has240 (by kernel_rfl) rfl (by kernel_rfl) ?_)
   intro W236 hg237 bs238 hb239
   have z241 := hb239.size
   simp only [lay]
   refine lv (.bool false) (by exact xa) ?_
   simp only [lay]
   refine lv (.int .i64 0) (by exact xa) ?_
   simp only [lay]
   refine wn ?_
   refine wp_ret ?_
   try simp only [Exit.then]
   have qp : d.part = false := by unfold D6.part; simp [*]; try omega
   have e : tells18 d = ((z16, z16), false, 0) := by
    unfold tells18
    simp only [hM, hPE, hEr, hD]
    simp only [qp, Bool.false_eq_true, false_or]
    repeat (first | rw [if_pos (by first | assumption | omega | exact ne_true_of_eq_false (by assumption))] | rw [if_neg (by first | assumption | omega | exact ne_true_of_eq_false (by assumption))])
   have b242 := bt b16 hb19
   have l243 := lq hb6 ge11
   have b244 := b242.trans (hb239.mono l243)
   exact bodyPost_ret (res_cell3 Try.results21 rfl (hg237.load (P := Try.prog) 56 Try.underlying56 rfl (by kernel_rfl)) rfl rfl) rfl ⟨by rw [e]; rfl, b244⟩
  replace q24 := eq_false_of_ne_true q24
  rw [q24]
  refine lzn ?_
  simp only [lay]
  refine lzn ?_
  simp only [lay]
  refine lzn ?_
  simp only [lay]
  refine lzn ?_
  simp only [lay]
  refine lzn ?_
  simp only [lay]
  refine lzn ?_
  simp only [lay]
  refine lzn ?_
  simp only [lay]
  refine lv (.bool false) (by exact xp (b := false)) ?_
  simp only [lay]
  refine lv (.bool false) (by exact xm) ?_
  simp only [lay]
  refine lv (.pointer (some ⟨g1, 40, none⟩)) (by exact xf 40 0 Try.underlying28) ?_
  simp only [lay]
  refine lv (.int .u8 d.pro) (by exact xc Try.underlying5 (has23.cell 40 rfl)) ?_
  simp only [lay]
  by_cases q245 : d.pro = 58
  case pos =>
   refine lv (.bool false) (by exact neq_int_eq (by exact rfl) (by exact rfl) (by exact rfl) (by first | assumption | omega)) ?_
   simp only [lay]
   refine lv (.bool false) (by exact xp (b := false)) ?_
   simp only [lay]
   refine wn ?_
   refine cF9 ?_
   refine wp_skip ?_
   change Code.wp _ _ _ _ _
   refine wp_sr ?_
   refine lv (.pointer (some ⟨g1, 3, none⟩)) (by exact xf 3 15 Try.underlying28) ?_
   simp only [lay]
   refine lv (.agg #[.int .u8 (d.src.getD 0 0), .int .u8 (d.src.getD 1 0), .int .u8 (d.src.getD 2 0), .int .u8 (d.src.getD 3 0), .int .u8 (d.src.getD 4 0), .int .u8 (d.src.getD 5 0), .int .u8 (d.src.getD 6 0), .int .u8 (d.src.getD 7 0), .int .u8 (d.src.getD 8 0), .int .u8 (d.src.getD 9 0), .int .u8 (d.src.getD 10 0), .int .u8 (d.src.getD 11 0), .int .u8 (d.src.getD 12 0), .int .u8 (d.src.getD 13 0), .int .u8 (d.src.getD 14 0), .int .u8 (d.src.getD 15 0)]) (by exact ex_loadAt (by exact rfl) (by exact rfl) (has23.loadIn (P := Try.prog) 3 [.int .u8 (d.src.getD 0 0), .int .u8 (d.src.getD 1 0), .int .u8 (d.src.getD 2 0), .int .u8 (d.src.getD 3 0), .int .u8 (d.src.getD 4 0), .int .u8 (d.src.getD 5 0), .int .u8 (d.src.getD 6 0), .int .u8 (d.src.getD 7 0), .int .u8 (d.src.getD 8 0), .int .u8 (d.src.getD 9 0), .int .u8 (d.src.getD 10 0), .int .u8 (d.src.getD 11 0), .int .u8 (d.src.getD 12 0), .int .u8 (d.src.getD 13 0), .int .u8 (d.src.getD 14 0), .int .u8 (d.src.getD 15 0)] (by kernel_rfl) 24 Try.underlying24 rfl (by kernel_rfl))) ?_
   simp only [lay]
   refine lv (.pointer (some ⟨g1, 19, none⟩)) (by exact xf 19 15 Try.underlying28) ?_
   simp only [lay]
   refine lv (.agg #[.int .u8 (d.dst.getD 0 0), .int .u8 (d.dst.getD 1 0), .int .u8 (d.dst.getD 2 0), .int .u8 (d.dst.getD 3 0), .int .u8 (d.dst.getD 4 0), .int .u8 (d.dst.getD 5 0), .int .u8 (d.dst.getD 6 0), .int .u8 (d.dst.getD 7 0), .int .u8 (d.dst.getD 8 0), .int .u8 (d.dst.getD 9 0), .int .u8 (d.dst.getD 10 0), .int .u8 (d.dst.getD 11 0), .int .u8 (d.dst.getD 12 0), .int .u8 (d.dst.getD 13 0), .int .u8 (d.dst.getD 14 0), .int .u8 (d.dst.getD 15 0)]) (by exact ex_loadAt (by exact rfl) (by exact rfl) (has23.loadIn (P := Try.prog) 19 [.int .u8 (d.dst.getD 0 0), .int .u8 (d.dst.getD 1 0), .int .u8 (d.dst.getD 2 0), .int .u8 (d.dst.getD 3 0), .int .u8 (d.dst.getD 4 0), .int .u8 (d.dst.getD 5 0), .int .u8 (d.dst.getD 6 0), .int .u8 (d.dst.getD 7 0), .int .u8 (d.dst.getD 8 0), .int .u8 (d.dst.getD 9 0), .int .u8 (d.dst.getD 10 0), .int .u8 (d.dst.getD 11 0), .int .u8 (d.dst.getD 12 0), .int .u8 (d.dst.getD 13 0), .int .u8 (d.dst.getD 14 0), .int .u8 (d.dst.getD 15 0)] (by kernel_rfl) 24 Try.underlying24 rfl (by kernel_rfl))) ?_
   simp only [lay]
   refine lv (.pointer (some ⟨g1, 41, none⟩)) (by exact xf 41 0 Try.underlying28) ?_
   simp only [lay]
   refine lv (.slice p.bA d.bl.length p.bc) (by exact xc Try.underlying26 (has23.cell 41 rfl)) ?_
   simp only [lay]
   have b246 := bt b16 hb19
   have by247 := yb6.to b246
   refine lz (ow_call (fun v w' => (∃ A' c', v = .tuple #[.agg (M.cells A' c'), .int .i64 PE] ∧ M.ok ∧ OwnB w' W18.heap.size (.slice A' M.bl.length c') M.bl) ∧ Below W18.heap.size W18 w') (by exact xk Try.func32) (by have := iparse6_x hR.ok.srcL hR.ok.dstL hR.ok.src hR.ok.dst by247; rw [show pse6 d.src d.dst d.bl.length 58 = ps18 d from rfl, hM, hPE] at this; exact this) ?_)
   rintro _ W248 ⟨⟨A250, c251, rfl, hk252, hO253⟩, hb249⟩
   have z254 := hb249.size
   simp only [lay]
   refine lv (.tuple #[.agg (M.cells A250 c251), .int .i64 PE]) (by exact xm) ?_
   simp only [lay]
   refine lv (.agg (M.cells A250 c251)) (by exact xe) ?_
   simp only [lay]
   refine lv (.int .i64 PE) (by exact xe) ?_
   simp only [lay]
   refine lz (oa #[.int .u8 0, .int .u8 0, .int .u32 0, .slice none 0 0] ?_)
   intro g255 W256 hg257 ge258 sz259 hb260
   have z261 := hb260.size
   simp only [lay]
   refine lz (ow_st 43 (.tmp 6) (.tmp 41) g255 (M.cells A250 c251) _ _ rfl (by exact rfl) (by exact rfl) hg257 (by kernel_rfl) rfl (by kernel_rfl) ?_)
   intro W262 hg263 bs264 hb265
   have z266 := hb265.size
   simp only [lay]
   refine lv (.int .i64 PE) (by exact xa) ?_
   simp only [lay]
   refine wn ?_
   refine wp_seq ?_
   refine wp_sr ?_
   refine lv (.int .i64 PE) (by exact xm) ?_
   simp only [lay]
   by_cases q267 : PE = 0
   case pos =>
    refine lv (.bool false) (by exact neq_int_eq (by exact rfl) (by exact rfl) (by exact rfl) (by first | assumption | omega)) ?_
    simp only [lay]
    refine lv (.bool false) (by exact xm) ?_
    simp only [lay]
    refine lv (.pointer (some ⟨g255, 0, none⟩)) (by exact xf 0 0 Try.underlying43) ?_
    simp only [lay]
    refine lv (.int .u8 M.ty) (by exact xc Try.underlying5 (hg263.cell 0 rfl)) ?_
    simp only [lay]
    by_cases q268 : M.ty < 1
    case pos =>
     refine lv (.bool true) (by exact ex_lss (by exact rfl) (by exact rfl) (by exact rfl) (decide_eq_true (by first | assumption | omega | decide))) ?_
     simp only [lay]
     refine lv (.bool true) (by exact xp (b := false)) ?_
     simp only [lay]
     refine lv (.bool true) (by exact xm) ?_
     simp only [lay]
     refine lzn ?_
     simp only [lay]
     refine lzn ?_
     simp only [lay]
     refine lzn ?_
     simp only [lay]
     refine lv (.bool true) (by exact xp (b := true)) ?_
     simp only [lay]
     refine wn ?_
     refine cT9 ?_
     refine wp_sr ?_
     refine lv (.agg #[.int .u8 0, .int .u8 0, .int .u8 0, .int .u8 0, .int .u8 0, .int .u8 0, .int .u8 0, .int .u8 0, .int .u8 0, .int .u8 0, .int .u8 0, .int .u8 0, .int .u8 0, .int .u8 0, .int .u8 0, .int .u8 0, .int .u8 0, .int .u8 0, .int .u8 0, .int .u8 0, .int .u8 0, .int .u8 0, .int .u8 0, .int .u8 0, .int .u8 0, .int .u8 0, .int .u8 0, .int .u8 0, .int .u8 0, .int .u8 0, .int .u8 0, .int .u8 0]) (by kernel_rfl) ?_
     simp only [lay]
     have b273 := bt hb19 hb249
     have b274 := bt b273 hb260
     have l275 := lq b273 ge258
     have b276 := b274.trans (hb265.mono l275)
     have has277 := hg10.to b276
     refine lz (ow_st 56 (.tmp 2) (.tmp 55) g8 #[.int .u8 0, .int .u8 0, .int .u8 0, .int .u8 0, .int .u8 0, .int .u8 0, .int .u8 0, .int .u8 0, .int .u8 0, .int .u8 0, .int .u8 0, .int .u8 0, .int .u8 0, .int .u8 0, .int .u8 0, .int .u8 0, .int .u8 0, .int .u8 0, .int .u8 0, .int .u8 0, .int .u8 0, .int .u8 0, .int .u8 0, .int .u8 0, .int .u8 0, .int .u8 0, .int .u8 0, .int .u8 0, .int .u8 0, .int .u8 0, .int .u8 0, .int .u8 0] _ _ rfl (by exact rfl) (by exact rfl) has277 (by kernel_rfl) rfl (by kernel_rfl) ?_)
     intro W269 hg270 bs271 hb272
     have l278 : W248.heap.size ≤ g255 := Nat.le_of_eq ge258.symm
     have b279 := hb260.trans (hb265.mono l278)
     have own280 := hO253.to b279
     have z281 := hb272.size
     have own282 := own280.but6 bs271 (by omega)
     have has283 := hg263.but6 bs271 (by omega)
     simp only [lay]
     refine lv (.bool false) (by exact xa) ?_
     simp only [lay]
     refine lv (.int .i64 0) (by exact xa) ?_
     simp only [lay]
     refine wn ?_
     refine wp_ret ?_
     try simp only [Exit.then]
     have qp : d.part = false := by unfold D6.part; simp [*]; try omega
     have e : tells18 d = ((z16, z16), false, 0) := by
      unfold tells18
      simp only [hM, hPE, hEr, hD]
      simp only [qp, Bool.false_eq_true, false_or]
      repeat (first | rw [if_pos (by first | assumption | omega | exact ne_true_of_eq_false (by assumption))] | rw [if_neg (by first | assumption | omega | exact ne_true_of_eq_false (by assumption))])
     have b284 := bt b246 hb249
     have b285 := bt b284 hb260
     have l286 := lq b284 ge258
     have b287 := b285.trans (hb265.mono l286)
     have l288 := lq hb6 ge11
     have b289 := b287.trans (hb272.mono l288)
     exact bodyPost_ret (res_cell3 Try.results21 rfl (hg270.load (P := Try.prog) 56 Try.underlying56 rfl (by kernel_rfl)) rfl rfl) rfl ⟨by rw [e]; rfl, b289⟩
    refine lv (.bool false) (by exact ex_lss (by exact rfl) (by exact rfl) (by exact rfl) (decide_eq_false (by first | assumption | omega | decide))) ?_
    simp only [lay]
    refine lv (.bool false) (by exact xp (b := false)) ?_
    simp only [lay]
    refine lv (.bool false) (by exact xm) ?_
    simp only [lay]
    refine lv (.pointer (some ⟨g255, 0, none⟩)) (by exact xf 0 0 Try.underlying43) ?_
    simp only [lay]
    refine lv (.int .u8 M.ty) (by exact xc Try.underlying5 (hg263.cell 0 rfl)) ?_
    simp only [lay]
    by_cases q290 : M.ty > 4
    case pos =>
     refine lv (.bool true) (by exact ex_gtr (by exact rfl) (by exact rfl) (by exact rfl) (decide_eq_true (by first | assumption | omega | decide))) ?_
     simp only [lay]
     refine lv (.bool true) (by exact xp (b := false)) ?_
     simp only [lay]
     refine wn ?_
     refine cT9 ?_
     refine wp_sr ?_
     refine lv (.agg #[.int .u8 0, .int .u8 0, .int .u8 0, .int .u8 0, .int .u8 0, .int .u8 0, .int .u8 0, .int .u8 0, .int .u8 0, .int .u8 0, .int .u8 0, .int .u8 0, .int .u8 0, .int .u8 0, .int .u8 0, .int .u8 0, .int .u8 0, .int .u8 0, .int .u8 0, .int .u8 0, .int .u8 0, .int .u8 0, .int .u8 0, .int .u8 0, .int .u8 0, .int .u8 0, .int .u8 0, .int .u8 0, .int .u8 0, .int .u8 0, .int .u8 0, .int .u8 0]) (by kernel_rfl) ?_
     simp only [lay]
     have b295 := bt hb19 hb249
     have b296 := bt b295 hb260
     have l297 := lq b295 ge258
     have b298 := b296.trans (hb265.mono l297)
     have has299 := hg10.to b298
     refine lz (ow_st 56 (.tmp 2) (.tmp 55) g8 #[.int .u8 0, .int .u8 0, .int .u8 0, .int .u8 0, .int .u8 0, .int .u8 0, .int .u8 0, .int .u8 0, .int .u8 0, .int .u8 0, .int .u8 0, .int .u8 0, .int .u8 0, .int .u8 0, .int .u8 0, .int .u8 0, .int .u8 0, .int .u8 0, .int .u8 0, .int .u8 0, .int .u8 0, .int .u8 0, .int .u8 0, .int .u8 0, .int .u8 0, .int .u8 0, .int .u8 0, .int .u8 0, .int .u8 0, .int .u8 0, .int .u8 0, .int .u8 0] _ _ rfl (by exact rfl) (by exact rfl) has299 (by kernel_rfl) rfl (by kernel_rfl) ?_)
     intro W291 hg292 bs293 hb294
     have l300 : W248.heap.size ≤ g255 := Nat.le_of_eq ge258.symm
     have b301 := hb260.trans (hb265.mono l300)
     have own302 := hO253.to b301
     have z303 := hb294.size
     have own304 := own302.but6 bs293 (by omega)
     have has305 := hg263.but6 bs293 (by omega)
     simp only [lay]
     refine lv (.bool false) (by exact xa) ?_
     simp only [lay]
     refine lv (.int .i64 0) (by exact xa) ?_
     simp only [lay]
     refine wn ?_
     refine wp_ret ?_
     try simp only [Exit.then]
     have qp : d.part = false := by unfold D6.part; simp [*]; try omega
     have e : tells18 d = ((z16, z16), false, 0) := by
      unfold tells18
      simp only [hM, hPE, hEr, hD]
      simp only [qp, Bool.false_eq_true, false_or]
      repeat (first | rw [if_pos (by first | assumption | omega | exact ne_true_of_eq_false (by assumption))] | rw [if_neg (by first | assumption | omega | exact ne_true_of_eq_false (by assumption))])
     have b306 := bt b246 hb249
     have b307 := bt b306 hb260
     have l308 := lq b306 ge258
     have b309 := b307.trans (hb265.mono l308)
     have l310 := lq hb6 ge11
     have b311 := b309.trans (hb294.mono l310)
     exact bodyPost_ret (res_cell3 Try.results21 rfl (hg292.load (P := Try.prog) 56 Try.underlying56 rfl (by kernel_rfl)) rfl rfl) rfl ⟨by rw [e]; rfl, b311⟩
    refine lv (.bool false) (by exact ex_gtr (by exact rfl) (by exact rfl) (by exact rfl) (decide_eq_false (by first | assumption | omega | decide))) ?_
    simp only [lay]
    refine lv (.bool false) (by exact xp (b := false)) ?_
    simp only [lay]
    refine wn ?_
    refine cF9 ?_
    refine wp_skip ?_
    change Code.wp _ _ _ _ _
    refine wp_sr ?_
    refine lv (.pointer (some ⟨g255, 3, none⟩)) (by exact xf 3 0 Try.underlying43) ?_
    simp only [lay]
    refine lv (.slice A250 M.bl.length c251) (by exact xc Try.underlying26 (hg263.cell 3 rfl)) ?_
    simp only [lay]
    have l312 : W248.heap.size ≤ g255 := Nat.le_of_eq ge258.symm
    have b313 := hb260.trans (hb265.mono l312)
    have own314 := hO253.to b313
    refine lz (ow_call (fun v w' => (∃ p, v = .tuple #[.agg (D.cells p), .int .i64 PT, .int .i64 E] ∧ Own6 w' W262.heap.size D p) ∧ Below W262.heap.size W262 w') (by exact xk Try.func48) (by have := ppart6_x (own_byS own314); rw [hD, hEr, hPT] at this; exact this) ?_)
    rintro _ W315 ⟨⟨p317, rfl, ho318⟩, hb316⟩
    have z319 := hb316.size
    have hr320 := ho318.rd
    have hO321 := ho318.body
    simp only [lay]
    refine lv (.tuple #[.agg (D.cells p317), .int .i64 PT, .int .i64 E]) (by exact xm) ?_
    simp only [lay]
    refine lv (.agg (D.cells p317)) (by exact xe) ?_
    simp only [lay]
    refine lv (.int .i64 PT) (by exact xe) ?_
    simp only [lay]
    refine lv (.int .i64 E) (by exact xe) ?_
    simp only [lay]
    refine lz (oa #[.int .u8 0, .int .u32 0, .int .u8 0, .int .u8 0, .int .u8 0, .int .u8 0, .int .u8 0, .int .u8 0, .int .u8 0, .int .u8 0, .int .u8 0, .int .u8 0, .int .u8 0, .int .u8 0, .int .u8 0, .int .u8 0, .int .u8 0, .int .u8 0, .int .u8 0, .int .u8 0, .int .u8 0, .int .u8 0, .int .u8 0, .int .u8 0, .int .u8 0, .int .u8 0, .int .u8 0, .int .u8 0, .int .u8 0, .int .u8 0, .int .u8 0, .int .u8 0, .int .u8 0, .int .u8 0, .int .u8 0, .slice none 0 0, .bool false, .int .u32 0, .int .i64 0, .bool false, .int .u8 0, .slice none 0 0] ?_)
    intro g322 W323 hg324 ge325 sz326 hb327
    have z328 := hb327.size
    simp only [lay]
    refine lz (ow_st 28 (.tmp 8) (.tmp 60) g322 (D.cells p317) _ _ rfl (by exact rfl) (by exact rfl) hg324 (by kernel_rfl) rfl (by kernel_rfl) ?_)
    intro W329 hg330 bs331 hb332
    have z333 := hb332.size
    simp only [lay]
    refine lv (.int .i64 PT) (by exact xa) ?_
    simp only [lay]
    refine lv (.int .i64 E) (by exact xa) ?_
    simp only [lay]
    refine wn ?_
    refine wp_seq ?_
    refine wp_sr ?_
    refine lv (.int .i64 E) (by exact xm) ?_
    simp only [lay]
    by_cases q334 : E = 0
    case pos =>
     refine lv (.bool false) (by exact neq_int_eq (by exact rfl) (by exact rfl) (by exact rfl) (by first | assumption | omega)) ?_
     simp only [lay]
     refine wn ?_
     refine cF9 ?_
     refine wp_skip ?_
     change Code.wp _ _ _ _ _
     refine wp_sr ?_
     refine lv (.pointer (some ⟨g322, 3, none⟩)) (by exact xf 3 15 Try.underlying28) ?_
     simp only [lay]
     refine lv (.agg #[.int .u8 (D.src.getD 0 0), .int .u8 (D.src.getD 1 0), .int .u8 (D.src.getD 2 0), .int .u8 (D.src.getD 3 0), .int .u8 (D.src.getD 4 0), .int .u8 (D.src.getD 5 0), .int .u8 (D.src.getD 6 0), .int .u8 (D.src.getD 7 0), .int .u8 (D.src.getD 8 0), .int .u8 (D.src.getD 9 0), .int .u8 (D.src.getD 10 0), .int .u8 (D.src.getD 11 0), .int .u8 (D.src.getD 12 0), .int .u8 (D.src.getD 13 0), .int .u8 (D.src.getD 14 0), .int .u8 (D.src.getD 15 0)]) (by exact ex_loadAt (by exact rfl) (by exact rfl) (hg330.loadIn (P := Try.prog) 3 [.int .u8 (D.src.getD 0 0), .int .u8 (D.src.getD 1 0), .int .u8 (D.src.getD 2 0), .int .u8 (D.src.getD 3 0), .int .u8 (D.src.getD 4 0), .int .u8 (D.src.getD 5 0), .int .u8 (D.src.getD 6 0), .int .u8 (D.src.getD 7 0), .int .u8 (D.src.getD 8 0), .int .u8 (D.src.getD 9 0), .int .u8 (D.src.getD 10 0), .int .u8 (D.src.getD 11 0), .int .u8 (D.src.getD 12 0), .int .u8 (D.src.getD 13 0), .int .u8 (D.src.getD 14 0), .int .u8 (D.src.getD 15 0)] (by kernel_rfl) 24 Try.underlying24 rfl (by kernel_rfl))) ?_
     simp only [lay]
     refine lv (.pointer (some ⟨g322, 19, none⟩)) (by exact xf 19 15 Try.underlying28) ?_
     simp only [lay]
     refine lv (.agg #[.int .u8 (D.dst.getD 0 0), .int .u8 (D.dst.getD 1 0), .int .u8 (D.dst.getD 2 0), .int .u8 (D.dst.getD 3 0), .int .u8 (D.dst.getD 4 0), .int .u8 (D.dst.getD 5 0), .int .u8 (D.dst.getD 6 0), .int .u8 (D.dst.getD 7 0), .int .u8 (D.dst.getD 8 0), .int .u8 (D.dst.getD 9 0), .int .u8 (D.dst.getD 10 0), .int .u8 (D.dst.getD 11 0), .int .u8 (D.dst.getD 12 0), .int .u8 (D.dst.getD 13 0), .int .u8 (D.dst.getD 14 0), .int .u8 (D.dst.getD 15 0)]) (by exact ex_loadAt (by exact rfl) (by exact rfl) (hg330.loadIn (P := Try.prog) 19 [.int .u8 (D.dst.getD 0 0), .int .u8 (D.dst.getD 1 0), .int .u8 (D.dst.getD 2 0), .int .u8 (D.dst.getD 3 0), .int .u8 (D.dst.getD 4 0), .int .u8 (D.dst.getD 5 0), .int .u8 (D.dst.getD 6 0), .int .u8 (D.dst.getD 7 0), .int .u8 (D.dst.getD 8 0), .int .u8 (D.dst.getD 9 0), .int .u8 (D.dst.getD 10 0), .int .u8 (D.dst.getD 11 0), .int .u8 (D.dst.getD 12 0), .int .u8 (D.dst.getD 13 0), .int .u8 (D.dst.getD 14 0), .int .u8 (D.dst.getD 15 0)] (by kernel_rfl) 24 Try.underlying24 rfl (by kernel_rfl))) ?_
     simp only [lay]
     refine lv (.agg #[.int .u8 (D.src.getD 0 0), .int .u8 (D.src.getD 1 0), .int .u8 (D.src.getD 2 0), .int .u8 (D.src.getD 3 0), .int .u8 (D.src.getD 4 0), .int .u8 (D.src.getD 5 0), .int .u8 (D.src.getD 6 0), .int .u8 (D.src.getD 7 0), .int .u8 (D.src.getD 8 0), .int .u8 (D.src.getD 9 0), .int .u8 (D.src.getD 10 0), .int .u8 (D.src.getD 11 0), .int .u8 (D.src.getD 12 0), .int .u8 (D.src.getD 13 0), .int .u8 (D.src.getD 14 0), .int .u8 (D.src.getD 15 0), .int .u8 (D.dst.getD 0 0), .int .u8 (D.dst.getD 1 0), .int .u8 (D.dst.getD 2 0), .int .u8 (D.dst.getD 3 0), .int .u8 (D.dst.getD 4 0), .int .u8 (D.dst.getD 5 0), .int .u8 (D.dst.getD 6 0), .int .u8 (D.dst.getD 7 0), .int .u8 (D.dst.getD 8 0), .int .u8 (D.dst.getD 9 0), .int .u8 (D.dst.getD 10 0), .int .u8 (D.dst.getD 11 0), .int .u8 (D.dst.getD 12 0), .int .u8 (D.dst.getD 13 0), .int .u8 (D.dst.getD 14 0), .int .u8 (D.dst.getD 15 0)]) (by kernel_rfl) ?_
     simp only [lay]
     have b339 := bt hb19 hb249
     have b340 := bt b339 hb260
     have l341 := lq b339 ge258
     have b342 := b340.trans (hb265.mono l341)
     have b343 := bt b342 hb316
     have b344 := bt b343 hb327
     have l345 := lq b343 ge325
     have b346 := b344.trans (hb332.mono l345)
     have has347 := hg10.to b346
     refine lz (ow_st 56 (.tmp 2) (.tmp 70) g8 #[.int .u8 (D.src.getD 0 0), .int .u8 (D.src.getD 1 0), .int .u8 (D.src.getD 2 0), .int .u8 (D.src.getD 3 0), .int .u8 (D.src.getD 4 0), .int .u8 (D.src.getD 5 0), .int .u8 (D.src.getD 6 0), .int .u8 (D.src.getD 7 0), .int .u8 (D.src.getD 8 0), .int .u8 (D.src.getD 9 0), .int .u8 (D.src.getD 10 0), .int .u8 (D.src.getD 11 0), .int .u8 (D.src.getD 12 0), .int .u8 (D.src.getD 13 0), .int .u8 (D.src.getD 14 0), .int .u8 (D.src.getD 15 0), .int .u8 (D.dst.getD 0 0), .int .u8 (D.dst.getD 1 0), .int .u8 (D.dst.getD 2 0), .int .u8 (D.dst.getD 3 0), .int .u8 (D.dst.getD 4 0), .int .u8 (D.dst.getD 5 0), .int .u8 (D.dst.getD 6 0), .int .u8 (D.dst.getD 7 0), .int .u8 (D.dst.getD 8 0), .int .u8 (D.dst.getD 9 0), .int .u8 (D.dst.getD 10 0), .int .u8 (D.dst.getD 11 0), .int .u8 (D.dst.getD 12 0), .int .u8 (D.dst.getD 13 0), .int .u8 (D.dst.getD 14 0), .int .u8 (D.dst.getD 15 0)] _ _ rfl (by exact rfl) (by exact rfl) has347 (by kernel_rfl) rfl (by kernel_rfl) ?_)
     intro W335 hg336 bs337 hb338
     have b348 := bt b313 hb316
     have b349 := bt b348 hb327
     have l350 := lq b348 ge325
     have b351 := b349.trans (hb332.mono l350)
     have own352 := hO253.to b351
     have b353 := bt hb316 hb327
     have l354 := lq hb316 ge325
     have b355 := b353.trans (hb332.mono l354)
     have has356 := hg263.to b355
     have l357 : W315.heap.size ≤ g322 := Nat.le_of_eq ge325.symm
     have b358 := hb327.trans (hb332.mono l357)
     have own359 := hO321.to b358
     have z360 := hb338.size
     have own361 := own352.but6 bs337 (by omega)
     have has362 := has356.but6 bs337 (by omega)
     have own363 := own359.but6 bs337 (by omega)
     have has364 := hg330.but6 bs337 (by omega)
     simp only [lay]
     refine lv (.bool true) (by exact xa) ?_
     simp only [lay]
     refine lv (.int .i64 0) (by exact xa) ?_
     simp only [lay]
     refine wn ?_
     refine wp_ret ?_
     try simp only [Exit.then]
     have qp : d.part = false := by unfold D6.part; simp [*]; try omega
     have e : tells18 d = ((D.src, D.dst), true, 0) := by
      unfold tells18
      simp only [hM, hPE, hEr, hD]
      simp only [qp, Bool.false_eq_true, false_or]
      repeat (first | rw [if_pos (by first | assumption | omega | exact ne_true_of_eq_false (by assumption))] | rw [if_neg (by first | assumption | omega | exact ne_true_of_eq_false (by assumption))])
     have b365 := bt b246 hb249
     have b366 := bt b365 hb260
     have l367 := lq b365 ge258
     have b368 := b366.trans (hb265.mono l367)
     have b369 := bt b368 hb316
     have b370 := bt b369 hb327
     have l371 := lq b369 ge325
     have b372 := b370.trans (hb332.mono l371)
     have l373 := lq hb6 ge11
     have b374 := b372.trans (hb338.mono l373)
     exact bodyPost_ret (res_cell3 Try.results21 rfl (hg336.load (P := Try.prog) 56 Try.underlying56 rfl (by kernel_rfl)) rfl rfl) rfl ⟨by rw [e]; rfl, b374⟩
    refine lv (.bool true) (by exact neq_int_ne (by exact rfl) (by exact rfl) (by exact rfl) (by first | assumption | omega)) ?_
    simp only [lay]
    refine wn ?_
    refine cT9 ?_
    refine wp_sr ?_
    refine lv (.agg #[.int .u8 0, .int .u8 0, .int .u8 0, .int .u8 0, .int .u8 0, .int .u8 0, .int .u8 0, .int .u8 0, .int .u8 0, .int .u8 0, .int .u8 0, .int .u8 0, .int .u8 0, .int .u8 0, .int .u8 0, .int .u8 0, .int .u8 0, .int .u8 0, .int .u8 0, .int .u8 0, .int .u8 0, .int .u8 0, .int .u8 0, .int .u8 0, .int .u8 0, .int .u8 0, .int .u8 0, .int .u8 0, .int .u8 0, .int .u8 0, .int .u8 0, .int .u8 0]) (by kernel_rfl) ?_
    simp only [lay]
    have b379 := bt hb19 hb249
    have b380 := bt b379 hb260
    have l381 := lq b379 ge258
    have b382 := b380.trans (hb265.mono l381)
    have b383 := bt b382 hb316
    have b384 := bt b383 hb327
    have l385 := lq b383 ge325
    have b386 := b384.trans (hb332.mono l385)
    have has387 := hg10.to b386
    refine lz (ow_st 56 (.tmp 2) (.tmp 65) g8 #[.int .u8 0, .int .u8 0, .int .u8 0, .int .u8 0, .int .u8 0, .int .u8 0, .int .u8 0, .int .u8 0, .int .u8 0, .int .u8 0, .int .u8 0, .int .u8 0, .int .u8 0, .int .u8 0, .int .u8 0, .int .u8 0, .int .u8 0, .int .u8 0, .int .u8 0, .int .u8 0, .int .u8 0, .int .u8 0, .int .u8 0, .int .u8 0, .int .u8 0, .int .u8 0, .int .u8 0, .int .u8 0, .int .u8 0, .int .u8 0, .int .u8 0, .int .u8 0] _ _ rfl (by exact rfl) (by exact rfl) has387 (by kernel_rfl) rfl (by kernel_rfl) ?_)
    intro W375 hg376 bs377 hb378
    have b388 := bt b313 hb316
    have b389 := bt b388 hb327
    have l390 := lq b388 ge325
    have b391 := b389.trans (hb332.mono l390)
    have own392 := hO253.to b391
    have b393 := bt hb316 hb327
    have l394 := lq hb316 ge325
    have b395 := b393.trans (hb332.mono l394)
    have has396 := hg263.to b395
    have l397 : W315.heap.size ≤ g322 := Nat.le_of_eq ge325.symm
    have b398 := hb327.trans (hb332.mono l397)
    have own399 := hO321.to b398
    have z400 := hb378.size
    have own401 := own392.but6 bs377 (by omega)
    have has402 := has396.but6 bs377 (by omega)
    have own403 := own399.but6 bs377 (by omega)
    have has404 := hg330.but6 bs377 (by omega)
    simp only [lay]
    refine lv (.bool false) (by exact xa) ?_
    simp only [lay]
    refine lv (.int .i64 0) (by exact xa) ?_
    simp only [lay]
    refine wn ?_
    refine wp_ret ?_
    try simp only [Exit.then]
    have qp : d.part = false := by unfold D6.part; simp [*]; try omega
    have e : tells18 d = ((z16, z16), false, 0) := by
     unfold tells18
     simp only [hM, hPE, hEr, hD]
     simp only [qp, Bool.false_eq_true, false_or]
     repeat (first | rw [if_pos (by first | assumption | omega | exact ne_true_of_eq_false (by assumption))] | rw [if_neg (by first | assumption | omega | exact ne_true_of_eq_false (by assumption))])
    have b405 := bt b246 hb249
    have b406 := bt b405 hb260
    have l407 := lq b405 ge258
    have b408 := b406.trans (hb265.mono l407)
    have b409 := bt b408 hb316
    have b410 := bt b409 hb327
    have l411 := lq b409 ge325
    have b412 := b410.trans (hb332.mono l411)
    have l413 := lq hb6 ge11
    have b414 := b412.trans (hb378.mono l413)
    exact bodyPost_ret (res_cell3 Try.results21 rfl (hg376.load (P := Try.prog) 56 Try.underlying56 rfl (by kernel_rfl)) rfl rfl) rfl ⟨by rw [e]; rfl, b414⟩
   refine lv (.bool true) (by exact neq_int_ne (by exact rfl) (by exact rfl) (by exact rfl) (by first | assumption | omega)) ?_
   simp only [lay]
   refine lv (.bool true) (by exact xm) ?_
   simp only [lay]
   refine lzn ?_
   simp only [lay]
   refine lzn ?_
   simp only [lay]
   refine lzn ?_
   simp only [lay]
   refine lv (.bool true) (by exact xp (b := true)) ?_
   simp only [lay]
   refine lv (.bool true) (by exact xm) ?_
   simp only [lay]
   refine lzn ?_
   simp only [lay]
   refine lzn ?_
   simp only [lay]
   refine lzn ?_
   simp only [lay]
   refine lv (.bool true) (by exact xp (b := true)) ?_
   simp only [lay]
   refine wn ?_
   refine cT9 ?_
   refine wp_sr ?_
   refine lv (.agg #[.int .u8 0, .int .u8 0, .int .u8 0, .int .u8 0, .int .u8 0, .int .u8 0, .int .u8 0, .int .u8 0, .int .u8 0, .int .u8 0, .int .u8 0, .int .u8 0, .int .u8 0, .int .u8 0, .int .u8 0, .int .u8 0, .int .u8 0, .int .u8 0, .int .u8 0, .int .u8 0, .int .u8 0, .int .u8 0, .int .u8 0, .int .u8 0, .int .u8 0, .int .u8 0, .int .u8 0, .int .u8 0, .int .u8 0, .int .u8 0, .int .u8 0, .int .u8 0]) (by kernel_rfl) ?_
   simp only [lay]
   have b419 := bt hb19 hb249
   have b420 := bt b419 hb260
   have l421 := lq b419 ge258
   have b422 := b420.trans (hb265.mono l421)
   have has423 := hg10.to b422
   refine lz (ow_st 56 (.tmp 2) (.tmp 55) g8 #[.int .u8 0, .int .u8 0, .int .u8 0, .int .u8 0, .int .u8 0, .int .u8 0, .int .u8 0, .int .u8 0, .int .u8 0, .int .u8 0, .int .u8 0, .int .u8 0, .int .u8 0, .int .u8 0, .int .u8 0, .int .u8 0, .int .u8 0, .int .u8 0, .int .u8 0, .int .u8 0, .int .u8 0, .int .u8 0, .int .u8 0, .int .u8 0, .int .u8 0, .int .u8 0, .int .u8 0, .int .u8 0, .int .u8 0, .int .u8 0, .int .u8 0, .int .u8 0] _ _ rfl (by exact rfl) (by exact rfl) has423 (by kernel_rfl) rfl (by kernel_rfl) ?_)
   intro W415 hg416 bs417 hb418
   have l424 : W248.heap.size ≤ g255 := Nat.le_of_eq ge258.symm
   have b425 := hb260.trans (hb265.mono l424)
   have own426 := hO253.to b425
   have z427 := hb418.size
   have own428 := own426.but6 bs417 (by omega)
   have has429 := hg263.but6 bs417 (by omega)
   simp only [lay]
   refine lv (.bool false) (by exact xa) ?_
   simp only [lay]
   refine lv (.int .i64 0) (by exact xa) ?_
   simp only [lay]
   refine wn ?_
   refine wp_ret ?_
   try simp only [Exit.then]
   have qp : d.part = false := by unfold D6.part; simp [*]; try omega
   have e : tells18 d = ((z16, z16), false, 0) := by
    unfold tells18
    simp only [hM, hPE, hEr, hD]
    simp only [qp, Bool.false_eq_true, false_or]
    repeat (first | rw [if_pos (by first | assumption | omega | exact ne_true_of_eq_false (by assumption))] | rw [if_neg (by first | assumption | omega | exact ne_true_of_eq_false (by assumption))])
   have b430 := bt b246 hb249
   have b431 := bt b430 hb260
   have l432 := lq b430 ge258
   have b433 := b431.trans (hb265.mono l432)
   have l434 := lq hb6 ge11
   have b435 := b433.trans (hb418.mono l434)
   exact bodyPost_ret (res_cell3 Try.results21 rfl (hg416.load (P := Try.prog) 56 Try.underlying56 rfl (by kernel_rfl)) rfl rfl) rfl ⟨by rw [e]; rfl, b435⟩
  refine lv (.bool true) (by exact neq_int_ne (by exact rfl) (by exact rfl) (by exact rfl) (by first | assumption | omega)) ?_
  simp only [lay]
  refine lv (.bool true) (by exact xp (b := false)) ?_
  simp only [lay]
  refine wn ?_
  refine cT9 ?_
  refine wp_sr ?_
  refine lv (.agg #[.int .u8 0, .int .u8 0, .int .u8 0, .int .u8 0, .int .u8 0, .int .u8 0, .int .u8 0, .int .u8 0, .int .u8 0, .int .u8 0, .int .u8 0, .int .u8 0, .int .u8 0, .int .u8 0, .int .u8 0, .int .u8 0, .int .u8 0, .int .u8 0, .int .u8 0, .int .u8 0, .int .u8 0, .int .u8 0, .int .u8 0, .int .u8 0, .int .u8 0, .int .u8 0, .int .u8 0, .int .u8 0, .int .u8 0, .int .u8 0, .int .u8 0, .int .u8 0]) (by kernel_rfl) ?_
  simp only [lay]
  have has440 := hg10.to hb19
  refine lz (ow_st 56 (.tmp 2) (.tmp 32) g8 #[.int .u8 0, .int .u8 0, .int .u8 0, .int .u8 0, .int .u8 0, .int .u8 0, .int .u8 0, .int .u8 0, .int .u8 0, .int .u8 0, .int .u8 0, .int .u8 0, .int .u8 0, .int .u8 0, .int .u8 0, .int .u8 0, .int .u8 0, .int .u8 0, .int .u8 0, .int .u8 0, .int .u8 0, .int .u8 0, .int .u8 0, .int .u8 0, .int .u8 0, .int .u8 0, .int .u8 0, .int .u8 0, .int .u8 0, .int .u8 0, .int .u8 0, .int .u8 0] _ _ rfl (by exact rfl) (by exact rfl) has440 (by kernel_rfl) rfl (by kernel_rfl) ?_)
  intro W436 hg437 bs438 hb439
  have z441 := hb439.size
  simp only [lay]
  refine lv (.bool false) (by exact xa) ?_
  simp only [lay]
  refine lv (.int .i64 0) (by exact xa) ?_
  simp only [lay]
  refine wn ?_
  refine wp_ret ?_
  try simp only [Exit.then]
  have qp : d.part = false := by unfold D6.part; simp [*]; try omega
  have e : tells18 d = ((z16, z16), false, 0) := by
   unfold tells18
   simp only [hM, hPE, hEr, hD]
   simp only [qp, Bool.false_eq_true, false_or]
   repeat (first | rw [if_pos (by first | assumption | omega | exact ne_true_of_eq_false (by assumption))] | rw [if_neg (by first | assumption | omega | exact ne_true_of_eq_false (by assumption))])
  have b442 := bt b16 hb19
  have l443 := lq hb6 ge11
  have b444 := b442.trans (hb439.mono l443)
  exact bodyPost_ret (res_cell3 Try.results21 rfl (hg437.load (P := Try.prog) 56 Try.underlying56 rfl (by kernel_rfl)) rfl rfl) rfl ⟨by rw [e]; rfl, b444⟩
 refine lv (.bool true) (by exact neq_int_ne (by exact rfl) (by exact rfl) (by exact rfl) (by first | assumption | omega)) ?_
 simp only [lay]
 refine wn ?_
 refine cT9 ?_
 refine wp_sr ?_
 refine lv (.agg #[.int .u8 0, .int .u8 0, .int .u8 0, .int .u8 0, .int .u8 0, .int .u8 0, .int .u8 0, .int .u8 0, .int .u8 0, .int .u8 0, .int .u8 0, .int .u8 0, .int .u8 0, .int .u8 0, .int .u8 0, .int .u8 0, .int .u8 0, .int .u8 0, .int .u8 0, .int .u8 0, .int .u8 0, .int .u8 0, .int .u8 0, .int .u8 0, .int .u8 0, .int .u8 0, .int .u8 0, .int .u8 0, .int .u8 0, .int .u8 0, .int .u8 0, .int .u8 0]) (by kernel_rfl) ?_
 simp only [lay]
 refine lv (.int .i64 d.check) (by exact xm) ?_
 simp only [lay]
 have has449 := hg10.to hb19
 refine lz (ow_st 56 (.tmp 2) (.tmp 14) g8 #[.int .u8 0, .int .u8 0, .int .u8 0, .int .u8 0, .int .u8 0, .int .u8 0, .int .u8 0, .int .u8 0, .int .u8 0, .int .u8 0, .int .u8 0, .int .u8 0, .int .u8 0, .int .u8 0, .int .u8 0, .int .u8 0, .int .u8 0, .int .u8 0, .int .u8 0, .int .u8 0, .int .u8 0, .int .u8 0, .int .u8 0, .int .u8 0, .int .u8 0, .int .u8 0, .int .u8 0, .int .u8 0, .int .u8 0, .int .u8 0, .int .u8 0, .int .u8 0] _ _ rfl (by exact rfl) (by exact rfl) has449 (by kernel_rfl) rfl (by kernel_rfl) ?_)
 intro W445 hg446 bs447 hb448
 have z450 := hb448.size
 simp only [lay]
 refine lv (.bool false) (by exact xa) ?_
 simp only [lay]
 refine lv (.int .i64 d.check) (by exact xa) ?_
 simp only [lay]
 refine wn ?_
 refine wp_ret ?_
 try simp only [Exit.then]
 have e : tells18 d = ((z16, z16), false, d.check) := by
  unfold tells18
  simp only [hM, hPE, hEr, hD]
  repeat (first | rw [if_pos (by first | assumption | omega | exact ne_true_of_eq_false (by assumption))] | rw [if_neg (by first | assumption | omega | exact ne_true_of_eq_false (by assumption))])
 have b451 := bt b16 hb19
 have l452 := lq hb6 ge11
 have b453 := b451.trans (hb448.mono l452)
 exact bodyPost_ret (res_cell3 Try.results21 rfl (hg446.load (P := Try.prog) 56 Try.underlying56 rfl (by kernel_rfl)) rfl rfl) rfl ⟨by rw [e]; rfl, b453⟩
set_option maxRecDepth 100000 in
set_option maxHeartbeats 8000000 in
theorem rtells18_any (d : D6) (p : W6) (w : World) (hR : Rd6 w.heap.size w d p) :
  Calls Try.prog 22 #[.agg (d.cells p)] w fun e w' => e = .returned (.tuple #[.agg (ends6 (tells18 d).1.1 (tells18 d).1.2), .bool (tells18 d).2.1, .int .i64 (tells18 d).2.2]) ∧ Below w.heap.size w w' := by
 obtain ⟨M, hM⟩ : ∃ x, parse7 d.bl (ps18 d) = x := ⟨_, rfl⟩
 obtain ⟨PE, hPE⟩ : ∃ x, perr7 d.bl (ps18 d) = x := ⟨_, rfl⟩
 have hM2 : parse7 d.bl (pse6 d.src d.dst (d.bl.length : Int) 58) = M := hM
 have hPE2 : perr7 d.bl (pse6 d.src d.dst (d.bl.length : Int) 58) = PE := hPE
 obtain ⟨D, hD⟩ : ∃ x, got6 false M.bl = x := ⟨_, rfl⟩
 obtain ⟨E, hEr⟩ : ∃ x, (g6 false M.bl).err = x := ⟨_, rfl⟩
 obtain ⟨PT, hPT⟩ : ∃ P, ((g6 false M.bl).pat : Int) = P := ⟨_, rfl⟩
 have yb6 := hR.body
 have hlb := yb6.len
 go_enter Try.func22, Try.ntmps22
 refine wp_sr ?_
 refine lz (ow_box 28 (.tmp 0) _ rfl rfl ?_)
 intro g1 W2 hg3 ge4 sz5 hb6
 have z7 := hb6.size
 simp only [lay]
 refine lz (oa #[.int .u8 0, .int .u8 0, .int .u8 0, .int .u8 0, .int .u8 0, .int .u8 0, .int .u8 0, .int .u8 0, .int .u8 0, .int .u8 0, .int .u8 0, .int .u8 0, .int .u8 0, .int .u8 0, .int .u8 0, .int .u8 0, .int .u8 0, .int .u8 0, .int .u8 0, .int .u8 0, .int .u8 0, .int .u8 0, .int .u8 0, .int .u8 0, .int .u8 0, .int .u8 0, .int .u8 0, .int .u8 0, .int .u8 0, .int .u8 0, .int .u8 0, .int .u8 0] ?_)
 intro g8 W9 hg10 ge11 sz12 hb13
 have z14 := hb13.size
 simp only [lay]
 refine lv (.bool false) (by exact xa) ?_
 simp only [lay]
 refine lv (.int .i64 0) (by exact xa) ?_
 simp only [lay]
 refine wn ?_
 refine wp_sr ?_
 have has15 := hg3.to hb13
 refine lv (.agg (d.cells p)) (by exact xo (has15.load (P := Try.prog) 28 Try.underlying28 rfl (by kernel_rfl))) ?_
 simp only [lay]
 have b16 := bt hb6 hb13
 have rd17 := hR.to b16
 refine lz (ow_call (fun v w' => v = .int .i64 d.check ∧ Below W9.heap.size W9 w') (by exact xk Try.func36) (rcheck6_x rd17) ?_)
 rintro _ W18 ⟨rfl, hb19⟩
 have z20 := hb19.size
 simp only [lay]
 refine lv (.int .i64 d.check) (by exact xa) ?_
 simp only [lay]
 refine wn ?_
 refine wp_seq ?_
 refine wp_sr ?_
 refine lv (.int .i64 d.check) (by exact xm) ?_
 simp only [lay]
 by_cases q21 : d.check = 0
 case pos =>
  obtain ⟨hokh, hof, hbl⟩ := check18 q21
  refine lv (.bool false) (by exact neq_int_eq (by exact rfl) (by exact rfl) (by exact rfl) (by first | assumption | omega)) ?_
  simp only [lay]
  refine wn ?_
  refine cF9 ?_
  refine wp_skip ?_
  change Code.wp _ _ _ _ _
  refine wp_seq ?_
  refine wp_sr ?_
  have b22 := bt hb13 hb19
  have has23 := hg3.to b22
  refine lv (.agg (d.cells p)) (by exact xo (has23.load (P := Try.prog) 28 Try.underlying28 rfl (by kernel_rfl))) ?_
  simp only [lay]
  refine lz (ow_call (fun v w' => v = .bool (d.part) ∧ Below W18.heap.size W18 w') (by exact xk Try.func62) ((rfragment18_any d p W18).mono fun e w' h => ⟨_, h.1, rfl, h.2⟩) ?_)
  rintro _ W24 ⟨rfl, hb25⟩
  have z26 := hb25.size
  simp only [lay]
  refine lv (.bool d.part) (by exact xm) ?_
  simp only [lay]
  by_cases q27 : d.part = true
  case pos =>
   rw [q27]
   refine lzn ?_
   simp only [lay]
   refine lzn ?_
   simp only [lay]
   refine lzn ?_
   simp only [lay]
   refine lv (.bool true) (by exact xp (b := true)) ?_
   simp only [lay]
   refine wn ?_
   refine cT9 ?_
   refine wp_sr ?_
   refine lv (.agg #[.int .u8 0, .int .u8 0, .int .u8 0, .int .u8 0, .int .u8 0, .int .u8 0, .int .u8 0, .int .u8 0, .int .u8 0, .int .u8 0, .int .u8 0, .int .u8 0, .int .u8 0, .int .u8 0, .int .u8 0, .int .u8 0, .int .u8 0, .int .u8 0, .int .u8 0, .int .u8 0, .int .u8 0, .int .u8 0, .int .u8 0, .int .u8 0, .int .u8 0, .int .u8 0, .int .u8 0, .int .u8 0, .int .u8 0, .int .u8 0, .int .u8 0, .int .u8 0]) (by kernel_rfl) ?_
   simp only [lay]
   have b32 := bt hb19 hb25
   have has33 := hg10.to b32
   refine lz (ow_st 56 (.tmp 2) (.tmp 24) g8 #[.int .u8 0, .int .u8 0, .int .u8 0, .int .u8 0, .int .u8 0, .int .u8 0, .int .u8 0, .int .u8 0, .int .u8 0, .int .u8 0, .int .u8 0, .int .u8 0, .int .u8 0, .int .u8 0, .int .u8 0, .int .u8 0, .int .u8 0, .int .u8 0, .int .u8 0, .int .u8 0, .int .u8 0, .int .u8 0, .int .u8 0, .int .u8 0, .int .u8 0, .int .u8 0, .int .u8 0, .int .u8 0, .int .u8 0, .int .u8 0, .int .u8 0, .int .u8 0] _ _ rfl (by exact rfl) (by exact rfl) has33 (by kernel_rfl) rfl (by kernel_rfl) ?_)
   intro W28 hg29 bs30 hb31
   have z34 := hb31.size
   simp only [lay]
   refine lv (.bool false) (by exact xa) ?_
   simp only [lay]
   refine lv (.int .i64 0) (by exact xa) ?_
   simp only [lay]
   refine wn ?_
   refine wp_ret ?_
   try simp only [Exit.then]
   have qp : d.part = true := by assumption
   have e : tells18 d = ((z16, z16), false, 0) := by
    unfold tells18
    simp only [hM, hPE, hEr, hD]
    simp only [qp, true_or, Bool.false_eq_true, false_or, if_true]
    repeat (first | rw [if_pos (by first | assumption | omega | exact ne_true_of_eq_false (by assumption))] | rw [if_neg (by first | assumption | omega | exact ne_true_of_eq_false (by assumption))])
   have b35 := bt b16 hb19
   have b36 := bt b35 hb25
   have l37 := lq hb6 ge11
   have b38 := b36.trans (hb31.mono l37)
   exact bodyPost_ret (res_cell3 Try.results22 rfl (hg29.load (P := Try.prog) 56 Try.underlying56 rfl (by kernel_rfl)) rfl rfl) rfl ⟨by rw [e]; rfl, b38⟩
  replace q27 := eq_false_of_ne_true q27
  rw [q27]
  refine lv (.pointer (some ⟨g1, 40, none⟩)) (by exact xf 40 0 Try.underlying28) ?_
  simp only [lay]
  have b39 := bt b22 hb25
  have has40 := hg3.to b39
  refine lv (.int .u8 d.pro) (by exact xc Try.underlying5 (has40.cell 40 rfl)) ?_
  simp only [lay]
  by_cases q41 : d.pro = 58
  case pos =>
   refine lv (.bool false) (by exact neq_int_eq (by exact rfl) (by exact rfl) (by exact rfl) (by first | assumption | omega)) ?_
   simp only [lay]
   refine lv (.bool false) (by exact xp (b := false)) ?_
   simp only [lay]
   refine wn ?_
   refine cF9 ?_
   refine wp_skip ?_
   change Code.wp _ _ _ _ _
   refine wp_sr ?_
   refine lv (.pointer (some ⟨g1, 3, none⟩)) (by exact xf 3 15 Try.underlying28) ?_
   simp only [lay]
   refine lv (.agg #[.int .u8 (d.src.getD 0 0), .int .u8 (d.src.getD 1 0), .int .u8 (d.src.getD 2 0), .int .u8 (d.src.getD 3 0), .int .u8 (d.src.getD 4 0), .int .u8 (d.src.getD 5 0), .int .u8 (d.src.getD 6 0), .int .u8 (d.src.getD 7 0), .int .u8 (d.src.getD 8 0), .int .u8 (d.src.getD 9 0), .int .u8 (d.src.getD 10 0), .int .u8 (d.src.getD 11 0), .int .u8 (d.src.getD 12 0), .int .u8 (d.src.getD 13 0), .int .u8 (d.src.getD 14 0), .int .u8 (d.src.getD 15 0)]) (by exact ex_loadAt (by exact rfl) (by exact rfl) (has40.loadIn (P := Try.prog) 3 [.int .u8 (d.src.getD 0 0), .int .u8 (d.src.getD 1 0), .int .u8 (d.src.getD 2 0), .int .u8 (d.src.getD 3 0), .int .u8 (d.src.getD 4 0), .int .u8 (d.src.getD 5 0), .int .u8 (d.src.getD 6 0), .int .u8 (d.src.getD 7 0), .int .u8 (d.src.getD 8 0), .int .u8 (d.src.getD 9 0), .int .u8 (d.src.getD 10 0), .int .u8 (d.src.getD 11 0), .int .u8 (d.src.getD 12 0), .int .u8 (d.src.getD 13 0), .int .u8 (d.src.getD 14 0), .int .u8 (d.src.getD 15 0)] (by kernel_rfl) 24 Try.underlying24 rfl (by kernel_rfl))) ?_
   simp only [lay]
   refine lv (.pointer (some ⟨g1, 19, none⟩)) (by exact xf 19 15 Try.underlying28) ?_
   simp only [lay]
   refine lv (.agg #[.int .u8 (d.dst.getD 0 0), .int .u8 (d.dst.getD 1 0), .int .u8 (d.dst.getD 2 0), .int .u8 (d.dst.getD 3 0), .int .u8 (d.dst.getD 4 0), .int .u8 (d.dst.getD 5 0), .int .u8 (d.dst.getD 6 0), .int .u8 (d.dst.getD 7 0), .int .u8 (d.dst.getD 8 0), .int .u8 (d.dst.getD 9 0), .int .u8 (d.dst.getD 10 0), .int .u8 (d.dst.getD 11 0), .int .u8 (d.dst.getD 12 0), .int .u8 (d.dst.getD 13 0), .int .u8 (d.dst.getD 14 0), .int .u8 (d.dst.getD 15 0)]) (by exact ex_loadAt (by exact rfl) (by exact rfl) (has40.loadIn (P := Try.prog) 19 [.int .u8 (d.dst.getD 0 0), .int .u8 (d.dst.getD 1 0), .int .u8 (d.dst.getD 2 0), .int .u8 (d.dst.getD 3 0), .int .u8 (d.dst.getD 4 0), .int .u8 (d.dst.getD 5 0), .int .u8 (d.dst.getD 6 0), .int .u8 (d.dst.getD 7 0), .int .u8 (d.dst.getD 8 0), .int .u8 (d.dst.getD 9 0), .int .u8 (d.dst.getD 10 0), .int .u8 (d.dst.getD 11 0), .int .u8 (d.dst.getD 12 0), .int .u8 (d.dst.getD 13 0), .int .u8 (d.dst.getD 14 0), .int .u8 (d.dst.getD 15 0)] (by kernel_rfl) 24 Try.underlying24 rfl (by kernel_rfl))) ?_
   simp only [lay]
   refine lv (.pointer (some ⟨g1, 41, none⟩)) (by exact xf 41 0 Try.underlying28) ?_
   simp only [lay]
   refine lv (.slice p.bA d.bl.length p.bc) (by exact xc Try.underlying26 (has40.cell 41 rfl)) ?_
   simp only [lay]
   have b42 := bt b16 hb19
   have b43 := bt b42 hb25
   have by44 := yb6.to b43
   refine lz (ow_call (fun v w' => (∃ A' c', v = .tuple #[.agg (M.cells A' c'), .int .i64 PE] ∧ M.ok ∧ OwnB w' W24.heap.size (.slice A' M.bl.length c') M.bl) ∧ Below W24.heap.size W24 w') (by exact xk Try.func63) ((rparse6m_any d.src d.dst ⟨hR.ok.srcL, hR.ok.src, hR.ok.dstL, hR.ok.dst⟩ _ _ _ _ W24 by44).mono (by rintro e w' ⟨⟨A', c', rfl, hk, ho⟩, hb⟩; rw [hM2] at hk ho; exact ⟨_, rfl, ⟨A', c', by rw [hM2, hPE2], hk, ho⟩, hb⟩)) ?_)
   rintro _ W45 ⟨⟨A47, c48, rfl, hk49, hO50⟩, hb46⟩
   have z51 := hb46.size
   simp only [lay]
   refine lv (.tuple #[.agg (M.cells A47 c48), .int .i64 PE]) (by exact xm) ?_
   simp only [lay]
   refine lv (.agg (M.cells A47 c48)) (by exact xe) ?_
   simp only [lay]
   refine lv (.int .i64 PE) (by exact xe) ?_
   simp only [lay]
   refine lz (oa #[.int .u8 0, .int .u8 0, .int .u32 0, .slice none 0 0] ?_)
   intro g52 W53 hg54 ge55 sz56 hb57
   have z58 := hb57.size
   simp only [lay]
   refine lz (ow_st 43 (.tmp 6) (.tmp 33) g52 (M.cells A47 c48) _ _ rfl (by exact rfl) (by exact rfl) hg54 (by kernel_rfl) rfl (by kernel_rfl) ?_)
   intro W59 hg60 bs61 hb62
   have z63 := hb62.size
   simp only [lay]
   refine lv (.int .i64 PE) (by exact xa) ?_
   simp only [lay]
   refine wn ?_
   refine wp_seq ?_
   refine wp_sr ?_
   refine lv (.int .i64 PE) (by exact xm) ?_
   simp only [lay]
   by_cases q64 : PE = 0
   case pos =>
    refine lv (.bool false) (by exact neq_int_eq (by exact rfl) (by exact rfl) (by exact rfl) (by first | assumption | omega)) ?_
    simp only [lay]
    refine lv (.bool false) (by exact xm) ?_
    simp only [lay]
    refine lv (.pointer (some ⟨g52, 0, none⟩)) (by exact xf 0 0 Try.underlying43) ?_
    simp only [lay]
    refine lv (.int .u8 M.ty) (by exact xc Try.underlying5 (hg60.cell 0 rfl)) ?_
    simp only [lay]
    by_cases q65 : M.ty < 1
    case pos =>
     refine lv (.bool true) (by exact ex_lss (by exact rfl) (by exact rfl) (by exact rfl) (decide_eq_true (by first | assumption | omega | decide))) ?_
     simp only [lay]
     refine lv (.bool true) (by exact xp (b := false)) ?_
     simp only [lay]
     refine lv (.bool true) (by exact xm) ?_
     simp only [lay]
     refine lzn ?_
     simp only [lay]
     refine lzn ?_
     simp only [lay]
     refine lzn ?_
     simp only [lay]
     refine lv (.bool true) (by exact xp (b := true)) ?_
     simp only [lay]
     refine wn ?_
     refine cT9 ?_
     refine wp_sr ?_
     refine lv (.agg #[.int .u8 0, .int .u8 0, .int .u8 0, .int .u8 0, .int .u8 0, .int .u8 0, .int .u8 0, .int .u8 0, .int .u8 0, .int .u8 0, .int .u8 0, .int .u8 0, .int .u8 0, .int .u8 0, .int .u8 0, .int .u8 0, .int .u8 0, .int .u8 0, .int .u8 0, .int .u8 0, .int .u8 0, .int .u8 0, .int .u8 0, .int .u8 0, .int .u8 0, .int .u8 0, .int .u8 0, .int .u8 0, .int .u8 0, .int .u8 0, .int .u8 0, .int .u8 0]) (by kernel_rfl) ?_
     simp only [lay]
     have b70 := bt hb19 hb25
     have b71 := bt b70 hb46
     have b72 := bt b71 hb57
     have l73 := lq b71 ge55
     have b74 := b72.trans (hb62.mono l73)
     have has75 := hg10.to b74
     refine lz (ow_st 56 (.tmp 2) (.tmp 47) g8 #[.int .u8 0, .int .u8 0, .int .u8 0, .int .u8 0, .int .u8 0, .int .u8 0, .int .u8 0, .int .u8 0, .int .u8 0, .int .u8 0, .int .u8 0, .int .u8 0, .int .u8 0, .int .u8 0, .int .u8 0, .int .u8 0, .int .u8 0, .int .u8 0, .int .u8 0, .int .u8 0, .int .u8 0, .int .u8 0, .int .u8 0, .int .u8 0, .int .u8 0, .int .u8 0, .int .u8 0, .int .u8 0, .int .u8 0, .int .u8 0, .int .u8 0, .int .u8 0] _ _ rfl (by exact rfl) (by exact rfl) has75 (by kernel_rfl) rfl (by kernel_rfl) ?_)
     intro W66 hg67 bs68 hb69
     have l76 : W45.heap.size ≤ g52 := Nat.le_of_eq ge55.symm
     have b77 := hb57.trans (hb62.mono l76)
     have own78 := hO50.to b77
     have z79 := hb69.size
     have own80 := own78.but6 bs68 (by omega)
     have has81 := hg60.but6 bs68 (by omega)
     simp only [lay]
     refine lv (.bool false) (by exact xa) ?_
     simp only [lay]
     refine lv (.int .i64 0) (by exact xa) ?_
     simp only [lay]
     refine wn ?_
     refine wp_ret ?_
     try simp only [Exit.then]
     have qp : d.part = false := by assumption
     have e : tells18 d = ((z16, z16), false, 0) := by
      unfold tells18
      simp only [hM, hPE, hEr, hD]
      simp only [qp, Bool.false_eq_true, false_or]
      repeat (first | rw [if_pos (by first | assumption | omega | exact ne_true_of_eq_false (by assumption))] | rw [if_neg (by first | assumption | omega | exact ne_true_of_eq_false (by assumption))])
     have b82 := bt b43 hb46
     have b83 := bt b82 hb57
     have l84 := lq b82 ge55
     have b85 := b83.trans (hb62.mono l84)
     have l86 := lq hb6 ge11
     have b87 := b85.trans (hb69.mono l86)
     exact bodyPost_ret (res_cell3 Try.results22 rfl (hg67.load (P := Try.prog) 56 Try.underlying56 rfl (by kernel_rfl)) rfl rfl) rfl ⟨by rw [e]; rfl, b87⟩
    refine lv (.bool false) (by exact ex_lss (by exact rfl) (by exact rfl) (by exact rfl) (decide_eq_false (by first | assumption | omega | decide))) ?_
    simp only [lay]
    refine lv (.bool false) (by exact xp (b := false)) ?_
    simp only [lay]
    refine lv (.bool false) (by exact xm) ?_
    simp only [lay]
    refine lv (.pointer (some ⟨g52, 0, none⟩)) (by exact xf 0 0 Try.underlying43) ?_
    simp only [lay]
    refine lv (.int .u8 M.ty) (by exact xc Try.underlying5 (hg60.cell 0 rfl)) ?_
    simp only [lay]
    by_cases q88 : M.ty > 4
    case pos =>
     refine lv (.bool true) (by exact ex_gtr (by exact rfl) (by exact rfl) (by exact rfl) (decide_eq_true (by first | assumption | omega | decide))) ?_
     simp only [lay]
     refine lv (.bool true) (by exact xp (b := false)) ?_
     simp only [lay]
     refine wn ?_
     refine cT9 ?_
     refine wp_sr ?_
     refine lv (.agg #[.int .u8 0, .int .u8 0, .int .u8 0, .int .u8 0, .int .u8 0, .int .u8 0, .int .u8 0, .int .u8 0, .int .u8 0, .int .u8 0, .int .u8 0, .int .u8 0, .int .u8 0, .int .u8 0, .int .u8 0, .int .u8 0, .int .u8 0, .int .u8 0, .int .u8 0, .int .u8 0, .int .u8 0, .int .u8 0, .int .u8 0, .int .u8 0, .int .u8 0, .int .u8 0, .int .u8 0, .int .u8 0, .int .u8 0, .int .u8 0, .int .u8 0, .int .u8 0]) (by kernel_rfl) ?_
     simp only [lay]
     have b93 := bt hb19 hb25
     have b94 := bt b93 hb46
     have b95 := bt b94 hb57
     have l96 := lq b94 ge55
     have b97 := b95.trans (hb62.mono l96)
     have has98 := hg10.to b97
     refine lz (ow_st 56 (.tmp 2) (.tmp 47) g8 #[.int .u8 0, .int .u8 0, .int .u8 0, .int .u8 0, .int .u8 0, .int .u8 0, .int .u8 0, .int .u8 0, .int .u8 0, .int .u8 0, .int .u8 0, .int .u8 0, .int .u8 0, .int .u8 0, .int .u8 0, .int .u8 0, .int .u8 0, .int .u8 0, .int .u8 0, .int .u8 0, .int .u8 0, .int .u8 0, .int .u8 0, .int .u8 0, .int .u8 0, .int .u8 0, .int .u8 0, .int .u8 0, .int .u8 0, .int .u8 0, .int .u8 0, .int .u8 0] _ _ rfl (by exact rfl) (by exact rfl) has98 (by kernel_rfl) rfl (by kernel_rfl) ?_)
     intro W89 hg90 bs91 hb92
     have l99 : W45.heap.size ≤ g52 := Nat.le_of_eq ge55.symm
     have b100 := hb57.trans (hb62.mono l99)
     have own101 := hO50.to b100
     have z102 := hb92.size
     have own103 := own101.but6 bs91 (by omega)
     have has104 := hg60.but6 bs91 (by omega)
     simp only [lay]
     refine lv (.bool false) (by exact xa) ?_
     simp only [lay]
     refine lv (.int .i64 0) (by exact xa) ?_
     simp only [lay]
     refine wn ?_
     refine wp_ret ?_
     try simp only [Exit.then]
     have qp : d.part = false := by assumption
     have e : tells18 d = ((z16, z16), false, 0) := by
      unfold tells18
      simp only [hM, hPE, hEr, hD]
      simp only [qp, Bool.false_eq_true, false_or]
      repeat (first | rw [if_pos (by first | assumption | omega | exact ne_true_of_eq_false (by assumption))] | rw [if_neg (by first | assumption | omega | exact ne_true_of_eq_false (by assumption))])
     have b105 := bt b43 hb46
     have b106 := bt b105 hb57
     have l107 := lq b105 ge55
     have b108 := b106.trans (hb62.mono l107)
     have l109 := lq hb6 ge11
     have b110 := b108.trans (hb92.mono l109)
     exact bodyPost_ret (res_cell3 Try.results22 rfl (hg90.load (P := Try.prog) 56 Try.underlying56 rfl (by kernel_rfl)) rfl rfl) rfl ⟨by rw [e]; rfl, b110⟩
    refine lv (.bool false) (by exact ex_gtr (by exact rfl) (by exact rfl) (by exact rfl) (decide_eq_false (by first | assumption | omega | decide))) ?_
    simp only [lay]
    refine lv (.bool false) (by exact xp (b := false)) ?_
    simp only [lay]
    refine wn ?_
    refine cF9 ?_
    refine wp_skip ?_
    change Code.wp _ _ _ _ _
    refine wp_sr ?_
    refine lv (.pointer (some ⟨g52, 3, none⟩)) (by exact xf 3 0 Try.underlying43) ?_
    simp only [lay]
    refine lv (.slice A47 M.bl.length c48) (by exact xc Try.underlying26 (hg60.cell 3 rfl)) ?_
    simp only [lay]
    have l111 : W45.heap.size ≤ g52 := Nat.le_of_eq ge55.symm
    have b112 := hb57.trans (hb62.mono l111)
    have own113 := hO50.to b112
    refine lz (ow_call (fun v w' => (∃ p, v = .tuple #[.agg (D.cells p), .int .i64 PT, .int .i64 E] ∧ Own6 w' W59.heap.size D p) ∧ Below W59.heap.size W59 w') (by exact xk Try.func55) (by have := rpart6_x (own_byS own113); rw [hD, hEr, hPT] at this; exact this) ?_)
    rintro _ W114 ⟨⟨p116, rfl, ho117⟩, hb115⟩
    have z118 := hb115.size
    have hr119 := ho117.rd
    have hO120 := ho117.body
    simp only [lay]
    refine lv (.tuple #[.agg (D.cells p116), .int .i64 PT, .int .i64 E]) (by exact xm) ?_
    simp only [lay]
    refine lv (.agg (D.cells p116)) (by exact xe) ?_
    simp only [lay]
    refine lv (.int .i64 PT) (by exact xe) ?_
    simp only [lay]
    refine lv (.int .i64 E) (by exact xe) ?_
    simp only [lay]
    refine lz (oa #[.int .u8 0, .int .u32 0, .int .u8 0, .int .u8 0, .int .u8 0, .int .u8 0, .int .u8 0, .int .u8 0, .int .u8 0, .int .u8 0, .int .u8 0, .int .u8 0, .int .u8 0, .int .u8 0, .int .u8 0, .int .u8 0, .int .u8 0, .int .u8 0, .int .u8 0, .int .u8 0, .int .u8 0, .int .u8 0, .int .u8 0, .int .u8 0, .int .u8 0, .int .u8 0, .int .u8 0, .int .u8 0, .int .u8 0, .int .u8 0, .int .u8 0, .int .u8 0, .int .u8 0, .int .u8 0, .int .u8 0, .slice none 0 0, .bool false, .int .u32 0, .int .i64 0, .bool false, .int .u8 0, .slice none 0 0] ?_)
    intro g121 W122 hg123 ge124 sz125 hb126
    have z127 := hb126.size
    simp only [lay]
    refine lz (ow_st 28 (.tmp 8) (.tmp 52) g121 (D.cells p116) _ _ rfl (by exact rfl) (by exact rfl) hg123 (by kernel_rfl) rfl (by kernel_rfl) ?_)
    intro W128 hg129 bs130 hb131
    have z132 := hb131.size
    simp only [lay]
    refine lv (.int .i64 PT) (by exact xa) ?_
    simp only [lay]
    refine lv (.int .i64 E) (by exact xa) ?_
    simp only [lay]
    refine wn ?_
    refine wp_seq ?_
    refine wp_sr ?_
    refine lv (.int .i64 E) (by exact xm) ?_
    simp only [lay]
    by_cases q133 : E = 0
    case pos =>
     refine lv (.bool false) (by exact neq_int_eq (by exact rfl) (by exact rfl) (by exact rfl) (by first | assumption | omega)) ?_
     simp only [lay]
     refine wn ?_
     refine cF9 ?_
     refine wp_skip ?_
     change Code.wp _ _ _ _ _
     refine wp_sr ?_
     refine lv (.pointer (some ⟨g121, 3, none⟩)) (by exact xf 3 15 Try.underlying28) ?_
     simp only [lay]
     refine lv (.agg #[.int .u8 (D.src.getD 0 0), .int .u8 (D.src.getD 1 0), .int .u8 (D.src.getD 2 0), .int .u8 (D.src.getD 3 0), .int .u8 (D.src.getD 4 0), .int .u8 (D.src.getD 5 0), .int .u8 (D.src.getD 6 0), .int .u8 (D.src.getD 7 0), .int .u8 (D.src.getD 8 0), .int .u8 (D.src.getD 9 0), .int .u8 (D.src.getD 10 0), .int .u8 (D.src.getD 11 0), .int .u8 (D.src.getD 12 0), .int .u8 (D.src.getD 13 0), .int .u8 (D.src.getD 14 0), .int .u8 (D.src.getD 15 0)]) (by exact ex_loadAt (by exact rfl) (by exact rfl) (hg129.loadIn (P := Try.prog) 3 [.int .u8 (D.src.getD 0 0), .int .u8 (D.src.getD 1 0), .int .u8 (D.src.getD 2 0), .int .u8 (D.src.getD 3 0), .int .u8 (D.src.getD 4 0), .int .u8 (D.src.getD 5 0), .int .u8 (D.src.getD 6 0), .int .u8 (D.src.getD 7 0), .int .u8 (D.src.getD 8 0), .int .u8 (D.src.getD 9 0), .int .u8 (D.src.getD 10 0), .int .u8 (D.src.getD 11 0), .int .u8 (D.src.getD 12 0), .int .u8 (D.src.getD 13 0), .int .u8 (D.src.getD 14 0), .int .u8 (D.src.getD 15 0)] (by kernel_rfl) 24 Try.underlying24 rfl (by kernel_rfl))) ?_
     simp only [lay]
     refine lv (.pointer (some ⟨g121, 19, none⟩)) (by exact xf 19 15 Try.underlying28) ?_
     simp only [lay]
     refine lv (.agg #[.int .u8 (D.dst.getD 0 0), .int .u8 (D.dst.getD 1 0), .int .u8 (D.dst.getD 2 0), .int .u8 (D.dst.getD 3 0), .int .u8 (D.dst.getD 4 0), .int .u8 (D.dst.getD 5 0), .int .u8 (D.dst.getD 6 0), .int .u8 (D.dst.getD 7 0), .int .u8 (D.dst.getD 8 0), .int .u8 (D.dst.getD 9 0), .int .u8 (D.dst.getD 10 0), .int .u8 (D.dst.getD 11 0), .int .u8 (D.dst.getD 12 0), .int .u8 (D.dst.getD 13 0), .int .u8 (D.dst.getD 14 0), .int .u8 (D.dst.getD 15 0)]) (by exact ex_loadAt (by exact rfl) (by exact rfl) (hg129.loadIn (P := Try.prog) 19 [.int .u8 (D.dst.getD 0 0), .int .u8 (D.dst.getD 1 0), .int .u8 (D.dst.getD 2 0), .int .u8 (D.dst.getD 3 0), .int .u8 (D.dst.getD 4 0), .int .u8 (D.dst.getD 5 0), .int .u8 (D.dst.getD 6 0), .int .u8 (D.dst.getD 7 0), .int .u8 (D.dst.getD 8 0), .int .u8 (D.dst.getD 9 0), .int .u8 (D.dst.getD 10 0), .int .u8 (D.dst.getD 11 0), .int .u8 (D.dst.getD 12 0), .int .u8 (D.dst.getD 13 0), .int .u8 (D.dst.getD 14 0), .int .u8 (D.dst.getD 15 0)] (by kernel_rfl) 24 Try.underlying24 rfl (by kernel_rfl))) ?_
     simp only [lay]
     refine lv (.agg #[.int .u8 (D.src.getD 0 0), .int .u8 (D.src.getD 1 0), .int .u8 (D.src.getD 2 0), .int .u8 (D.src.getD 3 0), .int .u8 (D.src.getD 4 0), .int .u8 (D.src.getD 5 0), .int .u8 (D.src.getD 6 0), .int .u8 (D.src.getD 7 0), .int .u8 (D.src.getD 8 0), .int .u8 (D.src.getD 9 0), .int .u8 (D.src.getD 10 0), .int .u8 (D.src.getD 11 0), .int .u8 (D.src.getD 12 0), .int .u8 (D.src.getD 13 0), .int .u8 (D.src.getD 14 0), .int .u8 (D.src.getD 15 0), .int .u8 (D.dst.getD 0 0), .int .u8 (D.dst.getD 1 0), .int .u8 (D.dst.getD 2 0), .int .u8 (D.dst.getD 3 0), .int .u8 (D.dst.getD 4 0), .int .u8 (D.dst.getD 5 0), .int .u8 (D.dst.getD 6 0), .int .u8 (D.dst.getD 7 0), .int .u8 (D.dst.getD 8 0), .int .u8 (D.dst.getD 9 0), .int .u8 (D.dst.getD 10 0), .int .u8 (D.dst.getD 11 0), .int .u8 (D.dst.getD 12 0), .int .u8 (D.dst.getD 13 0), .int .u8 (D.dst.getD 14 0), .int .u8 (D.dst.getD 15 0)]) (by kernel_rfl) ?_
     simp only [lay]
     have b138 := bt hb19 hb25
     have b139 := bt b138 hb46
     have b140 := bt b139 hb57
     have l141 := lq b139 ge55
     have b142 := b140.trans (hb62.mono l141)
     have b143 := bt b142 hb115
     have b144 := bt b143 hb126
     have l145 := lq b143 ge124
     have b146 := b144.trans (hb131.mono l145)
     have has147 := hg10.to b146
     refine lz (ow_st 56 (.tmp 2) (.tmp 62) g8 #[.int .u8 (D.src.getD 0 0), .int .u8 (D.src.getD 1 0), .int .u8 (D.src.getD 2 0), .int .u8 (D.src.getD 3 0), .int .u8 (D.src.getD 4 0), .int .u8 (D.src.getD 5 0), .int .u8 (D.src.getD 6 0), .int .u8 (D.src.getD 7 0), .int .u8 (D.src.getD 8 0), .int .u8 (D.src.getD 9 0), .int .u8 (D.src.getD 10 0), .int .u8 (D.src.getD 11 0), .int .u8 (D.src.getD 12 0), .int .u8 (D.src.getD 13 0), .int .u8 (D.src.getD 14 0), .int .u8 (D.src.getD 15 0), .int .u8 (D.dst.getD 0 0), .int .u8 (D.dst.getD 1 0), .int .u8 (D.dst.getD 2 0), .int .u8 (D.dst.getD 3 0), .int .u8 (D.dst.getD 4 0), .int .u8 (D.dst.getD 5 0), .int .u8 (D.dst.getD 6 0), .int .u8 (D.dst.getD 7 0), .int .u8 (D.dst.getD 8 0), .int .u8 (D.dst.getD 9 0), .int .u8 (D.dst.getD 10 0), .int .u8 (D.dst.getD 11 0), .int .u8 (D.dst.getD 12 0), .int .u8 (D.dst.getD 13 0), .int .u8 (D.dst.getD 14 0), .int .u8 (D.dst.getD 15 0)] _ _ rfl (by exact rfl) (by exact rfl) has147 (by kernel_rfl) rfl (by kernel_rfl) ?_)
     intro W134 hg135 bs136 hb137
     have b148 := bt b112 hb115
     have b149 := bt b148 hb126
     have l150 := lq b148 ge124
     have b151 := b149.trans (hb131.mono l150)
     have own152 := hO50.to b151
     have b153 := bt hb115 hb126
     have l154 := lq hb115 ge124
     have b155 := b153.trans (hb131.mono l154)
     have has156 := hg60.to b155
     have l157 : W114.heap.size ≤ g121 := Nat.le_of_eq ge124.symm
     have b158 := hb126.trans (hb131.mono l157)
     have own159 := hO120.to b158
     have z160 := hb137.size
     have own161 := own152.but6 bs136 (by omega)
     have has162 := has156.but6 bs136 (by omega)
     have own163 := own159.but6 bs136 (by omega)
     have has164 := hg129.but6 bs136 (by omega)
     simp only [lay]
     refine lv (.bool true) (by exact xa) ?_
     simp only [lay]
     refine lv (.int .i64 0) (by exact xa) ?_
     simp only [lay]
     refine wn ?_
     refine wp_ret ?_
     try simp only [Exit.then]
     have qp : d.part = false := by assumption
     have e : tells18 d = ((D.src, D.dst), true, 0) := by
      unfold tells18
      simp only [hM, hPE, hEr, hD]
      simp only [qp, Bool.false_eq_true, false_or]
      repeat (first | rw [if_pos (by first | assumption | omega | exact ne_true_of_eq_false (by assumption))] | rw [if_neg (by first | assumption | omega | exact ne_true_of_eq_false (by assumption))])
     have b165 := bt b43 hb46
     have b166 := bt b165 hb57
     have l167 := lq b165 ge55
     have b168 := b166.trans (hb62.mono l167)
     have b169 := bt b168 hb115
     have b170 := bt b169 hb126
     have l171 := lq b169 ge124
     have b172 := b170.trans (hb131.mono l171)
     have l173 := lq hb6 ge11
     have b174 := b172.trans (hb137.mono l173)
     exact bodyPost_ret (res_cell3 Try.results22 rfl (hg135.load (P := Try.prog) 56 Try.underlying56 rfl (by kernel_rfl)) rfl rfl) rfl ⟨by rw [e]; rfl, b174⟩
    refine lv (.bool true) (by exact neq_int_ne (by exact rfl) (by exact rfl) (by exact rfl) (by first | assumption | omega)) ?_
    simp only [lay]
    refine wn ?_
    refine cT9 ?_
    refine wp_sr ?_
    refine lv (.agg #[.int .u8 0, .int .u8 0, .int .u8 0, .int .u8 0, .int .u8 0, .int .u8 0, .int .u8 0, .int .u8 0, .int .u8 0, .int .u8 0, .int .u8 0, .int .u8 0, .int .u8 0, .int .u8 0, .int .u8 0, .int .u8 0, .int .u8 0, .int .u8 0, .int .u8 0, .int .u8 0, .int .u8 0, .int .u8 0, .int .u8 0, .int .u8 0, .int .u8 0, .int .u8 0, .int .u8 0, .int .u8 0, .int .u8 0, .int .u8 0, .int .u8 0, .int .u8 0]) (by kernel_rfl) ?_
    simp only [lay]
    have b179 := bt hb19 hb25
    have b180 := bt b179 hb46
    have b181 := bt b180 hb57
    have l182 := lq b180 ge55
    have b183 := b181.trans (hb62.mono l182)
    have b184 := bt b183 hb115
    have b185 := bt b184 hb126
    have l186 := lq b184 ge124
    have b187 := b185.trans (hb131.mono l186)
    have has188 := hg10.to b187
    refine lz (ow_st 56 (.tmp 2) (.tmp 57) g8 #[.int .u8 0, .int .u8 0, .int .u8 0, .int .u8 0, .int .u8 0, .int .u8 0, .int .u8 0, .int .u8 0, .int .u8 0, .int .u8 0, .int .u8 0, .int .u8 0, .int .u8 0, .int .u8 0, .int .u8 0, .int .u8 0, .int .u8 0, .int .u8 0, .int .u8 0, .int .u8 0, .int .u8 0, .int .u8 0, .int .u8 0, .int .u8 0, .int .u8 0, .int .u8 0, .int .u8 0, .int .u8 0, .int .u8 0, .int .u8 0, .int .u8 0, .int .u8 0] _ _ rfl (by exact rfl) (by exact rfl) has188 (by kernel_rfl) rfl (by kernel_rfl) ?_)
    intro W175 hg176 bs177 hb178
    have b189 := bt b112 hb115
    have b190 := bt b189 hb126
    have l191 := lq b189 ge124
    have b192 := b190.trans (hb131.mono l191)
    have own193 := hO50.to b192
    have b194 := bt hb115 hb126
    have l195 := lq hb115 ge124
    have b196 := b194.trans (hb131.mono l195)
    have has197 := hg60.to b196
    have l198 : W114.heap.size ≤ g121 := Nat.le_of_eq ge124.symm
    have b199 := hb126.trans (hb131.mono l198)
    have own200 := hO120.to b199
    have z201 := hb178.size
    have own202 := own193.but6 bs177 (by omega)
    have has203 := has197.but6 bs177 (by omega)
    have own204 := own200.but6 bs177 (by omega)
    have has205 := hg129.but6 bs177 (by omega)
    simp only [lay]
    refine lv (.bool false) (by exact xa) ?_
    simp only [lay]
    refine lv (.int .i64 0) (by exact xa) ?_
    simp only [lay]
    refine wn ?_
    refine wp_ret ?_
    try simp only [Exit.then]
    have qp : d.part = false := by assumption
    have e : tells18 d = ((z16, z16), false, 0) := by
     unfold tells18
     simp only [hM, hPE, hEr, hD]
     simp only [qp, Bool.false_eq_true, false_or]
     repeat (first | rw [if_pos (by first | assumption | omega | exact ne_true_of_eq_false (by assumption))] | rw [if_neg (by first | assumption | omega | exact ne_true_of_eq_false (by assumption))])
    have b206 := bt b43 hb46
    have b207 := bt b206 hb57
    have l208 := lq b206 ge55
    have b209 := b207.trans (hb62.mono l208)
    have b210 := bt b209 hb115
    have b211 := bt b210 hb126
    have l212 := lq b210 ge124
    have b213 := b211.trans (hb131.mono l212)
    have l214 := lq hb6 ge11
    have b215 := b213.trans (hb178.mono l214)
    exact bodyPost_ret (res_cell3 Try.results22 rfl (hg176.load (P := Try.prog) 56 Try.underlying56 rfl (by kernel_rfl)) rfl rfl) rfl ⟨by rw [e]; rfl, b215⟩
   refine lv (.bool true) (by exact neq_int_ne (by exact rfl) (by exact rfl) (by exact rfl) (by first | assumption | omega)) ?_
   simp only [lay]
   refine lv (.bool true) (by exact xm) ?_
   simp only [lay]
   refine lzn ?_
   simp only [lay]
   refine lzn ?_
   simp only [lay]
   refine lzn ?_
   simp only [lay]
   refine lv (.bool true) (by exact xp (b := true)) ?_
   simp only [lay]
   refine lv (.bool true) (by exact xm) ?_
   simp only [lay]
   refine lzn ?_
   simp only [lay]
   refine lzn ?_
   simp only [lay]
   refine lzn ?_
   simp only [lay]
   refine lv (.bool true) (by exact xp (b := true)) ?_
   simp only [lay]
   refine wn ?_
   refine cT9 ?_
   refine wp_sr ?_
   refine lv (.agg #[.int .u8 0, .int .u8 0, .int .u8 0, .int .u8 0, .int .u8 0, .int .u8 0, .int .u8 0, .int .u8 0, .int .u8 0, .int .u8 0, .int .u8 0, .int .u8 0, .int .u8 0, .int .u8 0, .int .u8 0, .int .u8 0, .int .u8 0, .int .u8 0, .int .u8 0, .int .u8 0, .int .u8 0, .int .u8 0, .int .u8 0, .int .u8 0, .int .u8 0, .int .u8 0, .int .u8 0, .int .u8 0, .int .u8 0, .int .u8 0, .int .u8 0, .int .u8 0]) (by kernel_rfl) ?_
   simp only [lay]
   have b220 := bt hb19 hb25
   have b221 := bt b220 hb46
   have b222 := bt b221 hb57
   have l223 := lq b221 ge55
   have b224 := b222.trans (hb62.mono l223)
   have has225 := hg10.to b224
   refine lz (ow_st 56 (.tmp 2) (.tmp 47) g8 #[.int .u8 0, .int .u8 0, .int .u8 0, .int .u8 0, .int .u8 0, .int .u8 0, .int .u8 0, .int .u8 0, .int .u8 0, .int .u8 0, .int .u8 0, .int .u8 0, .int .u8 0, .int .u8 0, .int .u8 0, .int .u8 0, .int .u8 0, .int .u8 0, .int .u8 0, .int .u8 0, .int .u8 0, .int .u8 0, .int .u8 0, .int .u8 0, .int .u8 0, .int .u8 0, .int .u8 0, .int .u8 0, .int .u8 0, .int .u8 0, .int .u8 0, .int .u8 0] _ _ rfl (by exact rfl) (by exact rfl) has225 (by kernel_rfl) rfl (by kernel_rfl) ?_)
   intro W216 hg217 bs218 hb219
   have l226 : W45.heap.size ≤ g52 := Nat.le_of_eq ge55.symm
   have b227 := hb57.trans (hb62.mono l226)
   have own228 := hO50.to b227
   have z229 := hb219.size
   have own230 := own228.but6 bs218 (by omega)
   have has231 := hg60.but6 bs218 (by omega)
   simp only [lay]
   refine lv (.bool false) (by exact xa) ?_
   simp only [lay]
   refine lv (.int .i64 0) (by exact xa) ?_
   simp only [lay]
   refine wn ?_
   refine wp_ret ?_
   try simp only [Exit.then]
   have qp : d.part = false := by assumption
   have e : tells18 d = ((z16, z16), false, 0) := by
    unfold tells18
    simp only [hM, hPE, hEr, hD]
    simp only [qp, Bool.false_eq_true, false_or]
    repeat (first | rw [if_pos (by first | assumption | omega | exact ne_true_of_eq_false (by assumption))] | rw [if_neg (by first | assumption | omega | exact ne_true_of_eq_false (by assumption))])
   have b232 := bt b43 hb46
   have b233 := bt b232 hb57
   have l234 := lq b232 ge55
   have b235 := b233.trans (hb62.mono l234)
   have l236 := lq hb6 ge11
   have b237 := b235.trans (hb219.mono l236)
   exact bodyPost_ret (res_cell3 Try.results22 rfl (hg217.load (P := Try.prog) 56 Try.underlying56 rfl (by kernel_rfl)) rfl rfl) rfl ⟨by rw [e]; rfl, b237⟩
  refine lv (.bool true) (by exact neq_int_ne (by exact rfl) (by exact rfl) (by exact rfl) (by first | assumption | omega)) ?_
  simp only [lay]
  refine lv (.bool true) (by exact xp (b := false)) ?_
  simp only [lay]
  refine wn ?_
  refine cT9 ?_
  refine wp_sr ?_
  refine lv (.agg #[.int .u8 0, .int .u8 0, .int .u8 0, .int .u8 0, .int .u8 0, .int .u8 0, .int .u8 0, .int .u8 0, .int .u8 0, .int .u8 0, .int .u8 0, .int .u8 0, .int .u8 0, .int .u8 0, .int .u8 0, .int .u8 0, .int .u8 0, .int .u8 0, .int .u8 0, .int .u8 0, .int .u8 0, .int .u8 0, .int .u8 0, .int .u8 0, .int .u8 0, .int .u8 0, .int .u8 0, .int .u8 0, .int .u8 0, .int .u8 0, .int .u8 0, .int .u8 0]) (by kernel_rfl) ?_
  simp only [lay]
  have b242 := bt hb19 hb25
  have has243 := hg10.to b242
  refine lz (ow_st 56 (.tmp 2) (.tmp 24) g8 #[.int .u8 0, .int .u8 0, .int .u8 0, .int .u8 0, .int .u8 0, .int .u8 0, .int .u8 0, .int .u8 0, .int .u8 0, .int .u8 0, .int .u8 0, .int .u8 0, .int .u8 0, .int .u8 0, .int .u8 0, .int .u8 0, .int .u8 0, .int .u8 0, .int .u8 0, .int .u8 0, .int .u8 0, .int .u8 0, .int .u8 0, .int .u8 0, .int .u8 0, .int .u8 0, .int .u8 0, .int .u8 0, .int .u8 0, .int .u8 0, .int .u8 0, .int .u8 0] _ _ rfl (by exact rfl) (by exact rfl) has243 (by kernel_rfl) rfl (by kernel_rfl) ?_)
  intro W238 hg239 bs240 hb241
  have z244 := hb241.size
  simp only [lay]
  refine lv (.bool false) (by exact xa) ?_
  simp only [lay]
  refine lv (.int .i64 0) (by exact xa) ?_
  simp only [lay]
  refine wn ?_
  refine wp_ret ?_
  try simp only [Exit.then]
  have qp : d.part = false := by assumption
  have e : tells18 d = ((z16, z16), false, 0) := by
   unfold tells18
   simp only [hM, hPE, hEr, hD]
   simp only [qp, Bool.false_eq_true, false_or]
   repeat (first | rw [if_pos (by first | assumption | omega | exact ne_true_of_eq_false (by assumption))] | rw [if_neg (by first | assumption | omega | exact ne_true_of_eq_false (by assumption))])
  have b245 := bt b16 hb19
  have b246 := bt b245 hb25
  have l247 := lq hb6 ge11
  have b248 := b246.trans (hb241.mono l247)
  exact bodyPost_ret (res_cell3 Try.results22 rfl (hg239.load (P := Try.prog) 56 Try.underlying56 rfl (by kernel_rfl)) rfl rfl) rfl ⟨by rw [e]; rfl, b248⟩
 refine lv (.bool true) (by exact neq_int_ne (by exact rfl) (by exact rfl) (by exact rfl) (by first | assumption | omega)) ?_
 simp only [lay]
 refine wn ?_
 refine cT9 ?_
 refine wp_sr ?_
 refine lv (.agg #[.int .u8 0, .int .u8 0, .int .u8 0, .int .u8 0, .int .u8 0, .int .u8 0, .int .u8 0, .int .u8 0, .int .u8 0, .int .u8 0, .int .u8 0, .int .u8 0, .int .u8 0, .int .u8 0, .int .u8 0, .int .u8 0, .int .u8 0, .int .u8 0, .int .u8 0, .int .u8 0, .int .u8 0, .int .u8 0, .int .u8 0, .int .u8 0, .int .u8 0, .int .u8 0, .int .u8 0, .int .u8 0, .int .u8 0, .int .u8 0, .int .u8 0, .int .u8 0]) (by kernel_rfl) ?_
 simp only [lay]
 refine lv (.int .i64 d.check) (by exact xm) ?_
 simp only [lay]
 have has253 := hg10.to hb19
 refine lz (ow_st 56 (.tmp 2) (.tmp 15) g8 #[.int .u8 0, .int .u8 0, .int .u8 0, .int .u8 0, .int .u8 0, .int .u8 0, .int .u8 0, .int .u8 0, .int .u8 0, .int .u8 0, .int .u8 0, .int .u8 0, .int .u8 0, .int .u8 0, .int .u8 0, .int .u8 0, .int .u8 0, .int .u8 0, .int .u8 0, .int .u8 0, .int .u8 0, .int .u8 0, .int .u8 0, .int .u8 0, .int .u8 0, .int .u8 0, .int .u8 0, .int .u8 0, .int .u8 0, .int .u8 0, .int .u8 0, .int .u8 0] _ _ rfl (by exact rfl) (by exact rfl) has253 (by kernel_rfl) rfl (by kernel_rfl) ?_)
 intro W249 hg250 bs251 hb252
 have z254 := hb252.size
 simp only [lay]
 refine lv (.bool false) (by exact xa) ?_
 simp only [lay]
 refine lv (.int .i64 d.check) (by exact xa) ?_
 simp only [lay]
 refine wn ?_
 refine wp_ret ?_
 try simp only [Exit.then]
 have e : tells18 d = ((z16, z16), false, d.check) := by
  unfold tells18
  simp only [hM, hPE, hEr, hD]
  repeat (first | rw [if_pos (by first | assumption | omega | exact ne_true_of_eq_false (by assumption))] | rw [if_neg (by first | assumption | omega | exact ne_true_of_eq_false (by assumption))])
 have b255 := bt b16 hb19
 have l256 := lq hb6 ge11
 have b257 := b255.trans (hb252.mono l256)
 exact bodyPost_ret (res_cell3 Try.results22 rfl (hg250.load (P := Try.prog) 56 Try.underlying56 rfl (by kernel_rfl)) rfl rfl) rfl ⟨by rw [e]; rfl, b257⟩
end Go.Proofs.Ytjnphelfloiadaa
