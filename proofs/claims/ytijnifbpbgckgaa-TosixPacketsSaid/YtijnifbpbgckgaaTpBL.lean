/-
  Lemmas and walks for the row of TosixPackets (part 38 of 45).
-/
import Derived.Test.YtijnifbpbgckgaaTpAF
import Derived.Test.YtijnifbpbgckgaaTpBK
set_option linter.unusedVariables false
set_option linter.unusedSimpArgs false
namespace Go.Proofs.Ytijnifbpbgckgaa
open Go.RowKit Go.Shelf
attribute [local irreducible] wpList Code.wp Oper.wp wpOp wpAnyH

theorem take2_eq {l : List Int} (h : 2 ≤ l.length) : l.take 2 = [l.getD 0 0, l.getD 1 0] := by
 match l, h with
 | a :: b :: r, _ => rfl
theorem getD_set_eq {l : List Int} {i : Nat} (h : i < l.length) (x : Int) : (l.set i x).getD i 0 = x := by simp [List.getD_eq_getElem?_getD, List.getElem?_set, h]

set_option maxRecDepth 100000 in
set_option maxHeartbeats 8000000 in
theorem rinside17_any (d : D4) (p : W4) (s t : List Int) (hE : E6ok s t) (n : Int) (hn : 0 ≤ n ∧ n < 65536) (w : World) (hR : Rd4 w.heap.size w d p) (hm : d.bl.length ≤ 65535) :
  Calls Try.prog 58 #[.agg (d.cells p), .agg (ends6 s t), .int .i64 n] w fun e w' => ∃ v, e = .returned v ∧ OwnB w' w.heap.size v (told17 d s t n) ∧ Below w.heap.size w w' := by
 have sL := hE.sL
 have tL := hE.tL
 have yo := hR.opt
 have yb := hR.body
 go_enter Try.func58, Try.ntmps58
 refine wp_sr ?_
 refine lz (ow_box 27 (.tmp 0) _ rfl rfl ?_)
 intro g1 W2 hg3 ge4 sz5 hb6
 have z7 := hb6.size
 simp only [lay]
 refine lz (ow_box 31 (.tmp 1) _ rfl rfl ?_)
 intro g8 W9 hg10 ge11 sz12 hb13
 have z14 := hb13.size
 simp only [lay]
 refine lv (.slice none 0 0) (by exact xa) ?_
 simp only [lay]
 refine wn ?_
 refine wp_sr ?_
 refine lz (ow_build0 rfl Try.underlying25 (by kernel_rfl) ?_)
 intro g15 W16 hg17 ge18 sz19 hb20
 have z21 := hb20.size
 have hO22 : OwnB W16 W9.heap.size (.slice (some ⟨g15, 0, none⟩) 0 0) [] := OwnB.blk (l := []) hg17 (Nat.le_of_eq ge18.symm) rfl InB.nil (by simp)
 simp only [lay]
 refine lv (.pointer (some ⟨g1, 16, none⟩)) (by exact xf 16 0 Try.underlying27) ?_
 simp only [lay]
 have b23 := bt hb13 hb20
 have has24 := hg3.to b23
 refine lv (.slice p.bA d.bl.length p.bc) (by exact xc Try.underlying25 (has24.cell 16 rfl)) ?_
 simp only [lay]
 have b30 := bt hb6 hb13
 have b31 := bt b30 hb20
 have by32 := yb.to b31
 refine lz (ow_app (.tmp 12) (.tmp 14) 25 rfl Try.underlying25 info8 _ _ [] rfl hO22 _ _ _ _ d.bl rfl by32 (by first | decide | (simp only [List.length_nil, List.length_append, List.length_cons, sL, tL]; omega)) hb20.size ?_)
 intro v29 W25 hO26 hb27 hgr28
 have z33 := hb27.size
 have hO34 : OwnB W25 W9.heap.size v29 d.bl := hO26
 obtain ⟨A35, c36, rfl, y37⟩ := hO34.by_
 simp only [lay]
 refine lv (.slice A35 d.bl.length c36) (by exact xa) ?_
 simp only [lay]
 refine wn ?_
 refine wp_seq ?_
 refine wp_block ?_
 refine wp_sr ?_
 refine lv (.pointer (some ⟨g1, 4, none⟩)) (by exact xf 4 0 Try.underlying27) ?_
 simp only [lay]
 have l38 := Nat.le_trans hb13.size (Nat.le_refl _)
 have b39 := b23.trans (hb27.mono l38)
 have has40 := hg3.to b39
 refine lv (.int .i64 d.off) (by exact xc Try.underlying3 (has40.cell 4 rfl)) ?_
 simp only [lay]
 by_cases q41 : d.off > 0
 case pos =>
  refine lv (.bool true) (by exact ex_gtr (by exact rfl) (by exact rfl) (by exact rfl) (decide_eq_true (by first | assumption | omega | decide))) ?_
  simp only [lay]
  refine lv (.bool true) (by exact xa) ?_
  simp only [lay]
  refine wn ?_
  refine cT9 ?_
  refine wp_skip ?_
  change Code.wp _ _ _ _ _
  refine wp_sr ?_
  refine lv (.slice A35 d.bl.length c36) (by exact xm) ?_
  simp only [lay]
  refine lv (.slice A35 d.bl.length c36) (by exact xa) ?_
  simp only [lay]
  refine wn ?_
  refine wp_ret ?_
  try simp only [Exit.then]
  have e : told17 d s t n = d.bl := by
   unfold told17
   repeat (first | rw [if_pos (by first | assumption | omega | exact ne_true_of_eq_false (by assumption))] | rw [if_neg (by first | assumption | omega | exact ne_true_of_eq_false (by assumption))])
  have l42 := Nat.le_trans b30.size (Nat.le_refl _)
  have b43 := b31.trans (hb27.mono l42)
  exact bodyPost_ret (res_one Try.results58 rfl) rfl ⟨_, rfl, by rw [e]; exact (hO34.more b30.size), b43⟩
 refine lv (.bool false) (by exact ex_gtr (by exact rfl) (by exact rfl) (by exact rfl) (decide_eq_false (by first | assumption | omega | decide))) ?_
 simp only [lay]
 refine lv (.bool false) (by exact xa) ?_
 simp only [lay]
 refine wn ?_
 refine cF9 ?_
 refine wp_sr ?_
 refine lv (.pointer (some ⟨g1, 6, none⟩)) (by exact xf 6 0 Try.underlying27) ?_
 simp only [lay]
 refine lv (.int .u8 d.proto) (by exact xc Try.underlying5 (has40.cell 6 rfl)) ?_
 simp only [lay]
 by_cases q44 : d.proto = 6
 case pos =>
  refine lv (.bool true) (by exact yq) ?_
  simp only [lay]
  refine lv (.bool true) (by exact xm) ?_
  simp only [lay]
  refine lv (.slice A35 d.bl.length c36) (by exact xm) ?_
  simp only [lay]
  refine lv (.int .i64 (d.bl.length : Int)) (by exact xz Try.underlying25) ?_
  simp only [lay]
  by_cases q45 : (d.bl.length : Int) ≥ 18
  case pos =>
   refine lv (.bool true) (by exact ex_geq (by exact rfl) (by exact rfl) (by exact rfl) (decide_eq_true (by first | assumption | omega | decide))) ?_
   simp only [lay]
   refine lv (.bool true) (by exact xp (b := true)) ?_
   simp only [lay]
   refine lv (.bool true) (by exact xa) ?_
   simp only [lay]
   refine wn ?_
   refine cT9 ?_
   refine wp_sr ?_
   refine lv (.agg (d.cells p)) (by exact xo (has40.load (P := Try.prog) 27 Try.underlying27 rfl (by kernel_rfl))) ?_
   simp only [lay]
   have b46 := hb20.trans (hb27.mono (Nat.le_refl _))
   have has47 := hg10.to b46
   refine lv (.agg (ends6 s t)) (by exact xo (has47.load (P := Try.prog) 31 Try.underlying31 rfl (by kernel_rfl))) ?_
   simp only [lay]
   refine lv (.slice A35 d.bl.length c36) (by exact xm) ?_
   simp only [lay]
   refine lz (ow_call (fun v w' => OwnB w' W25.heap.size v (carry17 (d.proto == 17) (from17 d) (s ++ t) d.bl 16) ∧ Below W25.heap.size W25 w') (by exact xk Try.func80) (rcarried_any d hR.ok p s t hE _ _ _ d.bl 16 W25 (own_byS hO34) (by omega) (by omega)) ?_)
   rintro v50 W48 ⟨hO51, hb49⟩
   have z52 := hb49.size
   obtain ⟨A53, c54, rfl, y55⟩ := hO51.by_
   simp only [lay]
   refine lv (.slice A53 ((carry17 (d.proto == 17) (from17 d) (s ++ t) d.bl 16).length) c54) (by exact xa) ?_
   simp only [lay]
   refine wn ?_
   refine wp_ret ?_
   simp only [Exit.inBlock, Exit.then]
   have hu : (d.proto == 17) = false := by rw [show d.proto = 6 from by assumption]; rfl
   have e : told17 d s t n = carry17 (d.proto == 17) (from17 d) (s ++ t) d.bl 16 := by
    unfold told17
    repeat (first | rw [if_pos (by first | assumption | omega | exact ne_true_of_eq_false (by assumption))] | rw [if_neg (by first | assumption | omega | exact ne_true_of_eq_false (by assumption))])
    rw [hu]
   have l56 := Nat.le_trans b30.size (Nat.le_refl _)
   have b57 := b31.trans (hb27.mono l56)
   have b58 := bt b57 hb49
   exact bodyPost_ret (res_one Try.results58 rfl) rfl ⟨_, rfl, by rw [e]; exact (hO51.more b57.size), b58⟩
  refine lv (.bool false) (by exact ex_geq (by exact rfl) (by exact rfl) (by exact rfl) (decide_eq_false (by first | assumption | omega | decide))) ?_
  simp only [lay]
  refine lv (.bool false) (by exact xp (b := true)) ?_
  simp only [lay]
  refine lv (.bool false) (by exact xa) ?_
  simp only [lay]
  refine wn ?_
  refine cF9 ?_
  refine wp_sr ?_
  refine lv (.pointer (some ⟨g1, 6, none⟩)) (by exact xf 6 0 Try.underlying27) ?_
  simp only [lay]
  refine lv (.int .u8 d.proto) (by exact xc Try.underlying5 (has40.cell 6 rfl)) ?_
  simp only [lay]
  refine lv (.bool false) (by exact yqn) ?_
  simp only [lay]
  refine lv (.bool false) (by exact xm) ?_
  simp only [lay]
  refine lzn ?_
  simp only [lay]
  refine lzn ?_
  simp only [lay]
  refine lzn ?_
  simp only [lay]
  refine lv (.bool false) (by exact xp (b := false)) ?_
  simp only [lay]
  refine lv (.bool false) (by exact xm) ?_
  simp only [lay]
  refine lzn ?_
  simp only [lay]
  refine lzn ?_
  simp only [lay]
  refine lzn ?_
  simp only [lay]
  refine lzn ?_
  simp only [lay]
  refine lzn ?_
  simp only [lay]
  refine lzn ?_
  simp only [lay]
  refine lzn ?_
  simp only [lay]
  refine lzn ?_
  simp only [lay]
  refine lzn ?_
  simp only [lay]
  refine lzn ?_
  simp only [lay]
  refine lv (.bool false) (by exact xp (b := false)) ?_
  simp only [lay]
  refine lv (.bool false) (by exact xa) ?_
  simp only [lay]
  refine wn ?_
  refine cF9 ?_
  refine wp_sr ?_
  refine lv (.pointer (some ⟨g1, 6, none⟩)) (by exact xf 6 0 Try.underlying27) ?_
  simp only [lay]
  refine lv (.int .u8 d.proto) (by exact xc Try.underlying5 (has40.cell 6 rfl)) ?_
  simp only [lay]
  refine lv (.bool false) (by exact yqn) ?_
  simp only [lay]
  refine lv (.bool false) (by exact xm) ?_
  simp only [lay]
  refine lzn ?_
  simp only [lay]
  refine lzn ?_
  simp only [lay]
  refine lzn ?_
  simp only [lay]
  refine lv (.bool false) (by exact xp (b := false)) ?_
  simp only [lay]
  refine lv (.bool false) (by exact xa) ?_
  simp only [lay]
  refine wn ?_
  refine cF9 ?_
  refine wp_skip ?_
  change Code.wp _ _ _ _ _
  refine wp_sr ?_
  refine lv (.slice A35 d.bl.length c36) (by exact xm) ?_
  simp only [lay]
  refine lv (.slice A35 d.bl.length c36) (by exact xa) ?_
  simp only [lay]
  refine wn ?_
  refine wp_ret ?_
  try simp only [Exit.then]
  have e : told17 d s t n = d.bl := by
   unfold told17
   repeat (first | rw [if_pos (by first | assumption | omega | exact ne_true_of_eq_false (by assumption))] | rw [if_neg (by first | assumption | omega | exact ne_true_of_eq_false (by assumption))])
  have l61 := Nat.le_trans b30.size (Nat.le_refl _)
  have b62 := b31.trans (hb27.mono l61)
  exact bodyPost_ret (res_one Try.results58 rfl) rfl ⟨_, rfl, by rw [e]; exact (hO34.more b30.size), b62⟩
 refine lv (.bool false) (by exact yqn) ?_
 simp only [lay]
 refine lv (.bool false) (by exact xm) ?_
 simp only [lay]
 refine lzn ?_
 simp only [lay]
 refine lzn ?_
 simp only [lay]
 refine lzn ?_
 simp only [lay]
 refine lv (.bool false) (by exact xp (b := false)) ?_
 simp only [lay]
 refine lv (.bool false) (by exact xa) ?_
 simp only [lay]
 refine wn ?_
 refine cF9 ?_
 refine wp_sr ?_
 refine lv (.pointer (some ⟨g1, 6, none⟩)) (by exact xf 6 0 Try.underlying27) ?_
 simp only [lay]
 refine lv (.int .u8 d.proto) (by exact xc Try.underlying5 (has40.cell 6 rfl)) ?_
 simp only [lay]
 by_cases q63 : d.proto = 17
 case pos =>
  refine lv (.bool true) (by exact yq) ?_
  simp only [lay]
  refine lv (.bool true) (by exact xm) ?_
  simp only [lay]
  refine lv (.slice A35 d.bl.length c36) (by exact xm) ?_
  simp only [lay]
  refine lv (.int .i64 (d.bl.length : Int)) (by exact xz Try.underlying25) ?_
  simp only [lay]
  by_cases q64 : (d.bl.length : Int) ≥ 8
  case pos =>
   refine lv (.bool true) (by exact ex_geq (by exact rfl) (by exact rfl) (by exact rfl) (decide_eq_true (by first | assumption | omega | decide))) ?_
   simp only [lay]
   refine lv (.bool true) (by exact xp (b := true)) ?_
   simp only [lay]
   refine lv (.bool true) (by exact xm) ?_
   simp only [lay]
   refine lv (.slice A35 d.bl.length c36) (by exact xm) ?_
   simp only [lay]
   obtain ⟨g65, rfl, h66, h67⟩ := own_form hO34 (by first | omega | simp [D4.src])
   refine lv (.pointer (some ⟨g65, 0 + 6, none⟩)) (by exact ex_index (k := 6) (by exact rfl) Try.underlying25 (by kernel_rfl) (by exact rfl) (by exact rfl) (show 6 < d.bl.length by omega)) ?_
   simp only [lay]
   refine lv (.int .u8 (d.bl.getD 6 0)) (by exact xc Try.underlying5 ((own_byS hO34).atE (k := 6) rfl (by omega))) ?_
   simp only [lay]
   by_cases q68 : d.bl.getD 6 0 = 0
   case pos =>
    refine lv (.bool false) (by exact neq_int_eq (by exact rfl) (by exact rfl) (by exact rfl) (by first | assumption | omega)) ?_
    simp only [lay]
    refine lv (.bool false) (by exact xm) ?_
    simp only [lay]
    refine lv (.slice (some ⟨g65, 0, none⟩) d.bl.length c36) (by exact xm) ?_
    simp only [lay]
    refine lv (.pointer (some ⟨g65, 0 + 7, none⟩)) (by exact ex_index (k := 7) (by exact rfl) Try.underlying25 (by kernel_rfl) (by exact rfl) (by exact rfl) (show 7 < d.bl.length by omega)) ?_
    simp only [lay]
    refine lv (.int .u8 (d.bl.getD 7 0)) (by exact xc Try.underlying5 ((own_byS hO34).atE (k := 7) rfl (by omega))) ?_
    simp only [lay]
    by_cases q69 : d.bl.getD 7 0 = 0
    case pos =>
     refine lv (.bool false) (by exact neq_int_eq (by exact rfl) (by exact rfl) (by exact rfl) (by first | assumption | omega)) ?_
     simp only [lay]
     refine lv (.bool false) (by exact xp (b := false)) ?_
     simp only [lay]
     refine lv (.bool false) (by exact xp (b := true)) ?_
     simp only [lay]
     refine lv (.bool false) (by exact xa) ?_
     simp only [lay]
     refine wn ?_
     refine cF9 ?_
     refine wp_sr ?_
     refine lv (.pointer (some ⟨g1, 6, none⟩)) (by exact xf 6 0 Try.underlying27) ?_
     simp only [lay]
     refine lv (.int .u8 d.proto) (by exact xc Try.underlying5 (has40.cell 6 rfl)) ?_
     simp only [lay]
     refine lv (.bool false) (by exact yqn) ?_
     simp only [lay]
     refine lv (.bool false) (by exact xm) ?_
     simp only [lay]
     refine lzn ?_
     simp only [lay]
     refine lzn ?_
     simp only [lay]
     refine lzn ?_
     simp only [lay]
     refine lv (.bool false) (by exact xp (b := false)) ?_
     simp only [lay]
     refine lv (.bool false) (by exact xa) ?_
     simp only [lay]
     refine wn ?_
     refine cF9 ?_
     refine wp_skip ?_
     change Code.wp _ _ _ _ _
     refine wp_sr ?_
     refine lv (.slice (some ⟨g65, 0, none⟩) d.bl.length c36) (by exact xm) ?_
     simp only [lay]
     refine lv (.slice (some ⟨g65, 0, none⟩) d.bl.length c36) (by exact xa) ?_
     simp only [lay]
     refine wn ?_
     refine wp_ret ?_
     try simp only [Exit.then]
     have e : told17 d s t n = d.bl := by
      unfold told17
      repeat (first | rw [if_pos (by first | assumption | omega | exact ne_true_of_eq_false (by assumption))] | rw [if_neg (by first | assumption | omega | exact ne_true_of_eq_false (by assumption))])
     have l71 := Nat.le_trans b30.size (Nat.le_refl _)
     have b72 := b31.trans (hb27.mono l71)
     exact bodyPost_ret (res_one Try.results58 rfl) rfl ⟨_, rfl, by rw [e]; exact (hO34.more b30.size), b72⟩
    refine lv (.bool true) (by exact neq_int_ne (by exact rfl) (by exact rfl) (by exact rfl) (by first | assumption | omega)) ?_
    simp only [lay]
    refine lv (.bool true) (by exact xp (b := false)) ?_
    simp only [lay]
    refine lv (.bool true) (by exact xp (b := true)) ?_
    simp only [lay]
    refine lv (.bool true) (by exact xa) ?_
    simp only [lay]
    refine wn ?_
    refine cT9 ?_
    refine wp_sr ?_
    refine lv (.agg (d.cells p)) (by exact xo (has40.load (P := Try.prog) 27 Try.underlying27 rfl (by kernel_rfl))) ?_
    simp only [lay]
    have b73 := hb20.trans (hb27.mono (Nat.le_refl _))
    have has74 := hg10.to b73
    refine lv (.agg (ends6 s t)) (by exact xo (has74.load (P := Try.prog) 31 Try.underlying31 rfl (by kernel_rfl))) ?_
    simp only [lay]
    refine lv (.slice (some ⟨g65, 0, none⟩) d.bl.length c36) (by exact xm) ?_
    simp only [lay]
    refine lz (ow_call (fun v w' => OwnB w' W25.heap.size v (carry17 (d.proto == 17) (from17 d) (s ++ t) d.bl 6) ∧ Below W25.heap.size W25 w') (by exact xk Try.func80) (rcarried_any d hR.ok p s t hE _ _ _ d.bl 6 W25 (own_byS hO34) (by omega) (by omega)) ?_)
    rintro v77 W75 ⟨hO78, hb76⟩
    have z79 := hb76.size
    obtain ⟨A80, c81, rfl, y82⟩ := hO78.by_
    simp only [lay]
    refine lv (.slice A80 ((carry17 (d.proto == 17) (from17 d) (s ++ t) d.bl 6).length) c81) (by exact xa) ?_
    simp only [lay]
    refine wn ?_
    refine wp_ret ?_
    simp only [Exit.inBlock, Exit.then]
    have hu : (d.proto == 17) = true := by rw [show d.proto = 17 from by assumption]; rfl
    have e : told17 d s t n = carry17 (d.proto == 17) (from17 d) (s ++ t) d.bl 6 := by
     unfold told17
     repeat (first | rw [if_pos (by first | assumption | omega | exact ne_true_of_eq_false (by assumption))] | rw [if_neg (by first | assumption | omega | exact ne_true_of_eq_false (by assumption))])
     rw [hu]
    have l83 := Nat.le_trans b30.size (Nat.le_refl _)
    have b84 := b31.trans (hb27.mono l83)
    have b85 := bt b84 hb76
    exact bodyPost_ret (res_one Try.results58 rfl) rfl ⟨_, rfl, by rw [e]; exact (hO78.more b84.size), b85⟩
   refine lv (.bool true) (by exact neq_int_ne (by exact rfl) (by exact rfl) (by exact rfl) (by first | assumption | omega)) ?_
   simp only [lay]
   refine lv (.bool true) (by exact xm) ?_
   simp only [lay]
   refine lzn ?_
   simp only [lay]
   refine lzn ?_
   simp only [lay]
   refine lzn ?_
   simp only [lay]
   refine lzn ?_
   simp only [lay]
   refine lv (.bool true) (by exact xp (b := true)) ?_
   simp only [lay]
   refine lv (.bool true) (by exact xp (b := true)) ?_
   simp only [lay]
   refine lv (.bool true) (by exact xa) ?_
   simp only [lay]
   refine wn ?_
   refine cT9 ?_
   refine wp_sr ?_
   refine lv (.agg (d.cells p)) (by exact xo (has40.load (P := Try.prog) 27 Try.underlying27 rfl (by kernel_rfl))) ?_
   simp only [lay]
   have b86 := hb20.trans (hb27.mono (Nat.le_refl _))
   have has87 := hg10.to b86
   refine lv (.agg (ends6 s t)) (by exact xo (has87.load (P := Try.prog) 31 Try.underlying31 rfl (by kernel_rfl))) ?_
   simp only [lay]
   refine lv (.slice (some ⟨g65, 0, none⟩) d.bl.length c36) (by exact xm) ?_
   simp only [lay]
   refine lz (ow_call (fun v w' => OwnB w' W25.heap.size v (carry17 (d.proto == 17) (from17 d) (s ++ t) d.bl 6) ∧ Below W25.heap.size W25 w') (by exact xk Try.func80) (rcarried_any d hR.ok p s t hE _ _ _ d.bl 6 W25 (own_byS hO34) (by omega) (by omega)) ?_)
   rintro v90 W88 ⟨hO91, hb89⟩
   have z92 := hb89.size
   obtain ⟨A93, c94, rfl, y95⟩ := hO91.by_
   simp only [lay]
   refine lv (.slice A93 ((carry17 (d.proto == 17) (from17 d) (s ++ t) d.bl 6).length) c94) (by exact xa) ?_
   simp only [lay]
   refine wn ?_
   refine wp_ret ?_
   simp only [Exit.inBlock, Exit.then]
   have hu : (d.proto == 17) = true := by rw [show d.proto = 17 from by assumption]; rfl
   have e : told17 d s t n = carry17 (d.proto == 17) (from17 d) (s ++ t) d.bl 6 := by
    unfold told17
    repeat (first | rw [if_pos (by first | assumption | omega | exact ne_true_of_eq_false (by assumption))] | rw [if_neg (by first | assumption | omega | exact ne_true_of_eq_false (by assumption))])
    rw [hu]
   have l96 := Nat.le_trans b30.size (Nat.le_refl _)
   have b97 := b31.trans (hb27.mono l96)
   have b98 := bt b97 hb89
   exact bodyPost_ret (res_one Try.results58 rfl) rfl ⟨_, rfl, by rw [e]; exact (hO91.more b97.size), b98⟩
  refine lv (.bool false) (by exact ex_geq (by exact rfl) (by exact rfl) (by exact rfl) (decide_eq_false (by first | assumption | omega | decide))) ?_
  simp only [lay]
  refine lv (.bool false) (by exact xp (b := true)) ?_
  simp only [lay]
  refine lv (.bool false) (by exact xm) ?_
  simp only [lay]
  refine lzn ?_
  simp only [lay]
  refine lzn ?_
  simp only [lay]
  refine lzn ?_
  simp only [lay]
  refine lzn ?_
  simp only [lay]
  refine lzn ?_
  simp only [lay]
  refine lzn ?_
  simp only [lay]
  refine lzn ?_
  simp only [lay]
  refine lzn ?_
  simp only [lay]
  refine lzn ?_
  simp only [lay]
  refine lzn ?_
  simp only [lay]
  refine lv (.bool false) (by exact xp (b := false)) ?_
  simp only [lay]
  refine lv (.bool false) (by exact xa) ?_
  simp only [lay]
  refine wn ?_
  refine cF9 ?_
  refine wp_sr ?_
  refine lv (.pointer (some ⟨g1, 6, none⟩)) (by exact xf 6 0 Try.underlying27) ?_
  simp only [lay]
  refine lv (.int .u8 d.proto) (by exact xc Try.underlying5 (has40.cell 6 rfl)) ?_
  simp only [lay]
  refine lv (.bool false) (by exact yqn) ?_
  simp only [lay]
  refine lv (.bool false) (by exact xm) ?_
  simp only [lay]
  refine lzn ?_
  simp only [lay]
  refine lzn ?_
  simp only [lay]
  refine lzn ?_
  simp only [lay]
  refine lv (.bool false) (by exact xp (b := false)) ?_
  simp only [lay]
  refine lv (.bool false) (by exact xa) ?_
  simp only [lay]
  refine wn ?_
  refine cF9 ?_
  refine wp_skip ?_
  change Code.wp _ _ _ _ _
  refine wp_sr ?_
  refine lv (.slice A35 d.bl.length c36) (by exact xm) ?_
  simp only [lay]
  refine lv (.slice A35 d.bl.length c36) (by exact xa) ?_
  simp only [lay]
  refine wn ?_
  refine wp_ret ?_
  try simp only [Exit.then]
  have e : told17 d s t n = d.bl := by
   unfold told17
   repeat (first | rw [if_pos (by first | assumption | omega | exact ne_true_of_eq_false (by assumption))] | rw [if_neg (by first | assumption | omega | exact ne_true_of_eq_false (by assumption))])
  have l100 := Nat.le_trans b30.size (Nat.le_refl _)
  have b101 := b31.trans (hb27.mono l100)
  exact bodyPost_ret (res_one Try.results58 rfl) rfl ⟨_, rfl, by rw [e]; exact (hO34.more b30.size), b101⟩
 refine lv (.bool false) (by exact yqn) ?_
 simp only [lay]
 refine lv (.bool false) (by exact xm) ?_
 simp only [lay]
 refine lzn ?_
 simp only [lay]
 refine lzn ?_
 simp only [lay]
 refine lzn ?_
 simp only [lay]
 refine lv (.bool false) (by exact xp (b := false)) ?_
 simp only [lay]
 refine lv (.bool false) (by exact xm) ?_
 simp only [lay]
 refine lzn ?_
 simp only [lay]
 refine lzn ?_
 simp only [lay]
 refine lzn ?_
 simp only [lay]
 refine lzn ?_
 simp only [lay]
 refine lzn ?_
 simp only [lay]
 refine lzn ?_
 simp only [lay]
 refine lzn ?_
 simp only [lay]
 refine lzn ?_
 simp only [lay]
 refine lzn ?_
 simp only [lay]
 refine lzn ?_
 simp only [lay]
 refine lv (.bool false) (by exact xp (b := false)) ?_
 simp only [lay]
 refine lv (.bool false) (by exact xa) ?_
 simp only [lay]
 refine wn ?_
 refine cF9 ?_
 refine wp_sr ?_
 refine lv (.pointer (some ⟨g1, 6, none⟩)) (by exact xf 6 0 Try.underlying27) ?_
 simp only [lay]
 refine lv (.int .u8 d.proto) (by exact xc Try.underlying5 (has40.cell 6 rfl)) ?_
 simp only [lay]
 by_cases q102 : d.proto = 1
 case pos =>
  refine lv (.bool true) (by exact yq) ?_
  simp only [lay]
  refine lv (.bool true) (by exact xm) ?_
  simp only [lay]
  refine lv (.slice A35 d.bl.length c36) (by exact xm) ?_
  simp only [lay]
  refine lv (.int .i64 (d.bl.length : Int)) (by exact xz Try.underlying25) ?_
  simp only [lay]
  by_cases q103 : (d.bl.length : Int) ≥ 4
  case pos =>
   refine lv (.bool true) (by exact ex_geq (by exact rfl) (by exact rfl) (by exact rfl) (decide_eq_true (by first | assumption | omega | decide))) ?_
   simp only [lay]
   refine lv (.bool true) (by exact xp (b := true)) ?_
   simp only [lay]
   refine lv (.bool true) (by exact xa) ?_
   simp only [lay]
   refine wn ?_
   refine cT9 ?_
   refine wp_seq ?_
   refine rg_drawn W25.heap.size (by kernel_rfl) (Nat.le_refl _) ?_
   intro W104 hb105 hs106 hS107
   have z108 := hb105.size
   refine te 0 (.slice A35 d.bl.length c36) hS107 rfl (by intro _ _; exact xm) ?_
   simp only [lay]
   obtain ⟨g109, rfl, h110, h111⟩ := own_form hO34 (by first | omega | simp [D4.src])
   refine te 1 (.pointer (some ⟨g109, 0 + 0, none⟩)) hS107 rfl (by intro _ _; exact ex_index (k := 0) (by exact rfl) Try.underlying25 (by kernel_rfl) (by exact rfl) (by exact rfl) (show 0 < d.bl.length by omega)) ?_
   simp only [lay]
   refine te 2 (.int .u8 (d.bl.getD 0 0)) hS107 rfl (by intro _ h; exact xc Try.underlying5 ((own_byS (hO34.to h)).atE (k := 0) rfl (by omega))) ?_
   simp only [lay]
   refine te 3 (.slice (some ⟨g109, 0, none⟩) d.bl.length c36) hS107 rfl (by intro _ _; exact xm) ?_
   simp only [lay]
   refine te 4 (.pointer (some ⟨g109, 0 + 1, none⟩)) hS107 rfl (by intro _ _; exact ex_index (k := 1) (by exact rfl) Try.underlying25 (by kernel_rfl) (by exact rfl) (by exact rfl) (show 1 < d.bl.length by omega)) ?_
   simp only [lay]
   refine te 5 (.int .u8 (d.bl.getD 1 0)) hS107 rfl (by intro _ h; exact xc Try.underlying5 ((own_byS (hO34.to h)).atE (k := 1) rfl (by omega))) ?_
   simp only [lay]
   refine t1 6 rfl (ow_build (u8s [d.bl.getD 0 0, d.bl.getD 1 0]) rfl Try.underlying25 (by kernel_rfl) (by kernel_rfl) rfl (by decide) (by decide) (by first | rfl | (simp only [List.map_toArray, List.map_cons, List.map_nil] <;> rfl)) (u8s_cells _) ?_)
   intro g112 W113 hg114 ge115 sz116 hb117
   have z118 := hb117.size
   have hO119 := OwnB.blk hg114 (Nat.le_of_eq ge115.symm) rfl (by intro x hx; simp only [List.mem_cons, List.not_mem_nil, or_false] at hx; have := (getD_byte hO34.rng 0); have := (getD_byte hO34.rng 1); omega) (by simp)
   refine ⟨(Below.trans hS107 (hb117.mono hS107.size)), ?_⟩
   have hS120 := (Below.trans hS107 (hb117.mono hS107.size))
   simp only [lay]
   refine t1 7 rfl (ow_zeros (.tmp 73) (.const (.int .i64 38)) 25 3 rfl Try.underlying25 Try.underlying3 info8 _ g112 2 2 38 [d.bl.getD 0 0, d.bl.getD 1 0] rfl hO119 rfl (by decide) (by first | decide | (simp only [List.length_nil, List.length_append, List.length_cons, sL, tL]; omega)) hb117.size ?_)
   intro v124 W121 hO122 hb123
   have z125 := hb123.size
   obtain ⟨A126, c127, rfl, y128⟩ := hO122.by_
   refine ⟨(Below.trans hS120 (hb123.mono hb105.size)), ?_⟩
   have hS129 := (Below.trans hS120 (hb123.mono hb105.size))
   simp only [lay]
   refine te 8 (.slice A126 (([d.bl.getD 0 0, d.bl.getD 1 0] ++ List.replicate 38 0).length) c127) hS129 rfl (by intro _ _; exact xa) ?_
   simp only [lay]
   refine wpAnyH_done (by kernel_rfl) ?_ _
   change Code.wp _ _ _ _ _
   refine wp_seq ?_
   refine wp_sr ?_
   refine lv (.slice (some ⟨g109, 0, none⟩) d.bl.length c36) (by exact xm) ?_
   simp only [lay]
   refine lv (.pointer (some ⟨g109, 0 + 0, none⟩)) (by exact ex_index (k := 0) (by exact rfl) Try.underlying25 (by kernel_rfl) (by exact rfl) (by exact rfl) (show 0 < d.bl.length by omega)) ?_
   simp only [lay]
   have b130 := bt hb105 hb117
   have l131 := Nat.le_trans hb105.size (Nat.le_refl _)
   have b132 := b130.trans (hb123.mono l131)
   have own133 := hO34.to b132
   refine lv (.int .u8 (d.bl.getD 0 0)) (by exact xc Try.underlying5 ((own_byS own133).atE (k := 0) rfl (by omega))) ?_
   simp only [lay]
   by_cases q134 : d.bl.getD 0 0 = 8
   case pos =>
    refine lv (.bool true) (by exact yq) ?_
    simp only [lay]
    refine wn ?_
    refine cT9 ?_
    refine wp_region_lit ?_
    refine lv (.slice (some ⟨g109, 0, none⟩) d.bl.length c36) (by exact xm) ?_
    simp only [lay]
    refine lv (.pointer (some ⟨g109, 0 + 0, none⟩)) (by exact ex_index (k := 0) (by exact rfl) Try.underlying25 (by kernel_rfl) (by exact rfl) (by exact rfl) (show 0 < d.bl.length by omega)) ?_
    simp only [lay]
    refine lz (ow_stB 5 (.tmp 80) (.const (.int .u8 128)) g109 _ W9.heap.size d.bl.length c36 128 _ rfl (by exact rfl) (by exact rfl) (by kernel_rfl) own133 (by omega) (own_len own133) (by omega) ?_)
    intro W135 hO136 bs137 hb138
    have z139 := hb138.size
    have own140 := hO122.but6 bs137 (by omega)
    simp only [lay]
    refine wn ?_
    refine wp_seq ?_
    refine rg_drawn W135.heap.size (by kernel_rfl) (Nat.le_refl _) ?_
    intro W141 hb142 hs143 hS144
    have z145 := hb142.size
    refine wpAnyH_join (fun a W => ∃ (A181 : Option Addr) (c182 : Nat) (g155 : Nat) (A169 : Option Addr) (c170 : Nat), a = ⟨#[.agg (d.cells p), .agg (ends6 s t), .int .i64 n, .pointer (some ⟨g1, 0, none⟩), .pointer (some ⟨g8, 0, none⟩), undef, .slice none 0 0, .slice (some ⟨g109, 0, none⟩) d.bl.length c36, .slice A126 (([d.bl.getD 0 0, d.bl.getD 1 0] ++ List.replicate 38 0).length) c127, .slice A181 (([(d.bl.set (0 + 0) 128).getD 0 0, (d.bl.set (0 + 0) 128).getD 1 0] ++ (s ++ t)).length) c182, undef, undef, .slice (some ⟨g15, 0, none⟩) 0 0, .pointer (some ⟨g1, 16, none⟩), .slice p.bA d.bl.length p.bc, .slice (some ⟨g109, 0, none⟩) d.bl.length c36, .bool false, .pointer (some ⟨g1, 4, none⟩), .int .i64 d.off, .bool false, .bool false, .pointer (some ⟨g1, 6, none⟩), .int .u8 d.proto, .bool false, .bool false, undef, undef, undef, .bool false, undef, undef, undef, undef, .bool false, .pointer (some ⟨g1, 6, none⟩), .int .u8 d.proto, .bool false, .bool false, undef, undef, undef, .bool false, .bool false, undef, undef, undef, undef, undef, undef, undef, undef, undef, undef, .bool false, undef, undef, undef, undef, .bool true, .pointer (some ⟨g1, 6, none⟩), .int .u8 d.proto, .bool true, .bool true, .slice (some ⟨g109, 0, none⟩) d.bl.length c36, .int .i64 (d.bl.length : Int), .bool true, .bool true, .slice (some ⟨g109, 0, none⟩) d.bl.length c36, .pointer (some ⟨g109, 0 + 0, none⟩), .int .u8 (d.bl.getD 0 0), .slice (some ⟨g109, 0, none⟩) d.bl.length c36, .pointer (some ⟨g109, 0 + 1, none⟩), .int .u8 (d.bl.getD 1 0), .slice (some ⟨g112, 0, none⟩) 2 2, .slice A126 (([d.bl.getD 0 0, d.bl.getD 1 0] ++ List.replicate 38 0).length) c127, .slice (some ⟨g109, 0, none⟩) d.bl.length c36, .pointer (some ⟨g109, 0 + 0, none⟩), .int .u8 (d.bl.getD 0 0), .bool true, .slice (some ⟨g109, 0, none⟩) d.bl.length c36, .pointer (some ⟨g109, 0 + 0, none⟩), undef, undef, .slice (some ⟨g109, 0, none⟩) d.bl.length c36, .pointer (some ⟨g109, 0 + 0, none⟩), .int .u8 ((d.bl.set (0 + 0) 128).getD 0 0), .slice (some ⟨g109, 0, none⟩) d.bl.length c36, .pointer (some ⟨g109, 0 + 1, none⟩), .int .u8 ((d.bl.set (0 + 0) 128).getD 1 0), .slice (some ⟨g155, 0, none⟩) 2 2, .agg (ends6 s t), .slice A169 ((s ++ t).length) c170, .slice A181 (([(d.bl.set (0 + 0) 128).getD 0 0, (d.bl.set (0 + 0) 128).getD 1 0] ++ (s ++ t)).length) c182, undef, undef, undef, undef, undef, undef, undef, undef, undef, undef, undef, undef, undef, undef, undef, undef, undef, undef, undef, undef, undef, undef, undef, undef, undef, undef, undef, undef, undef, undef, undef, undef, undef, undef, undef], []⟩ ∧ Below W135.heap.size W135 W ∧ OwnB W W135.heap.size (.slice A181 (([(d.bl.set (0 + 0) 128).getD 0 0, (d.bl.set (0 + 0) 128).getD 1 0] ++ (s ++ t)).length) c182) ([(d.bl.set (0 + 0) 128).getD 0 0, (d.bl.set (0 + 0) 128).getD 1 0] ++ (s ++ t))) (fun hk186 => ?_) ?_
    case refine_1 =>
     refine te 0 (.slice (some ⟨g109, 0, none⟩) d.bl.length c36) hS144 rfl (by intro _ _; exact xm) ?_
     simp only [lay]
     refine te 1 (.pointer (some ⟨g109, 0 + 0, none⟩)) hS144 rfl (by intro _ _; exact ex_index (k := 0) (by exact rfl) Try.underlying25 (by kernel_rfl) (by exact rfl) (by exact rfl) (show 0 < d.bl.length by omega)) ?_
     simp only [lay]
     refine te 2 (.int .u8 ((d.bl.set (0 + 0) 128).getD 0 0)) hS144 rfl (by intro _ h; exact xc Try.underlying5 ((own_byS (hO136.to h)).atE (k := 0) rfl (by omega))) ?_
     simp only [lay]
     refine te 3 (.slice (some ⟨g109, 0, none⟩) d.bl.length c36) hS144 rfl (by intro _ _; exact xm) ?_
     simp only [lay]
     refine te 4 (.pointer (some ⟨g109, 0 + 1, none⟩)) hS144 rfl (by intro _ _; exact ex_index (k := 1) (by exact rfl) Try.underlying25 (by kernel_rfl) (by exact rfl) (by exact rfl) (show 1 < d.bl.length by omega)) ?_
     simp only [lay]
     refine te 5 (.int .u8 ((d.bl.set (0 + 0) 128).getD 1 0)) hS144 rfl (by intro _ h; exact xc Try.underlying5 ((own_byS (hO136.to h)).atE (k := 1) rfl (by omega))) ?_
     simp only [lay]
     have b187 := hb20.trans (hb27.mono (Nat.le_refl _))
     have b188 := bt b187 hb105
     have b189 := bt b188 hb117
     have l190 := Nat.le_trans b188.size (Nat.le_refl _)
     have b191 := b189.trans (hb123.mono l190)
     have b192 := b191.trans (hb138.mono h110)
     have has193 := hg10.to b192
     refine te 7 (.agg (ends6 s t)) hS144 rfl (by intro _ h; exact xo ((has193.to h).load (P := Try.prog) 31 Try.underlying31 rfl (by kernel_rfl))) ?_
     simp only [lay]
     refine tk_two (i := 6) (j := 8) (by kernel_rfl) ?L194 ?L195
     case L194 =>
      refine rs (i := 6) rfl (by kernel_rfl) (ow_build (u8s [(d.bl.set (0 + 0) 128).getD 0 0, (d.bl.set (0 + 0) 128).getD 1 0]) rfl Try.underlying25 (by kernel_rfl) (by kernel_rfl) rfl (by decide) (by decide) (by first | rfl | (simp only [List.map_toArray, List.map_cons, List.map_nil] <;> rfl)) (u8s_cells _) ?_)
      intro g196 W197 hg198 ge199 sz200 hb201
      have z202 := hb201.size
      have hO203 := OwnB.blk hg198 (Nat.le_of_eq ge199.symm) rfl (by intro x hx; simp only [List.mem_cons, List.not_mem_nil, or_false] at hx; have := (getD_byte hO136.rng 0); have := (getD_byte hO136.rng 1); omega) (by simp)
      refine ⟨(Below.trans hS144 (hb201.mono hS144.size)), ?_⟩
      have hS204 := (Below.trans hS144 (hb201.mono hS144.size))
      simp only [lay]
      refine t1 8 rfl (ow_call (fun v w' => OwnB w' W197.heap.size v (s ++ t) ∧ Below W197.heap.size W197 w') (by exact xk Try.func91) (rsix_any s t hE W197) ?_)
      rintro v207 W205 ⟨hO208, hb206⟩
      have z209 := hb206.size
      obtain ⟨A210, c211, rfl, y212⟩ := hO208.by_
      refine ⟨(Below.trans hS204 (hb206.mono hS204.size)), ?_⟩
      have hS213 := (Below.trans hS204 (hb206.mono hS204.size))
      simp only [lay]
      have own219 := hO203.to hb206
      have b220 := bt hb201 hb206
      refine t1 9 rfl (ow_app (.tmp 89) (.tmp 91) 25 rfl Try.underlying25 info8 _ _ [(d.bl.set (0 + 0) 128).getD 0 0, (d.bl.set (0 + 0) 128).getD 1 0] rfl own219 _ _ _ _ (s ++ t) rfl (own_byS hO208) (by first | decide | (simp only [List.length_nil, List.length_append, List.length_cons, sL, tL]; omega)) b220.size ?_)
      intro v218 W214 hO215 hb216 hgr217
      have z221 := hb216.size
      obtain ⟨A222, c223, rfl, y224⟩ := hO215.by_
      refine ⟨(Below.trans hS213 (hb216.mono hb142.size)), ?_⟩
      have hS225 := (Below.trans hS213 (hb216.mono hb142.size))
      simp only [lay]
      refine te 10 (.slice A222 (([(d.bl.set (0 + 0) 128).getD 0 0, (d.bl.set (0 + 0) 128).getD 1 0] ++ (s ++ t)).length) c223) hS225 rfl (by intro _ _; exact xa) ?_
      simp only [lay]
      refine wpAnyH_done (by kernel_rfl) ?_ _
      have b226 := bt hb142 hb201
      have b227 := bt b226 hb206
      have l228 := Nat.le_trans hb142.size (Nat.le_refl _)
      have b229 := b227.trans (hb216.mono l228)
      exact hk186 _ _ ⟨A222, c223, g196, A210, c211, rfl, b229, (hO215.more hb142.size)⟩
     case L195 =>
      refine rs (i := 8) rfl (by kernel_rfl) (ow_call (fun v w' => OwnB w' W141.heap.size v (s ++ t) ∧ Below W141.heap.size W141 w') (by exact xk Try.func91) (rsix_any s t hE W141) ?_)
      rintro v232 W230 ⟨hO233, hb231⟩
      have z234 := hb231.size
      obtain ⟨A235, c236, rfl, y237⟩ := hO233.by_
      refine ⟨(Below.trans hS144 (hb231.mono hS144.size)), ?_⟩
      have hS238 := (Below.trans hS144 (hb231.mono hS144.size))
      simp only [lay]
      refine t1 6 rfl (ow_build (u8s [(d.bl.set (0 + 0) 128).getD 0 0, (d.bl.set (0 + 0) 128).getD 1 0]) rfl Try.underlying25 (by kernel_rfl) (by kernel_rfl) rfl (by decide) (by decide) (by first | rfl | (simp only [List.map_toArray, List.map_cons, List.map_nil] <;> rfl)) (u8s_cells _) ?_)
      intro g239 W240 hg241 ge242 sz243 hb244
      have z245 := hb244.size
      have hO246 := OwnB.blk hg241 (Nat.le_of_eq ge242.symm) rfl (by intro x hx; simp only [List.mem_cons, List.not_mem_nil, or_false] at hx; have := (getD_byte hO136.rng 0); have := (getD_byte hO136.rng 1); omega) (by simp)
      refine ⟨(Below.trans hS238 (hb244.mono hS238.size)), ?_⟩
      have hS247 := (Below.trans hS238 (hb244.mono hS238.size))
      simp only [lay]
      have own253 := hO233.to hb244
      refine t1 9 rfl (ow_app (.tmp 89) (.tmp 91) 25 rfl Try.underlying25 info8 _ _ [(d.bl.set (0 + 0) 128).getD 0 0, (d.bl.set (0 + 0) 128).getD 1 0] rfl hO246 _ _ _ _ (s ++ t) rfl (own_byS own253) (by first | decide | (simp only [List.length_nil, List.length_append, List.length_cons, sL, tL]; omega)) hb244.size ?_)
      intro v252 W248 hO249 hb250 hgr251
      have b254 := bt hb142 hb231
      have z255 := hb250.size
      obtain ⟨A256, c257, rfl, y258⟩ := hO249.by_
      refine ⟨(Below.trans hS247 (hb250.mono b254.size)), ?_⟩
      have hS259 := (Below.trans hS247 (hb250.mono b254.size))
      simp only [lay]
      refine te 10 (.slice A256 (([(d.bl.set (0 + 0) 128).getD 0 0, (d.bl.set (0 + 0) 128).getD 1 0] ++ (s ++ t)).length) c257) hS259 rfl (by intro _ _; exact xa) ?_
      simp only [lay]
      refine wpAnyH_done (by kernel_rfl) ?_ _
      have b260 := bt b254 hb244
      have l261 := Nat.le_trans b254.size (Nat.le_refl _)
      have b262 := b260.trans (hb250.mono l261)
      exact hk186 _ _ ⟨A256, c257, g239, A235, c236, rfl, b262, (hO249.more b254.size)⟩
    rintro _ W185 ⟨A181, c182, g155, A169, c170, rfl, hb263, hO264⟩
    have z265 := hb263.size
    change Code.wp _ _ _ _ _
    refine wp_sr ?_
    refine lv (.slice A181 (([(d.bl.set (0 + 0) 128).getD 0 0, (d.bl.set (0 + 0) 128).getD 1 0] ++ (s ++ t)).length) c182) (by exact xm) ?_
    simp only [lay]
    refine lv (.int .i64 n) (by exact xm) ?_
    simp only [lay]
    refine lv (.int .i64 (n / 256)) (by exact xb (b_quo _ (n / 256) rfl (by omega) (by decide) _)) ?_
    simp only [lay]
    refine lv (.int .u8 (n / 256)) (by exact xv (conv_u8' 3 5 .i64 (n / 256) (by kernel_rfl) Try.underlying5 (by omega) _)) ?_
    simp only [lay]
    refine lv (.int .i64 n) (by exact xm) ?_
    simp only [lay]
    refine lv (.int .i64 (n % 256)) (by exact xb (b_rem _ (n % 256) rfl (by omega) (by decide) _)) ?_
    simp only [lay]
    refine lv (.int .u8 (n % 256)) (by exact xv (conv_u8' 3 5 .i64 (n % 256) (by kernel_rfl) Try.underlying5 (by omega) _)) ?_
    simp only [lay]
    refine lz (ow_build (u8s [0, 0, n / 256, n % 256, 0, 58]) rfl Try.underlying25 (by kernel_rfl) (by kernel_rfl) rfl (by decide) (by decide) (by first | rfl | (simp only [List.map_toArray, List.map_cons, List.map_nil] <;> rfl)) (u8s_cells _) ?_)
    intro g266 W267 hg268 ge269 sz270 hb271
    have z272 := hb271.size
    have hO273 := OwnB.blk hg268 (Nat.le_of_eq ge269.symm) rfl (by intro x hx; simp only [List.mem_cons, List.not_mem_nil, or_false] at hx; omega) (by simp)
    simp only [lay]
    have own279 := hO264.to hb271
    have b280 := bt hb263 hb271
    refine lz (ow_app (.tmp 93) (.tmp 100) 25 rfl Try.underlying25 info8 _ _ ([(d.bl.set (0 + 0) 128).getD 0 0, (d.bl.set (0 + 0) 128).getD 1 0] ++ (s ++ t)) rfl own279 _ _ _ _ [0, 0, n / 256, n % 256, 0, 58] rfl (own_byS hO273) (by first | decide | (simp only [List.length_nil, List.length_append, List.length_cons, sL, tL]; omega)) b280.size ?_)
    intro v278 W274 hO275 hb276 hgr277
    have z281 := hb276.size
    obtain ⟨A282, c283, rfl, y284⟩ := hO275.by_
    simp only [lay]
    refine lv (.slice A282 (([(d.bl.set (0 + 0) 128).getD 0 0, (d.bl.set (0 + 0) 128).getD 1 0] ++ (s ++ t) ++ [0, 0, n / 256, n % 256, 0, 58]).length) c283) (by exact xa) ?_
    simp only [lay]
    refine wn ?_
    refine wp_seq ?_
    refine rg_drawn W274.heap.size (by kernel_rfl) (Nat.le_refl _) ?_
    intro W285 hb286 hs287 hS288
    have z289 := hb286.size
    refine te 0 (.slice (some ⟨g109, 0, none⟩) d.bl.length c36) hS288 rfl (by intro _ _; exact xm) ?_
    simp only [lay]
    refine te 1 (.pointer (some ⟨g109, 0 + 2, none⟩)) hS288 rfl (by intro _ _; exact ex_index (k := 2) (by exact rfl) Try.underlying25 (by kernel_rfl) (by exact rfl) (by exact rfl) (show 2 < d.bl.length by omega)) ?_
    simp only [lay]
    have b290 := b280.trans (hb276.mono (Nat.le_refl _))
    have own291 := hO136.to b290
    refine te 2 (.int .u8 ((d.bl.set (0 + 0) 128).getD 2 0)) hS288 rfl (by intro _ h; exact xc Try.underlying5 ((own_byS (own291.to h)).atE (k := 2) rfl (by omega))) ?_
    simp only [lay]
    refine te 3 (.int .u16 ((d.bl.set (0 + 0) 128).getD 2 0)) hS288 rfl (by intro _ _; exact xv (conv_u16 5 22 .u8 ((d.bl.set (0 + 0) 128).getD 2 0) (by kernel_rfl) Try.underlying22 (in_rng (getD_byte hO136.rng 2)).1 (in_rng (getD_byte hO136.rng 2)).2.1 _)) ?_
    simp only [lay]
    refine te 4 (.int .u16 (((d.bl.set (0 + 0) 128).getD 2 0) * 256)) hS288 rfl (by intro _ _; exact xb (w_mul16 _ _ (getD_byte hO136.rng 2) _)) ?_
    simp only [lay]
    refine te 5 (.slice (some ⟨g109, 0, none⟩) d.bl.length c36) hS288 rfl (by intro _ _; exact xm) ?_
    simp only [lay]
    refine te 6 (.pointer (some ⟨g109, 0 + 3, none⟩)) hS288 rfl (by intro _ _; exact ex_index (k := 3) (by exact rfl) Try.underlying25 (by kernel_rfl) (by exact rfl) (by exact rfl) (show 3 < d.bl.length by omega)) ?_
    simp only [lay]
    refine te 7 (.int .u8 ((d.bl.set (0 + 0) 128).getD 3 0)) hS288 rfl (by intro _ h; exact xc Try.underlying5 ((own_byS (own291.to h)).atE (k := 3) rfl (by omega))) ?_
    simp only [lay]
    refine te 8 (.int .u16 ((d.bl.set (0 + 0) 128).getD 3 0)) hS288 rfl (by intro _ _; exact xv (conv_u16 5 22 .u8 ((d.bl.set (0 + 0) 128).getD 3 0) (by kernel_rfl) Try.underlying22 (in_rng (getD_byte hO136.rng 3)).1 (in_rng (getD_byte hO136.rng 3)).2.1 _)) ?_
    simp only [lay]
    refine te 9 (.int .u16 (((d.bl.set (0 + 0) 128).getD 2 0) * 256 + (d.bl.set (0 + 0) 128).getD 3 0)) hS288 rfl (by intro _ _; exact xb (w_add16 _ _ _ (getD_byte hO136.rng 2) (getD_byte hO136.rng 3) _)) ?_
    simp only [lay]
    refine te 10 (.slice A126 (([d.bl.getD 0 0, d.bl.getD 1 0] ++ List.replicate 38 0).length) c127) hS288 rfl (by intro _ _; exact xm) ?_
    simp only [lay]
    refine te 11 (.slice A282 (([(d.bl.set (0 + 0) 128).getD 0 0, (d.bl.set (0 + 0) 128).getD 1 0] ++ (s ++ t) ++ [0, 0, n / 256, n % 256, 0, 58]).length) c283) hS288 rfl (by intro _ _; exact xm) ?_
    simp only [lay]
    have b292 := bt b290 hb286
    have own293 := own140.to b292
    have own294 := hO275.to hb286
    refine t1 12 rfl (ow_call (fun v w' => (∃ q, v = .tuple #[.int .u16 q, .int .i64 0] ∧ q = (updateS (((d.bl.set (0 + 0) 128).getD 2 0) * 256 + (d.bl.set (0 + 0) 128).getD 3 0) ([d.bl.getD 0 0, d.bl.getD 1 0] ++ List.replicate 38 0) ([(d.bl.set (0 + 0) 128).getD 0 0, (d.bl.set (0 + 0) 128).getD 1 0] ++ (s ++ t) ++ [0, 0, n / 256, n % 256, 0, 58])).1 ∧ 0 ≤ q ∧ q < 65536) ∧ Below W285.heap.size W285 w') (by exact xk Try.func92) (rupdate_one (two_rng (getD_byte hO136.rng 2) (getD_byte hO136.rng 3)) (own_byS own293) (own_byS own294) (by constructor <;> simp only [List.length_append, List.length_set, List.length_replicate, List.length_cons, List.length_nil, sL, tL] <;> omega) (by first | omega | simp [sL, tL])) ?_)
    rintro _ W295 ⟨⟨q297, rfl, hq298, q0299, q1300⟩, hb296⟩
    have z301 := hb296.size
    refine ⟨(Below.trans hS288 (hb296.mono hS288.size)), ?_⟩
    have hS302 := (Below.trans hS288 (hb296.mono hS288.size))
    simp only [lay]
    refine te 13 (.tuple #[.int .u16 q297, .int .i64 0]) hS302 rfl (by intro _ _; exact xm) ?_
    simp only [lay]
    refine te 14 (.int .u16 q297) hS302 rfl (by intro _ _; exact xe) ?_
    simp only [lay]
    refine te 15 (.int .i64 0) hS302 rfl (by intro _ _; exact xe) ?_
    simp only [lay]
    refine te 16 (.int .u16 q297) hS302 rfl (by intro _ _; exact xa) ?_
    simp only [lay]
    refine te 17 (.int .i64 0) hS302 rfl (by intro _ _; exact xa) ?_
    simp only [lay]
    refine wpAnyH_done (by kernel_rfl) ?_ _
    change Code.wp _ _ _ _ _
    refine wp_region_lit ?_
    refine lv (.slice (some ⟨g109, 0, none⟩) d.bl.length c36) (by exact xm) ?_
    simp only [lay]
    refine lv (.slice (some ⟨g109, 0, none⟩) d.bl.length c36) (by exact xm) ?_
    simp only [lay]
    refine lv (.int .u16 q297) (by exact xm) ?_
    simp only [lay]
    refine lv (.int .u16 (q297 / 256)) (by exact xb (w_shr16 _ _ _)) ?_
    simp only [lay]
    refine lv (.int .u8 (q297 / 256)) (by exact xv (conv_u8' 22 5 .u16 (q297 / 256) (by kernel_rfl) Try.underlying5 (by omega) _)) ?_
    simp only [lay]
    refine lv (.int .u16 q297) (by exact xm) ?_
    simp only [lay]
    refine lv (.int .u8 (q297 % 256)) (by exact xv (conv_u8 22 5 .u16 q297 (by kernel_rfl) Try.underlying5 _)) ?_
    simp only [lay]
    refine lv (.pointer (some ⟨g109, 0 + 2, none⟩)) (by exact ex_index (k := 2) (by exact rfl) Try.underlying25 (by kernel_rfl) (by exact rfl) (by exact rfl) (show 2 < d.bl.length by omega)) ?_
    simp only [lay]
    have b307 := bt b292 hb296
    have own308 := hO136.to b307
    refine lz (ow_stB 5 (.tmp 125) (.tmp 122) g109 _ W9.heap.size d.bl.length c36 (q297 / 256) _ rfl (by exact rfl) (by exact rfl) (by kernel_rfl) own308 (by omega) (own_len own308) (by omega) ?_)
    intro W303 hO304 bs305 hb306
    have own309 := own140.to b307
    have b310 := bt hb286 hb296
    have own311 := hO275.to b310
    have z312 := hb306.size
    have own313 := own309.but6 bs305 (by omega)
    have own314 := own311.but6 bs305 (by omega)
    simp only [lay]
    refine lv (.pointer (some ⟨g109, 0 + 3, none⟩)) (by exact ex_index (k := 3) (by exact rfl) Try.underlying25 (by kernel_rfl) (by exact rfl) (by exact rfl) (show 3 < d.bl.length by omega)) ?_
    simp only [lay]
    refine lz (ow_stB 5 (.tmp 126) (.tmp 124) g109 _ W9.heap.size d.bl.length c36 (q297 % 256) _ rfl (by exact rfl) (by exact rfl) (by kernel_rfl) hO304 (by omega) (own_len hO304) (by omega) ?_)
    intro W315 hO316 bs317 hb318
    have z319 := hb318.size
    have own320 := own313.but6 bs317 (by omega)
    have own321 := own314.but6 bs317 (by omega)
    simp only [lay]
    refine wn ?_
    refine wp_sr ?_
    refine lv (.slice (some ⟨g109, 0, none⟩) d.bl.length c36) (by exact xm) ?_
    simp only [lay]
    refine lv (.slice (some ⟨g109, 0, none⟩) d.bl.length c36) (by exact xa) ?_
    simp only [lay]
    refine wn ?_
    refine wp_ret ?_
    try simp only [Exit.then]
    rw [show [d.bl.getD 0 0, d.bl.getD 1 0] = d.bl.take 2 from (take2_eq (by omega)).symm] at hq298
    rw [getD_set_ne (j := 2) (by decide), getD_set_ne (j := 3) (by decide), getD_set_ne (j := 1) (by decide), getD_set_eq (by omega)] at hq298
    have e : told17 d s t n = ((d.bl.set (0 + 0) 128).set (0 + 2) (q297 / 256)).set (0 + 3) (q297 % 256) := by
     unfold told17
     repeat (first | rw [if_pos (by first | assumption | omega | exact ne_true_of_eq_false (by assumption))] | rw [if_neg (by first | assumption | omega | exact ne_true_of_eq_false (by assumption))])
     try simp only [if_pos (show d.bl.getD 0 0 = 8 from by assumption)]
     rw [hq298]
     unfold put17 two17
     simp only [List.append_assoc, List.cons_append, List.nil_append, Nat.zero_add, Nat.reduceAdd]
    have l322 := Nat.le_trans b30.size (Nat.le_refl _)
    have b323 := b31.trans (hb27.mono l322)
    have b324 := bt b323 hb105
    have b325 := bt b324 hb117
    have l326 := Nat.le_trans b324.size (Nat.le_refl _)
    have b327 := b325.trans (hb123.mono l326)
    have l328 := Nat.le_trans b30.size h110
    have b329 := b327.trans (hb138.mono l328)
    have b330 := bt b329 hb263
    have b331 := bt b330 hb271
    have l332 := Nat.le_trans b329.size (Nat.le_refl _)
    have b333 := b331.trans (hb276.mono l332)
    have b334 := bt b333 hb286
    have b335 := bt b334 hb296
    have b336 := b335.trans (hb306.mono l328)
    have b337 := b336.trans (hb318.mono l328)
    exact bodyPost_ret (res_one Try.results58 rfl) rfl ⟨_, rfl, by rw [e]; exact (hO316.more b30.size), b337⟩
   refine lv (.bool false) (by exact yqn) ?_
   simp only [lay]
   refine wn ?_
   refine cF9 ?_
   refine wp_region_lit ?_
   refine lv (.slice (some ⟨g109, 0, none⟩) d.bl.length c36) (by exact xm) ?_
   simp only [lay]
   refine lv (.pointer (some ⟨g109, 0 + 0, none⟩)) (by exact ex_index (k := 0) (by exact rfl) Try.underlying25 (by kernel_rfl) (by exact rfl) (by exact rfl) (show 0 < d.bl.length by omega)) ?_
   simp only [lay]
   refine lz (ow_stB 5 (.tmp 82) (.const (.int .u8 129)) g109 _ W9.heap.size d.bl.length c36 129 _ rfl (by exact rfl) (by exact rfl) (by kernel_rfl) own133 (by omega) (own_len own133) (by omega) ?_)
   intro W338 hO339 bs340 hb341
   have z342 := hb341.size
   have own343 := hO122.but6 bs340 (by omega)
   simp only [lay]
   refine wn ?_
   refine wp_seq ?_
   refine rg_drawn W338.heap.size (by kernel_rfl) (Nat.le_refl _) ?_
   intro W344 hb345 hs346 hS347
   have z348 := hb345.size
   refine wpAnyH_join (fun a W => ∃ (A384 : Option Addr) (c385 : Nat) (g358 : Nat) (A372 : Option Addr) (c373 : Nat), a = ⟨#[.agg (d.cells p), .agg (ends6 s t), .int .i64 n, .pointer (some ⟨g1, 0, none⟩), .pointer (some ⟨g8, 0, none⟩), undef, .slice none 0 0, .slice (some ⟨g109, 0, none⟩) d.bl.length c36, .slice A126 (([d.bl.getD 0 0, d.bl.getD 1 0] ++ List.replicate 38 0).length) c127, .slice A384 (([(d.bl.set (0 + 0) 129).getD 0 0, (d.bl.set (0 + 0) 129).getD 1 0] ++ (s ++ t)).length) c385, undef, undef, .slice (some ⟨g15, 0, none⟩) 0 0, .pointer (some ⟨g1, 16, none⟩), .slice p.bA d.bl.length p.bc, .slice (some ⟨g109, 0, none⟩) d.bl.length c36, .bool false, .pointer (some ⟨g1, 4, none⟩), .int .i64 d.off, .bool false, .bool false, .pointer (some ⟨g1, 6, none⟩), .int .u8 d.proto, .bool false, .bool false, undef, undef, undef, .bool false, undef, undef, undef, undef, .bool false, .pointer (some ⟨g1, 6, none⟩), .int .u8 d.proto, .bool false, .bool false, undef, undef, undef, .bool false, .bool false, undef, undef, undef, undef, undef, undef, undef, undef, undef, undef, .bool false, undef, undef, undef, undef, .bool true, .pointer (some ⟨g1, 6, none⟩), .int .u8 d.proto, .bool true, .bool true, .slice (some ⟨g109, 0, none⟩) d.bl.length c36, .int .i64 (d.bl.length : Int), .bool true, .bool true, .slice (some ⟨g109, 0, none⟩) d.bl.length c36, .pointer (some ⟨g109, 0 + 0, none⟩), .int .u8 (d.bl.getD 0 0), .slice (some ⟨g109, 0, none⟩) d.bl.length c36, .pointer (some ⟨g109, 0 + 1, none⟩), .int .u8 (d.bl.getD 1 0), .slice (some ⟨g112, 0, none⟩) 2 2, .slice A126 (([d.bl.getD 0 0, d.bl.getD 1 0] ++ List.replicate 38 0).length) c127, .slice (some ⟨g109, 0, none⟩) d.bl.length c36, .pointer (some ⟨g109, 0 + 0, none⟩), .int .u8 (d.bl.getD 0 0), .bool false, undef, undef, .slice (some ⟨g109, 0, none⟩) d.bl.length c36, .pointer (some ⟨g109, 0 + 0, none⟩), .slice (some ⟨g109, 0, none⟩) d.bl.length c36, .pointer (some ⟨g109, 0 + 0, none⟩), .int .u8 ((d.bl.set (0 + 0) 129).getD 0 0), .slice (some ⟨g109, 0, none⟩) d.bl.length c36, .pointer (some ⟨g109, 0 + 1, none⟩), .int .u8 ((d.bl.set (0 + 0) 129).getD 1 0), .slice (some ⟨g358, 0, none⟩) 2 2, .agg (ends6 s t), .slice A372 ((s ++ t).length) c373, .slice A384 (([(d.bl.set (0 + 0) 129).getD 0 0, (d.bl.set (0 + 0) 129).getD 1 0] ++ (s ++ t)).length) c385, undef, undef, undef, undef, undef, undef, undef, undef, undef, undef, undef, undef, undef, undef, undef, undef, undef, undef, undef, undef, undef, undef, undef, undef, undef, undef, undef, undef, undef, undef, undef, undef, undef, undef, undef], []⟩ ∧ Below W338.heap.size W338 W ∧ OwnB W W338.heap.size (.slice A384 (([(d.bl.set (0 + 0) 129).getD 0 0, (d.bl.set (0 + 0) 129).getD 1 0] ++ (s ++ t)).length) c385) ([(d.bl.set (0 + 0) 129).getD 0 0, (d.bl.set (0 + 0) 129).getD 1 0] ++ (s ++ t))) (fun hk389 => ?_) ?_
   case refine_1 =>
    refine te 0 (.slice (some ⟨g109, 0, none⟩) d.bl.length c36) hS347 rfl (by intro _ _; exact xm) ?_
    simp only [lay]
    refine te 1 (.pointer (some ⟨g109, 0 + 0, none⟩)) hS347 rfl (by intro _ _; exact ex_index (k := 0) (by exact rfl) Try.underlying25 (by kernel_rfl) (by exact rfl) (by exact rfl) (show 0 < d.bl.length by omega)) ?_
    simp only [lay]
    refine te 2 (.int .u8 ((d.bl.set (0 + 0) 129).getD 0 0)) hS347 rfl (by intro _ h; exact xc Try.underlying5 ((own_byS (hO339.to h)).atE (k := 0) rfl (by omega))) ?_
    simp only [lay]
    refine te 3 (.slice (some ⟨g109, 0, none⟩) d.bl.length c36) hS347 rfl (by intro _ _; exact xm) ?_
    simp only [lay]
    refine te 4 (.pointer (some ⟨g109, 0 + 1, none⟩)) hS347 rfl (by intro _ _; exact ex_index (k := 1) (by exact rfl) Try.underlying25 (by kernel_rfl) (by exact rfl) (by exact rfl) (show 1 < d.bl.length by omega)) ?_
    simp only [lay]
    refine te 5 (.int .u8 ((d.bl.set (0 + 0) 129).getD 1 0)) hS347 rfl (by intro _ h; exact xc Try.underlying5 ((own_byS (hO339.to h)).atE (k := 1) rfl (by omega))) ?_
    simp only [lay]
    have b390 := hb20.trans (hb27.mono (Nat.le_refl _))
    have b391 := bt b390 hb105
    have b392 := bt b391 hb117
    have l393 := Nat.le_trans b391.size (Nat.le_refl _)
    have b394 := b392.trans (hb123.mono l393)
    have b395 := b394.trans (hb341.mono h110)
    have has396 := hg10.to b395
    refine te 7 (.agg (ends6 s t)) hS347 rfl (by intro _ h; exact xo ((has396.to h).load (P := Try.prog) 31 Try.underlying31 rfl (by kernel_rfl))) ?_
    simp only [lay]
    refine tk_two (i := 6) (j := 8) (by kernel_rfl) ?L397 ?L398
    case L397 =>
     refine rs (i := 6) rfl (by kernel_rfl) (ow_build (u8s [(d.bl.set (0 + 0) 129).getD 0 0, (d.bl.set (0 + 0) 129).getD 1 0]) rfl Try.underlying25 (by kernel_rfl) (by kernel_rfl) rfl (by decide) (by decide) (by first | rfl | (simp only [List.map_toArray, List.map_cons, List.map_nil] <;> rfl)) (u8s_cells _) ?_)
     intro g399 W400 hg401 ge402 sz403 hb404
     have z405 := hb404.size
     have hO406 := OwnB.blk hg401 (Nat.le_of_eq ge402.symm) rfl (by intro x hx; simp only [List.mem_cons, List.not_mem_nil, or_false] at hx; have := (getD_byte hO339.rng 0); have := (getD_byte hO339.rng 1); omega) (by simp)
     refine ⟨(Below.trans hS347 (hb404.mono hS347.size)), ?_⟩
     have hS407 := (Below.trans hS347 (hb404.mono hS347.size))
     simp only [lay]
     refine t1 8 rfl (ow_call (fun v w' => OwnB w' W400.heap.size v (s ++ t) ∧ Below W400.heap.size W400 w') (by exact xk Try.func91) (rsix_any s t hE W400) ?_)
     rintro v410 W408 ⟨hO411, hb409⟩
     have z412 := hb409.size
     obtain ⟨A413, c414, rfl, y415⟩ := hO411.by_
     refine ⟨(Below.trans hS407 (hb409.mono hS407.size)), ?_⟩
     have hS416 := (Below.trans hS407 (hb409.mono hS407.size))
     simp only [lay]
     have own422 := hO406.to hb409
     have b423 := bt hb404 hb409
     refine t1 9 rfl (ow_app (.tmp 89) (.tmp 91) 25 rfl Try.underlying25 info8 _ _ [(d.bl.set (0 + 0) 129).getD 0 0, (d.bl.set (0 + 0) 129).getD 1 0] rfl own422 _ _ _ _ (s ++ t) rfl (own_byS hO411) (by first | decide | (simp only [List.length_nil, List.length_append, List.length_cons, sL, tL]; omega)) b423.size ?_)
     intro v421 W417 hO418 hb419 hgr420
     have z424 := hb419.size
     obtain ⟨A425, c426, rfl, y427⟩ := hO418.by_
     refine ⟨(Below.trans hS416 (hb419.mono hb345.size)), ?_⟩
     have hS428 := (Below.trans hS416 (hb419.mono hb345.size))
     simp only [lay]
     refine te 10 (.slice A425 (([(d.bl.set (0 + 0) 129).getD 0 0, (d.bl.set (0 + 0) 129).getD 1 0] ++ (s ++ t)).length) c426) hS428 rfl (by intro _ _; exact xa) ?_
     simp only [lay]
     refine wpAnyH_done (by kernel_rfl) ?_ _
     have b429 := bt hb345 hb404
     have b430 := bt b429 hb409
     have l431 := Nat.le_trans hb345.size (Nat.le_refl _)
     have b432 := b430.trans (hb419.mono l431)
     exact hk389 _ _ ⟨A425, c426, g399, A413, c414, rfl, b432, (hO418.more hb345.size)⟩
    case L398 =>
     refine rs (i := 8) rfl (by kernel_rfl) (ow_call (fun v w' => OwnB w' W344.heap.size v (s ++ t) ∧ Below W344.heap.size W344 w') (by exact xk Try.func91) (rsix_any s t hE W344) ?_)
     rintro v435 W433 ⟨hO436, hb434⟩
     have z437 := hb434.size
     obtain ⟨A438, c439, rfl, y440⟩ := hO436.by_
     refine ⟨(Below.trans hS347 (hb434.mono hS347.size)), ?_⟩
     have hS441 := (Below.trans hS347 (hb434.mono hS347.size))
     simp only [lay]
     refine t1 6 rfl (ow_build (u8s [(d.bl.set (0 + 0) 129).getD 0 0, (d.bl.set (0 + 0) 129).getD 1 0]) rfl Try.underlying25 (by kernel_rfl) (by kernel_rfl) rfl (by decide) (by decide) (by first | rfl | (simp only [List.map_toArray, List.map_cons, List.map_nil] <;> rfl)) (u8s_cells _) ?_)
     intro g442 W443 hg444 ge445 sz446 hb447
     have z448 := hb447.size
     have hO449 := OwnB.blk hg444 (Nat.le_of_eq ge445.symm) rfl (by intro x hx; simp only [List.mem_cons, List.not_mem_nil, or_false] at hx; have := (getD_byte hO339.rng 0); have := (getD_byte hO339.rng 1); omega) (by simp)
     refine ⟨(Below.trans hS441 (hb447.mono hS441.size)), ?_⟩
     have hS450 := (Below.trans hS441 (hb447.mono hS441.size))
     simp only [lay]
     have own456 := hO436.to hb447
     refine t1 9 rfl (ow_app (.tmp 89) (.tmp 91) 25 rfl Try.underlying25 info8 _ _ [(d.bl.set (0 + 0) 129).getD 0 0, (d.bl.set (0 + 0) 129).getD 1 0] rfl hO449 _ _ _ _ (s ++ t) rfl (own_byS own456) (by first | decide | (simp only [List.length_nil, List.length_append, List.length_cons, sL, tL]; omega)) hb447.size ?_)
     intro v455 W451 hO452 hb453 hgr454
     have b457 := bt hb345 hb434
     have z458 := hb453.size
     obtain ⟨A459, c460, rfl, y461⟩ := hO452.by_
     refine ⟨(Below.trans hS450 (hb453.mono b457.size)), ?_⟩
     have hS462 := (Below.trans hS450 (hb453.mono b457.size))
     simp only [lay]
     refine te 10 (.slice A459 (([(d.bl.set (0 + 0) 129).getD 0 0, (d.bl.set (0 + 0) 129).getD 1 0] ++ (s ++ t)).length) c460) hS462 rfl (by intro _ _; exact xa) ?_
     simp only [lay]
     refine wpAnyH_done (by kernel_rfl) ?_ _
     have b463 := bt b457 hb447
     have l464 := Nat.le_trans b457.size (Nat.le_refl _)
     have b465 := b463.trans (hb453.mono l464)
     exact hk389 _ _ ⟨A459, c460, g442, A438, c439, rfl, b465, (hO452.more b457.size)⟩
   rintro _ W388 ⟨A384, c385, g358, A372, c373, rfl, hb466, hO467⟩
   have z468 := hb466.size
   change Code.wp _ _ _ _ _
   refine wp_sr ?_
   refine lv (.slice A384 (([(d.bl.set (0 + 0) 129).getD 0 0, (d.bl.set (0 + 0) 129).getD 1 0] ++ (s ++ t)).length) c385) (by exact xm) ?_
   simp only [lay]
   refine lv (.int .i64 n) (by exact xm) ?_
   simp only [lay]
   refine lv (.int .i64 (n / 256)) (by exact xb (b_quo _ (n / 256) rfl (by omega) (by decide) _)) ?_
   simp only [lay]
   refine lv (.int .u8 (n / 256)) (by exact xv (conv_u8' 3 5 .i64 (n / 256) (by kernel_rfl) Try.underlying5 (by omega) _)) ?_
   simp only [lay]
   refine lv (.int .i64 n) (by exact xm) ?_
   simp only [lay]
   refine lv (.int .i64 (n % 256)) (by exact xb (b_rem _ (n % 256) rfl (by omega) (by decide) _)) ?_
   simp only [lay]
   refine lv (.int .u8 (n % 256)) (by exact xv (conv_u8' 3 5 .i64 (n % 256) (by kernel_rfl) Try.underlying5 (by omega) _)) ?_
   simp only [lay]
   refine lz (ow_build (u8s [0, 0, n / 256, n % 256, 0, 58]) rfl Try.underlying25 (by kernel_rfl) (by kernel_rfl) rfl (by decide) (by decide) (by first | rfl | (simp only [List.map_toArray, List.map_cons, List.map_nil] <;> rfl)) (u8s_cells _) ?_)
   intro g469 W470 hg471 ge472 sz473 hb474
   have z475 := hb474.size
   have hO476 := OwnB.blk hg471 (Nat.le_of_eq ge472.symm) rfl (by intro x hx; simp only [List.mem_cons, List.not_mem_nil, or_false] at hx; omega) (by simp)
   simp only [lay]
   have own482 := hO467.to hb474
   have b483 := bt hb466 hb474
   refine lz (ow_app (.tmp 93) (.tmp 100) 25 rfl Try.underlying25 info8 _ _ ([(d.bl.set (0 + 0) 129).getD 0 0, (d.bl.set (0 + 0) 129).getD 1 0] ++ (s ++ t)) rfl own482 _ _ _ _ [0, 0, n / 256, n % 256, 0, 58] rfl (own_byS hO476) (by first | decide | (simp only [List.length_nil, List.length_append, List.length_cons, sL, tL]; omega)) b483.size ?_)
   intro v481 W477 hO478 hb479 hgr480
   have z484 := hb479.size
   obtain ⟨A485, c486, rfl, y487⟩ := hO478.by_
   simp only [lay]
   refine lv (.slice A485 (([(d.bl.set (0 + 0) 129).getD 0 0, (d.bl.set (0 + 0) 129).getD 1 0] ++ (s ++ t) ++ [0, 0, n / 256, n % 256, 0, 58]).length) c486) (by exact xa) ?_
   simp only [lay]
   refine wn ?_
   refine wp_seq ?_
   refine rg_drawn W477.heap.size (by kernel_rfl) (Nat.le_refl _) ?_
   intro W488 hb489 hs490 hS491
   have z492 := hb489.size
   refine te 0 (.slice (some ⟨g109, 0, none⟩) d.bl.length c36) hS491 rfl (by intro _ _; exact xm) ?_
   simp only [lay]
   refine te 1 (.pointer (some ⟨g109, 0 + 2, none⟩)) hS491 rfl (by intro _ _; exact ex_index (k := 2) (by exact rfl) Try.underlying25 (by kernel_rfl) (by exact rfl) (by exact rfl) (show 2 < d.bl.length by omega)) ?_
   simp only [lay]
   have b493 := b483.trans (hb479.mono (Nat.le_refl _))
   have own494 := hO339.to b493
   refine te 2 (.int .u8 ((d.bl.set (0 + 0) 129).getD 2 0)) hS491 rfl (by intro _ h; exact xc Try.underlying5 ((own_byS (own494.to h)).atE (k := 2) rfl (by omega))) ?_
   simp only [lay]
   refine te 3 (.int .u16 ((d.bl.set (0 + 0) 129).getD 2 0)) hS491 rfl (by intro _ _; exact xv (conv_u16 5 22 .u8 ((d.bl.set (0 + 0) 129).getD 2 0) (by kernel_rfl) Try.underlying22 (in_rng (getD_byte hO339.rng 2)).1 (in_rng (getD_byte hO339.rng 2)).2.1 _)) ?_
   simp only [lay]
   refine te 4 (.int .u16 (((d.bl.set (0 + 0) 129).getD 2 0) * 256)) hS491 rfl (by intro _ _; exact xb (w_mul16 _ _ (getD_byte hO339.rng 2) _)) ?_
   simp only [lay]
   refine te 5 (.slice (some ⟨g109, 0, none⟩) d.bl.length c36) hS491 rfl (by intro _ _; exact xm) ?_
   simp only [lay]
   refine te 6 (.pointer (some ⟨g109, 0 + 3, none⟩)) hS491 rfl (by intro _ _; exact ex_index (k := 3) (by exact rfl) Try.underlying25 (by kernel_rfl) (by exact rfl) (by exact rfl) (show 3 < d.bl.length by omega)) ?_
   simp only [lay]
   refine te 7 (.int .u8 ((d.bl.set (0 + 0) 129).getD 3 0)) hS491 rfl (by intro _ h; exact xc Try.underlying5 ((own_byS (own494.to h)).atE (k := 3) rfl (by omega))) ?_
   simp only [lay]
   refine te 8 (.int .u16 ((d.bl.set (0 + 0) 129).getD 3 0)) hS491 rfl (by intro _ _; exact xv (conv_u16 5 22 .u8 ((d.bl.set (0 + 0) 129).getD 3 0) (by kernel_rfl) Try.underlying22 (in_rng (getD_byte hO339.rng 3)).1 (in_rng (getD_byte hO339.rng 3)).2.1 _)) ?_
   simp only [lay]
   refine te 9 (.int .u16 (((d.bl.set (0 + 0) 129).getD 2 0) * 256 + (d.bl.set (0 + 0) 129).getD 3 0)) hS491 rfl (by intro _ _; exact xb (w_add16 _ _ _ (getD_byte hO339.rng 2) (getD_byte hO339.rng 3) _)) ?_
   simp only [lay]
   refine te 10 (.slice A126 (([d.bl.getD 0 0, d.bl.getD 1 0] ++ List.replicate 38 0).length) c127) hS491 rfl (by intro _ _; exact xm) ?_
   simp only [lay]
   refine te 11 (.slice A485 (([(d.bl.set (0 + 0) 129).getD 0 0, (d.bl.set (0 + 0) 129).getD 1 0] ++ (s ++ t) ++ [0, 0, n / 256, n % 256, 0, 58]).length) c486) hS491 rfl (by intro _ _; exact xm) ?_
   simp only [lay]
   have b495 := bt b493 hb489
   have own496 := own343.to b495
   have own497 := hO478.to hb489
   refine t1 12 rfl (ow_call (fun v w' => (∃ q, v = .tuple #[.int .u16 q, .int .i64 0] ∧ q = (updateS (((d.bl.set (0 + 0) 129).getD 2 0) * 256 + (d.bl.set (0 + 0) 129).getD 3 0) ([d.bl.getD 0 0, d.bl.getD 1 0] ++ List.replicate 38 0) ([(d.bl.set (0 + 0) 129).getD 0 0, (d.bl.set (0 + 0) 129).getD 1 0] ++ (s ++ t) ++ [0, 0, n / 256, n % 256, 0, 58])).1 ∧ 0 ≤ q ∧ q < 65536) ∧ Below W488.heap.size W488 w') (by exact xk Try.func92) (rupdate_one (two_rng (getD_byte hO339.rng 2) (getD_byte hO339.rng 3)) (own_byS own496) (own_byS own497) (by constructor <;> simp only [List.length_append, List.length_set, List.length_replicate, List.length_cons, List.length_nil, sL, tL] <;> omega) (by first | omega | simp [sL, tL])) ?_)
   rintro _ W498 ⟨⟨q500, rfl, hq501, q0502, q1503⟩, hb499⟩
   have z504 := hb499.size
   refine ⟨(Below.trans hS491 (hb499.mono hS491.size)), ?_⟩
   have hS505 := (Below.trans hS491 (hb499.mono hS491.size))
   simp only [lay]
   refine te 13 (.tuple #[.int .u16 q500, .int .i64 0]) hS505 rfl (by intro _ _; exact xm) ?_
   simp only [lay]
   refine te 14 (.int .u16 q500) hS505 rfl (by intro _ _; exact xe) ?_
   simp only [lay]
   refine te 15 (.int .i64 0) hS505 rfl (by intro _ _; exact xe) ?_
   simp only [lay]
   refine te 16 (.int .u16 q500) hS505 rfl (by intro _ _; exact xa) ?_
   simp only [lay]
   refine te 17 (.int .i64 0) hS505 rfl (by intro _ _; exact xa) ?_
   simp only [lay]
   refine wpAnyH_done (by kernel_rfl) ?_ _
   change Code.wp _ _ _ _ _
   refine wp_region_lit ?_
   refine lv (.slice (some ⟨g109, 0, none⟩) d.bl.length c36) (by exact xm) ?_
   simp only [lay]
   refine lv (.slice (some ⟨g109, 0, none⟩) d.bl.length c36) (by exact xm) ?_
   simp only [lay]
   refine lv (.int .u16 q500) (by exact xm) ?_
   simp only [lay]
   refine lv (.int .u16 (q500 / 256)) (by exact xb (w_shr16 _ _ _)) ?_
   simp only [lay]
   refine lv (.int .u8 (q500 / 256)) (by exact xv (conv_u8' 22 5 .u16 (q500 / 256) (by kernel_rfl) Try.underlying5 (by omega) _)) ?_
   simp only [lay]
   refine lv (.int .u16 q500) (by exact xm) ?_
   simp only [lay]
   refine lv (.int .u8 (q500 % 256)) (by exact xv (conv_u8 22 5 .u16 q500 (by kernel_rfl) Try.underlying5 _)) ?_
   simp only [lay]
   refine lv (.pointer (some ⟨g109, 0 + 2, none⟩)) (by exact ex_index (k := 2) (by exact rfl) Try.underlying25 (by kernel_rfl) (by exact rfl) (by exact rfl) (show 2 < d.bl.length by omega)) ?_
   simp only [lay]
   have b510 := bt b495 hb499
   have own511 := hO339.to b510
   refine lz (ow_stB 5 (.tmp 125) (.tmp 122) g109 _ W9.heap.size d.bl.length c36 (q500 / 256) _ rfl (by exact rfl) (by exact rfl) (by kernel_rfl) own511 (by omega) (own_len own511) (by omega) ?_)
   intro W506 hO507 bs508 hb509
   have own512 := own343.to b510
   have b513 := bt hb489 hb499
   have own514 := hO478.to b513
   have z515 := hb509.size
   have own516 := own512.but6 bs508 (by omega)
   have own517 := own514.but6 bs508 (by omega)
   simp only [lay]
   refine lv (.pointer (some ⟨g109, 0 + 3, none⟩)) (by exact ex_index (k := 3) (by exact rfl) Try.underlying25 (by kernel_rfl) (by exact rfl) (by exact rfl) (show 3 < d.bl.length by omega)) ?_
   simp only [lay]
   refine lz (ow_stB 5 (.tmp 126) (.tmp 124) g109 _ W9.heap.size d.bl.length c36 (q500 % 256) _ rfl (by exact rfl) (by exact rfl) (by kernel_rfl) hO507 (by omega) (own_len hO507) (by omega) ?_)
   intro W518 hO519 bs520 hb521
   have z522 := hb521.size
   have own523 := own516.but6 bs520 (by omega)
   have own524 := own517.but6 bs520 (by omega)
   simp only [lay]
   refine wn ?_
   refine wp_sr ?_
   refine lv (.slice (some ⟨g109, 0, none⟩) d.bl.length c36) (by exact xm) ?_
   simp only [lay]
   refine lv (.slice (some ⟨g109, 0, none⟩) d.bl.length c36) (by exact xa) ?_
   simp only [lay]
   refine wn ?_
   refine wp_ret ?_
   try simp only [Exit.then]
   rw [show [d.bl.getD 0 0, d.bl.getD 1 0] = d.bl.take 2 from (take2_eq (by omega)).symm] at hq501
   rw [getD_set_ne (j := 2) (by decide), getD_set_ne (j := 3) (by decide), getD_set_ne (j := 1) (by decide), getD_set_eq (by omega)] at hq501
   have e : told17 d s t n = ((d.bl.set (0 + 0) 129).set (0 + 2) (q500 / 256)).set (0 + 3) (q500 % 256) := by
    unfold told17
    repeat (first | rw [if_pos (by first | assumption | omega | exact ne_true_of_eq_false (by assumption))] | rw [if_neg (by first | assumption | omega | exact ne_true_of_eq_false (by assumption))])
    try simp only [if_neg (show ¬ d.bl.getD 0 0 = 8 from by assumption)]
    rw [hq501]
    unfold put17 two17
    simp only [List.append_assoc, List.cons_append, List.nil_append, Nat.zero_add, Nat.reduceAdd]
   have l525 := Nat.le_trans b30.size (Nat.le_refl _)
   have b526 := b31.trans (hb27.mono l525)
   have b527 := bt b526 hb105
   have b528 := bt b527 hb117
   have l529 := Nat.le_trans b527.size (Nat.le_refl _)
   have b530 := b528.trans (hb123.mono l529)
   have l531 := Nat.le_trans b30.size h110
   have b532 := b530.trans (hb341.mono l531)
   have b533 := bt b532 hb466
   have b534 := bt b533 hb474
   have l535 := Nat.le_trans b532.size (Nat.le_refl _)
   have b536 := b534.trans (hb479.mono l535)
   have b537 := bt b536 hb489
   have b538 := bt b537 hb499
   have b539 := b538.trans (hb509.mono l531)
   have b540 := b539.trans (hb521.mono l531)
   exact bodyPost_ret (res_one Try.results58 rfl) rfl ⟨_, rfl, by rw [e]; exact (hO519.more b30.size), b540⟩
  refine lv (.bool false) (by exact ex_geq (by exact rfl) (by exact rfl) (by exact rfl) (decide_eq_false (by first | assumption | omega | decide))) ?_
  simp only [lay]
  refine lv (.bool false) (by exact xp (b := true)) ?_
  simp only [lay]
  refine lv (.bool false) (by exact xa) ?_
  simp only [lay]
  refine wn ?_
  refine cF9 ?_
  refine wp_skip ?_
  change Code.wp _ _ _ _ _
  refine wp_sr ?_
  refine lv (.slice A35 d.bl.length c36) (by exact xm) ?_
  simp only [lay]
  refine lv (.slice A35 d.bl.length c36) (by exact xa) ?_
  simp only [lay]
  refine wn ?_
  refine wp_ret ?_
  try simp only [Exit.then]
  have e : told17 d s t n = d.bl := by
   unfold told17
   repeat (first | rw [if_pos (by first | assumption | omega | exact ne_true_of_eq_false (by assumption))] | rw [if_neg (by first | assumption | omega | exact ne_true_of_eq_false (by assumption))])
  have l541 := Nat.le_trans b30.size (Nat.le_refl _)
  have b542 := b31.trans (hb27.mono l541)
  exact bodyPost_ret (res_one Try.results58 rfl) rfl ⟨_, rfl, by rw [e]; exact (hO34.more b30.size), b542⟩
 refine lv (.bool false) (by exact yqn) ?_
 simp only [lay]
 refine lv (.bool false) (by exact xm) ?_
 simp only [lay]
 refine lzn ?_
 simp only [lay]
 refine lzn ?_
 simp only [lay]
 refine lzn ?_
 simp only [lay]
 refine lv (.bool false) (by exact xp (b := false)) ?_
 simp only [lay]
 refine lv (.bool false) (by exact xa) ?_
 simp only [lay]
 refine wn ?_
 refine cF9 ?_
 refine wp_skip ?_
 change Code.wp _ _ _ _ _
 refine wp_sr ?_
 refine lv (.slice A35 d.bl.length c36) (by exact xm) ?_
 simp only [lay]
 refine lv (.slice A35 d.bl.length c36) (by exact xa) ?_
 simp only [lay]
 refine wn ?_
 refine wp_ret ?_
 try simp only [Exit.then]
 have e : told17 d s t n = d.bl := by
  unfold told17
  repeat (first | rw [if_pos (by first | assumption | omega | exact ne_true_of_eq_false (by assumption))] | rw [if_neg (by first | assumption | omega | exact ne_true_of_eq_false (by assumption))])
 have l543 := Nat.le_trans b30.size (Nat.le_refl _)
 have b544 := b31.trans (hb27.mono l543)
 exact bodyPost_ret (res_one Try.results58 rfl) rfl ⟨_, rfl, by rw [e]; exact (hO34.more b30.size), b544⟩
end Go.Proofs.Ytijnifbpbgckgaa
