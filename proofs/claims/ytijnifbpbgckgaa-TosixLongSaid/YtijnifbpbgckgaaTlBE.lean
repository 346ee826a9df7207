/-
  Lemmas and walks for the row of TosixLong (part 31 of 37).
-/
import Derived.Test.YtijnifbpbgckgaaTlAG
import Derived.Test.YtijnifbpbgckgaaTlBD
set_option linter.unusedVariables false
set_option linter.unusedSimpArgs false
namespace Go.Proofs.Ytijnifbpbgckgaa
open Go.RowKit Go.Shelf
attribute [local irreducible] wpList Code.wp Oper.wp wpOp wpAnyH

theorem msg17_len {m : D7} {s t : List Int} (h : (msg17 m s t).2 = 0) : (msg17 m s t).1.bl.length ≤ 65527 := by
 unfold msg17 at h ⊢
 split
 ·exact Nat.zero_le _
 ·split
  ·exact Nat.zero_le _
  ·split
   ·simp only []; omega
   ·split
    ·exact Nat.zero_le _
    ·simp only [List.length_take]; omega
/-- a datagram of IPv6 and its error, in memory of the call's own -/
def ToldP17 (r : D6 × Int) (base : Nat) (w' : World) (e : Ending) : Prop := ∃ p, e = .returned (.tuple #[.agg (r.1.cells p), .int .i64 r.2]) ∧ Own6 w' base r.1 p

theorem bad17_nil (d : D4) (s t : List Int) (h : ¬ (body17 d s t).2 = 0) : (body17 d s t).1 = [] := by
 revert h
 unfold body17
 repeat' split
 all_goals (intro h; first | rfl | exact absurd rfl h)

set_option maxRecDepth 100000 in
set_option maxHeartbeats 8000000 in
theorem pack17_any (d : D4) (p : W4) (s t s' t' : List Int) (hE : E6ok s t) (hE' : E6ok s' t') (w : World) (hR : Rd4 w.heap.size w d p) :
  Calls Try.prog 10 #[.agg (d.cells p), .agg (ends6 s t), .agg (ends6 s' t')] w fun e w' => ToldP17 (pack17 d s t s' t') w.heap.size w' e ∧ Below w.heap.size w w' := by
 obtain ⟨M, hM⟩ : ∃ x, parse7 d.bl [] = x := ⟨_, rfl⟩
 obtain ⟨PE, hPE⟩ : ∃ x, perr7 d.bl [] = x := ⟨_, rfl⟩
 obtain ⟨MR, hMR⟩ : ∃ x, (msg17 M s' t').1 = x := ⟨_, rfl⟩
 obtain ⟨ME, hME⟩ : ∃ x, (msg17 M s' t').2 = x := ⟨_, rfl⟩
 obtain ⟨BL, hBL⟩ : ∃ x, (body17 d s t).1 = x := ⟨_, rfl⟩
 obtain ⟨BE, hBE⟩ : ∃ x, (body17 d s t).2 = x := ⟨_, rfl⟩
 have yo := hR.opt
 have yb := hR.body
 go_enter_defers Try.func10, Try.ntmps10
 refine wp_sr ?_
 refine lz (ow_box 27 (.tmp 0) _ rfl rfl ?_)
 intro g1 W2 hg3 ge4 sz5 hb6
 have z7 := hb6.size
 simp only [lay]
 refine lz (ow_box 31 (.tmp 1) _ rfl rfl ?_)
 intro g8 W9 hg10 ge11 sz12 hb13
 have z14 := hb13.size
 simp only [lay]
 refine lz (ow_box 31 (.tmp 2) _ rfl rfl ?_)
 intro g15 W16 hg17 ge18 sz19 hb20
 have z21 := hb20.size
 simp only [lay]
 refine lz (oa #[.int .u8 0, .int .u32 0, .int .u8 0, .int .u8 0, .int .u8 0, .int .u8 0, .int .u8 0, .int .u8 0, .int .u8 0, .int .u8 0, .int .u8 0, .int .u8 0, .int .u8 0, .int .u8 0, .int .u8 0, .int .u8 0, .int .u8 0, .int .u8 0, .int .u8 0, .int .u8 0, .int .u8 0, .int .u8 0, .int .u8 0, .int .u8 0, .int .u8 0, .int .u8 0, .int .u8 0, .int .u8 0, .int .u8 0, .int .u8 0, .int .u8 0, .int .u8 0, .int .u8 0, .int .u8 0, .int .u8 0, .slice none 0 0, .bool false, .int .u32 0, .int .i64 0, .bool false, .int .u8 0, .slice none 0 0] ?_)
 intro g22 W23 hg24 ge25 sz26 hb27
 have z28 := hb27.size
 simp only [lay]
 refine lz (ow_alloc (.int .i64 0) #[.int .i64 0] rfl (by kernel_rfl) rfl ?_)
 intro g29 W30 hg31 ge32 sz33 hb34
 have z35 := hb34.size
 simp only [lay]
 refine wn ?_
 refine wp_sr ?_
 refine lz (ow_defer (k := 32) rfl rfl ?_)
 simp only [lay]
 refine wn ?_
 refine wp_sr ?_
 have b36 := bt hb13 hb20
 have b37 := bt b36 hb27
 have b38 := bt b37 hb34
 have has39 := hg3.to b38
 refine lv (.agg (d.cells p)) (by exact xo (has39.load (P := Try.prog) 27 Try.underlying27 rfl (by kernel_rfl))) ?_
 simp only [lay]
 have b40 := bt hb6 hb13
 have b41 := bt b40 hb20
 have b42 := bt b41 hb27
 have b43 := bt b42 hb34
 have rd44 := hR.to b43
 refine lz (ow_call (fun v w' => v = .int .i64 d.check ∧ Below W30.heap.size W30 w') (by exact xk Try.func34) (check_x rd44) ?_)
 rintro _ W45 ⟨rfl, hb46⟩
 have z47 := hb46.size
 simp only [lay]
 by_cases q48 : d.check = 0
 case pos =>
  obtain ⟨hof, hol, -, hbl⟩ := D4.ok_of_check q48
  rw [q48]
  refine lz (ow_same (.tuple #[]) (by exact xk Try.func33) (must17_no W45) ?_)
  simp only [lay]
  refine wn ?_
  refine wp_sr ?_
  refine lv (.pointer (some ⟨g1, 15, none⟩)) (by exact xf 15 0 Try.underlying27) ?_
  simp only [lay]
  have b49 := bt b38 hb46
  have has50 := hg3.to b49
  refine lv (.slice p.oA d.ol.length p.oc) (by exact xc Try.underlying25 (has50.cell 15 rfl)) ?_
  simp only [lay]
  have b51 := bt b43 hb46
  have by52 := yo.to b51
  refine lz (ow_call (fun v w' => v = .bool (routOf d.ol) ∧ Below W45.heap.size W45 w') (by exact xk Try.func36) (routed_x by52 (by omega)) ?_)
  rintro _ W53 ⟨rfl, hb54⟩
  have z55 := hb54.size
  simp only [lay]
  by_cases q56 : routOf d.ol = true
  case pos =>
   rw [q56]
   refine lz (ow_panic [{ v := .iface 111 (.agg #[.int .i64 170]), recovered := false }] (fun w' => W53 = w') (by exact xk Try.func35) (when17_yes 170 W53) ?_)
   rintro _ rfl
   have e : pack17 d s t s' t' = (zero6, 170) := by
    unfold pack17
    repeat (first | rw [if_pos (by first | assumption | omega | exact ne_true_of_eq_false (by assumption))] | rw [if_neg (by first | assumption | omega | exact ne_true_of_eq_false (by assumption))])
   have b57 := bt hb46 hb54
   have has58 := hg31.to b57
   have b59 := bt b51 hb54
   have l60 := lq b42 ge32
   have b61 := bt hb34 hb46
   have b62 := bt b61 hb54
   have has63 := hg24.to b62
   refine leave17_fault has58 ?_
   intro W64 hE65 hb66 hk67
   exact ⟨_, res_cc Try.results10 rfl ((hk67 _ _ (by omega) has63).load (P := Try.prog) 36 Try.underlying36 rfl (by kernel_rfl)) rfl (load_errno hE65), ⟨pZ6, by rw [e]; rfl, by rw [e]; exact own6_zero _ _⟩, b59.trans (hb66.mono l60)⟩
  replace q56 := eq_false_of_ne_true q56
  rw [q56]
  refine lz (ow_same (.tuple #[]) (by exact xk Try.func35) (when17_no 170 W53) ?_)
  simp only [lay]
  refine wn ?_
  refine wp_sr ?_
  refine lv (.pointer (some ⟨g1, 6, none⟩)) (by exact xf 6 0 Try.underlying27) ?_
  simp only [lay]
  have b68 := bt b49 hb54
  have has69 := hg3.to b68
  refine lv (.int .u8 d.proto) (by exact xc Try.underlying5 (has69.cell 6 rfl)) ?_
  simp only [lay]
  refine lz (ow_same (.bool (wrong17 d.proto)) (by exact xk Try.func37) (wrong17_any d.proto W53) ?_)
  simp only [lay]
  by_cases q70 : wrong17 d.proto = true
  case pos =>
   rw [q70]
   refine lz (ow_panic [{ v := .iface 111 (.agg #[.int .i64 171]), recovered := false }] (fun w' => W53 = w') (by exact xk Try.func35) (when17_yes 171 W53) ?_)
   rintro _ rfl
   have e : pack17 d s t s' t' = (zero6, 171) := by
    unfold pack17
    repeat (first | rw [if_pos (by first | assumption | omega | exact ne_true_of_eq_false (by assumption))] | rw [if_neg (by first | assumption | omega | exact ne_true_of_eq_false (by assumption))])
   have b71 := bt hb46 hb54
   have has72 := hg31.to b71
   have b73 := bt b51 hb54
   have l74 := lq b42 ge32
   have b75 := bt hb34 hb46
   have b76 := bt b75 hb54
   have has77 := hg24.to b76
   refine leave17_fault has72 ?_
   intro W78 hE79 hb80 hk81
   exact ⟨_, res_cc Try.results10 rfl ((hk81 _ _ (by omega) has77).load (P := Try.prog) 36 Try.underlying36 rfl (by kernel_rfl)) rfl (load_errno hE79), ⟨pZ6, by rw [e]; rfl, by rw [e]; exact own6_zero _ _⟩, b73.trans (hb80.mono l74)⟩
  replace q70 := eq_false_of_ne_true q70
  rw [q70]
  refine lz (ow_same (.tuple #[]) (by exact xk Try.func35) (when17_no 171 W53) ?_)
  simp only [lay]
  refine wn ?_
  refine wp_sr ?_
  refine lv (.agg (d.cells p)) (by exact xo (has69.load (P := Try.prog) 27 Try.underlying27 rfl (by kernel_rfl))) ?_
  simp only [lay]
  have b82 := bt hb20 hb27
  have b83 := bt b82 hb34
  have b84 := bt b83 hb46
  have b85 := bt b84 hb54
  have has86 := hg10.to b85
  refine lv (.agg (ends6 s t)) (by exact xo (has86.load (P := Try.prog) 31 Try.underlying31 rfl (by kernel_rfl))) ?_
  simp only [lay]
  refine lz (ow_call (fun v w' => v = .agg ((head17 d s t []).cells pZ6) ∧ Below W53.heap.size W53 w') (by exact xk Try.func38) ((header_any d hR.ok _ s t W53).mono fun e w' h => ⟨_, h.1, rfl, h.2⟩) ?_)
  rintro _ W87 ⟨rfl, hb88⟩
  have z89 := hb88.size
  simp only [lay]
  refine lz (oa #[.int .u8 0, .int .u32 0, .int .u8 0, .int .u8 0, .int .u8 0, .int .u8 0, .int .u8 0, .int .u8 0, .int .u8 0, .int .u8 0, .int .u8 0, .int .u8 0, .int .u8 0, .int .u8 0, .int .u8 0, .int .u8 0, .int .u8 0, .int .u8 0, .int .u8 0, .int .u8 0, .int .u8 0, .int .u8 0, .int .u8 0, .int .u8 0, .int .u8 0, .int .u8 0, .int .u8 0, .int .u8 0, .int .u8 0, .int .u8 0, .int .u8 0, .int .u8 0, .int .u8 0, .int .u8 0, .int .u8 0, .slice none 0 0, .bool false, .int .u32 0, .int .i64 0, .bool false, .int .u8 0, .slice none 0 0] ?_)
  intro g90 W91 hg92 ge93 sz94 hb95
  have z96 := hb95.size
  simp only [lay]
  refine lz (ow_st 36 (.tmp 8) (.tmp 25) g90 ((head17 d s t []).cells pZ6) _ _ rfl (by exact rfl) (by exact rfl) hg92 (by kernel_rfl) rfl (by kernel_rfl) ?_)
  intro W97 hg98 bs99 hb100
  have z101 := hb100.size
  simp only [lay]
  refine wn ?_
  refine wp_seq ?_
  refine wp_sr ?_
  refine lv (.pointer (some ⟨g1, 6, none⟩)) (by exact xf 6 0 Try.underlying27) ?_
  simp only [lay]
  have b102 := bt b68 hb88
  have b103 := bt b102 hb95
  have l104 := lq b102 ge93
  have b105 := b103.trans (hb100.mono l104)
  have has106 := hg3.to b105
  refine lv (.int .u8 d.proto) (by exact xc Try.underlying5 (has106.cell 6 rfl)) ?_
  simp only [lay]
  by_cases q107 : d.proto = 1
  case pos =>
   refine lv (.bool true) (by exact yq) ?_
   simp only [lay]
   refine wn ?_
   refine wp_cond_true (by exact rfl) ?_
   refine wp_sr ?_
   refine lv (.agg (d.cells p)) (by exact xo (has106.load (P := Try.prog) 27 Try.underlying27 rfl (by kernel_rfl))) ?_
   simp only [lay]
   refine lz (ow_call (fun v w' => v = .bool d.part ∧ Below W97.heap.size W97 w') (by exact xk Try.func39) (by exact (fragment_any d p W97).mono fun e w' h => ⟨_, h.1, rfl, h.2⟩) ?_)
   rintro _ W108 ⟨rfl, hb109⟩
   have z110 := hb109.size
   simp only [lay]
   by_cases q111 : d.part = true
   case pos =>
    rw [q111]
    refine lz (ow_panic [{ v := .iface 111 (.agg #[.int .i64 174]), recovered := false }] (fun w' => W108 = w') (by exact xk Try.func35) (when17_yes 174 W108) ?_)
    rintro _ rfl
    have hany : any17 d s t s' t' = ([], 174) := by
     unfold any17 icmp17
     simp only [hM, hPE, hMR, hME]
     repeat (first | rw [if_pos (by first | assumption | omega | exact ne_true_of_eq_false (by assumption))] | rw [if_neg (by first | assumption | omega | exact ne_true_of_eq_false (by assumption))])
    have e : pack17 d s t s' t' = (zero6, 174) := by
     unfold pack17
     rw [hany]
     dsimp only
     repeat (first | rw [if_pos (by first | assumption | omega | exact ne_true_of_eq_false (by assumption))] | rw [if_neg (by first | assumption | omega | exact ne_true_of_eq_false (by assumption))])
    have b112 := bt hb46 hb54
    have b113 := bt b112 hb88
    have b114 := bt b113 hb95
    have l115 := lq b113 ge93
    have b116 := b114.trans (hb100.mono l115)
    have b117 := bt b116 hb109
    have has118 := hg31.to b117
    have b119 := bt b51 hb54
    have b120 := bt b119 hb88
    have b121 := bt b120 hb95
    have l122 := lq b120 ge93
    have b123 := b121.trans (hb100.mono l122)
    have b124 := bt b123 hb109
    have l125 := lq b42 ge32
    have b126 := bt hb34 hb46
    have b127 := bt b126 hb54
    have b128 := bt b127 hb88
    have b129 := bt b128 hb95
    have l130 := lq b128 ge93
    have b131 := b129.trans (hb100.mono l130)
    have b132 := bt b131 hb109
    have has133 := hg24.to b132
    refine leave17_fault has118 ?_
    intro W134 hE135 hb136 hk137
    exact ⟨_, res_cc Try.results10 rfl ((hk137 _ _ (by omega) has133).load (P := Try.prog) 36 Try.underlying36 rfl (by kernel_rfl)) rfl (load_errno hE135), ⟨pZ6, by rw [e]; rfl, by rw [e]; exact own6_zero _ _⟩, b124.trans (hb136.mono l125)⟩
   replace q111 := eq_false_of_ne_true q111
   rw [q111]
   refine lz (ow_same (.tuple #[]) (by exact xk Try.func35) (when17_no 174 W108) ?_)
   simp only [lay]
   refine wn ?_
   refine wp_sr ?_
   refine lv (.pointer (some ⟨g1, 16, none⟩)) (by exact xf 16 0 Try.underlying27) ?_
   simp only [lay]
   have b138 := bt b105 hb109
   have has139 := hg3.to b138
   refine lv (.slice p.bA d.bl.length p.bc) (by exact xc Try.underlying25 (has139.cell 16 rfl)) ?_
   simp only [lay]
   have b140 := bt b51 hb54
   have b141 := bt b140 hb88
   have b142 := bt b141 hb95
   have l143 := lq b141 ge93
   have b144 := b142.trans (hb100.mono l143)
   have b145 := bt b144 hb109
   have by146 := yb.to b145
   refine lz (ow_call (fun v w' => (∃ A' c', v = .tuple #[.agg (M.cells A' c'), .int .i64 PE] ∧ M.ok ∧ OwnB w' W108.heap.size (.slice A' M.bl.length c') M.bl) ∧ Below W108.heap.size W108 w') (by exact xk Try.func40) (by have := iparse4_x by146; rw [hM, hPE] at this; exact this) ?_)
   rintro _ W147 ⟨⟨A149, c150, rfl, hk151, hO152⟩, hb148⟩
   have z153 := hb148.size
   simp only [lay]
   refine lv (.tuple #[.agg (M.cells A149 c150), .int .i64 PE]) (by exact xm) ?_
   simp only [lay]
   refine lv (.agg (M.cells A149 c150)) (by exact xe) ?_
   simp only [lay]
   refine lv (.int .i64 PE) (by exact xe) ?_
   simp only [lay]
   refine lz (oa #[.int .u8 0, .int .u8 0, .int .u32 0, .slice none 0 0] ?_)
   intro g154 W155 hg156 ge157 sz158 hb159
   have z160 := hb159.size
   simp only [lay]
   refine lz (ow_st 46 (.tmp 9) (.tmp 36) g154 (M.cells A149 c150) _ _ rfl (by exact rfl) (by exact rfl) hg156 (by kernel_rfl) rfl (by kernel_rfl) ?_)
   intro W161 hg162 bs163 hb164
   have z165 := hb164.size
   simp only [lay]
   refine lv (.int .i64 PE) (by exact xa) ?_
   simp only [lay]
   refine wn ?_
   refine wp_sr ?_
   refine lv (.int .i64 PE) (by exact xm) ?_
   simp only [lay]
   by_cases q166 : PE = 0
   case pos =>
    rw [q166]
    refine lz (ow_same (.tuple #[]) (by exact xk Try.func33) (must17_no W161) ?_)
    simp only [lay]
    refine wn ?_
    refine wp_sr ?_
    refine lv (.agg (M.cells A149 c150)) (by exact xo (hg162.load (P := Try.prog) 46 Try.underlying46 rfl (by kernel_rfl))) ?_
    simp only [lay]
    have b167 := bt hb27 hb34
    have b168 := bt b167 hb46
    have b169 := bt b168 hb54
    have b170 := bt b169 hb88
    have b171 := bt b170 hb95
    have l172 := lq b170 ge93
    have b173 := b171.trans (hb100.mono l172)
    have b174 := bt b173 hb109
    have b175 := bt b174 hb148
    have b176 := bt b175 hb159
    have l177 := lq b175 ge157
    have b178 := b176.trans (hb164.mono l177)
    have has179 := hg17.to b178
    refine lv (.agg (ends6 s' t')) (by exact xo (has179.load (P := Try.prog) 31 Try.underlying31 rfl (by kernel_rfl))) ?_
    simp only [lay]
    have l180 : W147.heap.size ≤ g154 := Nat.le_of_eq ge157.symm
    have b181 := hb159.trans (hb164.mono l180)
    have own182 := hO152.to b181
    refine lz (ow_call (fun v w' => (∃ A' c', v = .tuple #[.agg (MR.cells A' c'), .int .i64 ME] ∧ MR.ok ∧ OwnB w' W161.heap.size (.slice A' MR.bl.length c') MR.bl) ∧ Below W161.heap.size W161 w') (by exact xk Try.func14) ((msg17_any M _ _ s' t' hE' W161 ⟨hk151, (own_byS own182)⟩).mono (by rintro e w' ⟨⟨A, c, rfl, hk, ho⟩, hb⟩; rw [hMR] at hk ho; exact ⟨_, rfl, ⟨A, c, by rw [hMR, hME], hk, ho⟩, hb⟩)) ?_)
    rintro _ W183 ⟨⟨A185, c186, rfl, hk187, hO188⟩, hb184⟩
    have z189 := hb184.size
    simp only [lay]
    refine lv (.tuple #[.agg (MR.cells A185 c186), .int .i64 ME]) (by exact xm) ?_
    simp only [lay]
    refine lv (.agg (MR.cells A185 c186)) (by exact xe) ?_
    simp only [lay]
    refine lv (.int .i64 ME) (by exact xe) ?_
    simp only [lay]
    refine lz (oa #[.int .u8 0, .int .u8 0, .int .u32 0, .slice none 0 0] ?_)
    intro g190 W191 hg192 ge193 sz194 hb195
    have z196 := hb195.size
    simp only [lay]
    refine lz (ow_st 46 (.tmp 11) (.tmp 44) g190 (MR.cells A185 c186) _ _ rfl (by exact rfl) (by exact rfl) hg192 (by kernel_rfl) rfl (by kernel_rfl) ?_)
    intro W197 hg198 bs199 hb200
    have z201 := hb200.size
    simp only [lay]
    refine lv (.int .i64 ME) (by exact xa) ?_
    simp only [lay]
    refine wn ?_
    refine wp_sr ?_
    refine lv (.int .i64 ME) (by exact xm) ?_
    simp only [lay]
    by_cases q202 : ME = 0
    case pos =>
     have herr : MR.err = 0 := by rw [D7.err, if_neg (by have := msg17_len (hME.trans q202); rw [hMR] at this; omega)]
     rw [q202]
     refine lz (ow_same (.tuple #[]) (by exact xk Try.func33) (must17_no W197) ?_)
     simp only [lay]
     refine wn ?_
     refine wp_sr ?_
     refine lv (.pointer (some ⟨g8, 0, none⟩)) (by exact xf 0 15 Try.underlying31) ?_
     simp only [lay]
     have b203 := bt b85 hb88
     have b204 := bt b203 hb95
     have l205 := lq b203 ge93
     have b206 := b204.trans (hb100.mono l205)
     have b207 := bt b206 hb109
     have b208 := bt b207 hb148
     have b209 := bt b208 hb159
     have l210 := lq b208 ge157
     have b211 := b209.trans (hb164.mono l210)
     have b212 := bt b211 hb184
     have b213 := bt b212 hb195
     have l214 := lq b212 ge193
     have b215 := b213.trans (hb200.mono l214)
     have has216 := hg10.to b215
     refine lv (.agg (a16 s)) (by exact ex_loadAt (by exact rfl) (by exact rfl) (has216.loadIn (P := Try.prog) 0 (w16 s) (by kernel_rfl) 29 Try.underlying29 rfl (by kernel_rfl))) ?_
     simp only [lay]
     refine lv (.pointer (some ⟨g8, 16, none⟩)) (by exact xf 16 15 Try.underlying31) ?_
     simp only [lay]
     refine lv (.agg (a16 t)) (by exact ex_loadAt (by exact rfl) (by exact rfl) (has216.loadIn (P := Try.prog) 16 (w16 t) (by kernel_rfl) 29 Try.underlying29 rfl (by kernel_rfl))) ?_
     simp only [lay]
     refine lv (.agg (MR.cells A185 c186)) (by exact xo (hg198.load (P := Try.prog) 46 Try.underlying46 rfl (by kernel_rfl))) ?_
     simp only [lay]
     have l217 : W183.heap.size ≤ g190 := Nat.le_of_eq ge193.symm
     have b218 := hb195.trans (hb200.mono l217)
     have own219 := hO188.to b218
     refine lz (ow_call (fun v w' => (∃ u, v = .tuple #[u, .int .i64 0] ∧ OwnB w' W197.heap.size u (MR.write (pse6 s t (8 + MR.bl.length) 58))) ∧ Below W197.heap.size W197 w') (by exact xk Try.func41) (by have := iwrite6_x hE.sL hE.tL hE.s hE.t (w := W197) ⟨hk187, (own_byS own219)⟩; rw [herr] at this; exact this) ?_)
     rintro _ W220 ⟨⟨u222, rfl, hO223⟩, hb221⟩
     have z224 := hb221.size
     obtain ⟨A225, c226, rfl, y227⟩ := hO223.by_
     simp only [lay]
     refine lv (.tuple #[.slice A225 ((MR.write (pse6 s t (8 + MR.bl.length) 58)).length) c226, .int .i64 0]) (by exact xm) ?_
     simp only [lay]
     refine lv (.slice A225 ((MR.write (pse6 s t (8 + MR.bl.length) 58)).length) c226) (by exact xe) ?_
     simp only [lay]
     refine lv (.int .i64 0) (by exact xe) ?_
     simp only [lay]
     refine lv (.pointer (some ⟨g90, 41, none⟩)) (by exact xf 41 0 Try.underlying36) ?_
     simp only [lay]
     have b232 := bt hb109 hb148
     have b233 := bt b232 hb159
     have l234 := lq b232 ge157
     have b235 := b233.trans (hb164.mono l234)
     have b236 := bt b235 hb184
     have b237 := bt b236 hb195
     have l238 := lq b236 ge193
     have b239 := b237.trans (hb200.mono l238)
     have b240 := bt b239 hb221
     have has241 := hg98.to b240
     refine lz (ow_st1 25 (.tmp 57) (.tmp 55) g90 41 (.slice A225 ((MR.write (pse6 s t (8 + MR.bl.length) 58)).length) c226) _ #[.int .u8 ((head17 d s t []).cls), .int .u32 ((head17 d s t []).lab), .int .u8 ((head17 d s t []).hop), .int .u8 ((head17 d s t []).src.getD 0 0), .int .u8 ((head17 d s t []).src.getD 1 0), .int .u8 ((head17 d s t []).src.getD 2 0), .int .u8 ((head17 d s t []).src.getD 3 0), .int .u8 ((head17 d s t []).src.getD 4 0), .int .u8 ((head17 d s t []).src.getD 5 0), .int .u8 ((head17 d s t []).src.getD 6 0), .int .u8 ((head17 d s t []).src.getD 7 0), .int .u8 ((head17 d s t []).src.getD 8 0), .int .u8 ((head17 d s t []).src.getD 9 0), .int .u8 ((head17 d s t []).src.getD 10 0), .int .u8 ((head17 d s t []).src.getD 11 0), .int .u8 ((head17 d s t []).src.getD 12 0), .int .u8 ((head17 d s t []).src.getD 13 0), .int .u8 ((head17 d s t []).src.getD 14 0), .int .u8 ((head17 d s t []).src.getD 15 0), .int .u8 ((head17 d s t []).dst.getD 0 0), .int .u8 ((head17 d s t []).dst.getD 1 0), .int .u8 ((head17 d s t []).dst.getD 2 0), .int .u8 ((head17 d s t []).dst.getD 3 0), .int .u8 ((head17 d s t []).dst.getD 4 0), .int .u8 ((head17 d s t []).dst.getD 5 0), .int .u8 ((head17 d s t []).dst.getD 6 0), .int .u8 ((head17 d s t []).dst.getD 7 0), .int .u8 ((head17 d s t []).dst.getD 8 0), .int .u8 ((head17 d s t []).dst.getD 9 0), .int .u8 ((head17 d s t []).dst.getD 10 0), .int .u8 ((head17 d s t []).dst.getD 11 0), .int .u8 ((head17 d s t []).dst.getD 12 0), .int .u8 ((head17 d s t []).dst.getD 13 0), .int .u8 ((head17 d s t []).dst.getD 14 0), .int .u8 ((head17 d s t []).dst.getD 15 0), .slice pZ6.hA ((head17 d s t []).hs.length) pZ6.hc, .bool ((head17 d s t []).frag), .int .u32 ((head17 d s t []).id), .int .i64 ((head17 d s t []).off), .bool ((head17 d s t []).more), .int .u8 ((head17 d s t []).pro), .slice A225 ((MR.write (pse6 s t (8 + MR.bl.length) 58)).length) c226] _ rfl (by exact rfl) (by exact rfl) rfl (by kernel_rfl) has241 rfl rfl (by kernel_rfl) ?_)
     intro W228 hg229 bs230 hb231
     have b242 := bt b181 hb184
     have b243 := bt b242 hb195
     have l244 := lq b242 ge193
     have b245 := b243.trans (hb200.mono l244)
     have b246 := bt b245 hb221
     have own247 := hO152.to b246
     have b248 := bt hb184 hb195
     have l249 := lq hb184 ge193
     have b250 := b248.trans (hb200.mono l249)
     have b251 := bt b250 hb221
     have has252 := hg162.to b251
     have b253 := bt b218 hb221
     have own254 := hO188.to b253
     have has255 := hg198.to hb221
     have z256 := hb231.size
     have own257 := own247.but6 bs230 (by omega)
     have has258 := has252.but6 bs230 (by omega)
     have own259 := own254.but6 bs230 (by omega)
     have has260 := has255.but6 bs230 (by omega)
     have own261 := hO223.but6 bs230 (by omega)
     simp only [lay]
     refine lv (.int .i64 0) (by exact xa) ?_
     simp only [lay]
     refine wn ?_
     refine wp_region_lit ?_
     refine lv (.int .i64 0) (by exact xm) ?_
     simp only [lay]
     refine lz (ow_same (.tuple #[]) (by exact xk Try.func33) (must17_no W228) ?_)
     simp only [lay]
     refine wn ?_
     refine wp_sr ?_
     refine lv (.agg #[.int .u8 ((head17 d s t []).cls), .int .u32 ((head17 d s t []).lab), .int .u8 ((head17 d s t []).hop), .int .u8 ((head17 d s t []).src.getD 0 0), .int .u8 ((head17 d s t []).src.getD 1 0), .int .u8 ((head17 d s t []).src.getD 2 0), .int .u8 ((head17 d s t []).src.getD 3 0), .int .u8 ((head17 d s t []).src.getD 4 0), .int .u8 ((head17 d s t []).src.getD 5 0), .int .u8 ((head17 d s t []).src.getD 6 0), .int .u8 ((head17 d s t []).src.getD 7 0), .int .u8 ((head17 d s t []).src.getD 8 0), .int .u8 ((head17 d s t []).src.getD 9 0), .int .u8 ((head17 d s t []).src.getD 10 0), .int .u8 ((head17 d s t []).src.getD 11 0), .int .u8 ((head17 d s t []).src.getD 12 0), .int .u8 ((head17 d s t []).src.getD 13 0), .int .u8 ((head17 d s t []).src.getD 14 0), .int .u8 ((head17 d s t []).src.getD 15 0), .int .u8 ((head17 d s t []).dst.getD 0 0), .int .u8 ((head17 d s t []).dst.getD 1 0), .int .u8 ((head17 d s t []).dst.getD 2 0), .int .u8 ((head17 d s t []).dst.getD 3 0), .int .u8 ((head17 d s t []).dst.getD 4 0), .int .u8 ((head17 d s t []).dst.getD 5 0), .int .u8 ((head17 d s t []).dst.getD 6 0), .int .u8 ((head17 d s t []).dst.getD 7 0), .int .u8 ((head17 d s t []).dst.getD 8 0), .int .u8 ((head17 d s t []).dst.getD 9 0), .int .u8 ((head17 d s t []).dst.getD 10 0), .int .u8 ((head17 d s t []).dst.getD 11 0), .int .u8 ((head17 d s t []).dst.getD 12 0), .int .u8 ((head17 d s t []).dst.getD 13 0), .int .u8 ((head17 d s t []).dst.getD 14 0), .int .u8 ((head17 d s t []).dst.getD 15 0), .slice pZ6.hA ((head17 d s t []).hs.length) pZ6.hc, .bool ((head17 d s t []).frag), .int .u32 ((head17 d s t []).id), .int .i64 ((head17 d s t []).off), .bool ((head17 d s t []).more), .int .u8 ((head17 d s t []).pro), .slice A225 ((MR.write (pse6 s t (8 + MR.bl.length) 58)).length) c226]) (by exact xo (hg229.load (P := Try.prog) 36 Try.underlying36 rfl (by kernel_rfl))) ?_
     simp only [lay]
     refine lz (ow_call (fun v w' => v = .int .i64 ((head17 d s t (MR.write (pse6 s t (8 + MR.bl.length) 58))).check) ∧ Below W228.heap.size W228 w') (by exact xk Try.func43) (check6_x (head17_rd hR.ok hE (A := A225) (c := c226) (own_byS own261))) ?_)
     rintro _ W262 ⟨rfl, hb263⟩
     have z264 := hb263.size
     simp only [lay]
     by_cases q265 : (head17 d s t (MR.write (pse6 s t (8 + MR.bl.length) 58))).check = 0
     case pos =>
      refine lv (.bool false) (by exact neq_int_eq (by exact rfl) (by exact rfl) (by exact rfl) (by first | assumption | omega)) ?_
      simp only [lay]
      refine lz (ow_same (.tuple #[]) (by exact xk Try.func35) (when17_no 2 W262) ?_)
      simp only [lay]
      refine wn ?_
      refine wp_sr ?_
      have has266 := hg229.to hb263
      refine lv (.agg #[.int .u8 ((head17 d s t []).cls), .int .u32 ((head17 d s t []).lab), .int .u8 ((head17 d s t []).hop), .int .u8 ((head17 d s t []).src.getD 0 0), .int .u8 ((head17 d s t []).src.getD 1 0), .int .u8 ((head17 d s t []).src.getD 2 0), .int .u8 ((head17 d s t []).src.getD 3 0), .int .u8 ((head17 d s t []).src.getD 4 0), .int .u8 ((head17 d s t []).src.getD 5 0), .int .u8 ((head17 d s t []).src.getD 6 0), .int .u8 ((head17 d s t []).src.getD 7 0), .int .u8 ((head17 d s t []).src.getD 8 0), .int .u8 ((head17 d s t []).src.getD 9 0), .int .u8 ((head17 d s t []).src.getD 10 0), .int .u8 ((head17 d s t []).src.getD 11 0), .int .u8 ((head17 d s t []).src.getD 12 0), .int .u8 ((head17 d s t []).src.getD 13 0), .int .u8 ((head17 d s t []).src.getD 14 0), .int .u8 ((head17 d s t []).src.getD 15 0), .int .u8 ((head17 d s t []).dst.getD 0 0), .int .u8 ((head17 d s t []).dst.getD 1 0), .int .u8 ((head17 d s t []).dst.getD 2 0), .int .u8 ((head17 d s t []).dst.getD 3 0), .int .u8 ((head17 d s t []).dst.getD 4 0), .int .u8 ((head17 d s t []).dst.getD 5 0), .int .u8 ((head17 d s t []).dst.getD 6 0), .int .u8 ((head17 d s t []).dst.getD 7 0), .int .u8 ((head17 d s t []).dst.getD 8 0), .int .u8 ((head17 d s t []).dst.getD 9 0), .int .u8 ((head17 d s t []).dst.getD 10 0), .int .u8 ((head17 d s t []).dst.getD 11 0), .int .u8 ((head17 d s t []).dst.getD 12 0), .int .u8 ((head17 d s t []).dst.getD 13 0), .int .u8 ((head17 d s t []).dst.getD 14 0), .int .u8 ((head17 d s t []).dst.getD 15 0), .slice pZ6.hA ((head17 d s t []).hs.length) pZ6.hc, .bool ((head17 d s t []).frag), .int .u32 ((head17 d s t []).id), .int .i64 ((head17 d s t []).off), .bool ((head17 d s t []).more), .int .u8 ((head17 d s t []).pro), .slice A225 ((MR.write (pse6 s t (8 + MR.bl.length) 58)).length) c226]) (by exact xo (has266.load (P := Try.prog) 36 Try.underlying36 rfl (by kernel_rfl))) ?_
      simp only [lay]
      have b271 := bt hb34 hb46
      have b272 := bt b271 hb54
      have b273 := bt b272 hb88
      have b274 := bt b273 hb95
      have l275 := lq b273 ge93
      have b276 := b274.trans (hb100.mono l275)
      have b277 := bt b276 hb109
      have b278 := bt b277 hb148
      have b279 := bt b278 hb159
      have l280 := lq b278 ge157
      have b281 := b279.trans (hb164.mono l280)
      have b282 := bt b281 hb184
      have b283 := bt b282 hb195
      have l284 := lq b282 ge193
      have b285 := b283.trans (hb200.mono l284)
      have b286 := bt b285 hb221
      have b287 := b286.trans (hb231.mono l275)
      have b288 := bt b287 hb263
      have has289 := hg24.to b288
      refine lz (ow_st 36 (.tmp 6) (.tmp 68) g22 #[.int .u8 ((head17 d s t []).cls), .int .u32 ((head17 d s t []).lab), .int .u8 ((head17 d s t []).hop), .int .u8 ((head17 d s t []).src.getD 0 0), .int .u8 ((head17 d s t []).src.getD 1 0), .int .u8 ((head17 d s t []).src.getD 2 0), .int .u8 ((head17 d s t []).src.getD 3 0), .int .u8 ((head17 d s t []).src.getD 4 0), .int .u8 ((head17 d s t []).src.getD 5 0), .int .u8 ((head17 d s t []).src.getD 6 0), .int .u8 ((head17 d s t []).src.getD 7 0), .int .u8 ((head17 d s t []).src.getD 8 0), .int .u8 ((head17 d s t []).src.getD 9 0), .int .u8 ((head17 d s t []).src.getD 10 0), .int .u8 ((head17 d s t []).src.getD 11 0), .int .u8 ((head17 d s t []).src.getD 12 0), .int .u8 ((head17 d s t []).src.getD 13 0), .int .u8 ((head17 d s t []).src.getD 14 0), .int .u8 ((head17 d s t []).src.getD 15 0), .int .u8 ((head17 d s t []).dst.getD 0 0), .int .u8 ((head17 d s t []).dst.getD 1 0), .int .u8 ((head17 d s t []).dst.getD 2 0), .int .u8 ((head17 d s t []).dst.getD 3 0), .int .u8 ((head17 d s t []).dst.getD 4 0), .int .u8 ((head17 d s t []).dst.getD 5 0), .int .u8 ((head17 d s t []).dst.getD 6 0), .int .u8 ((head17 d s t []).dst.getD 7 0), .int .u8 ((head17 d s t []).dst.getD 8 0), .int .u8 ((head17 d s t []).dst.getD 9 0), .int .u8 ((head17 d s t []).dst.getD 10 0), .int .u8 ((head17 d s t []).dst.getD 11 0), .int .u8 ((head17 d s t []).dst.getD 12 0), .int .u8 ((head17 d s t []).dst.getD 13 0), .int .u8 ((head17 d s t []).dst.getD 14 0), .int .u8 ((head17 d s t []).dst.getD 15 0), .slice pZ6.hA ((head17 d s t []).hs.length) pZ6.hc, .bool ((head17 d s t []).frag), .int .u32 ((head17 d s t []).id), .int .i64 ((head17 d s t []).off), .bool ((head17 d s t []).more), .int .u8 ((head17 d s t []).pro), .slice A225 ((MR.write (pse6 s t (8 + MR.bl.length) 58)).length) c226] _ _ rfl (by exact rfl) (by exact rfl) has289 (by kernel_rfl) rfl (by kernel_rfl) ?_)
      intro W267 hg268 bs269 hb270
      have b290 := bt hb46 hb54
      have b291 := bt b290 hb88
      have b292 := bt b291 hb95
      have l293 := lq b291 ge93
      have b294 := b292.trans (hb100.mono l293)
      have b295 := bt b294 hb109
      have b296 := bt b295 hb148
      have b297 := bt b296 hb159
      have l298 := lq b296 ge157
      have b299 := b297.trans (hb164.mono l298)
      have b300 := bt b299 hb184
      have b301 := bt b300 hb195
      have l302 := lq b300 ge193
      have b303 := b301.trans (hb200.mono l302)
      have b304 := bt b303 hb221
      have b305 := b304.trans (hb231.mono l293)
      have b306 := bt b305 hb263
      have has307 := hg31.to b306
      have own308 := own257.to hb263
      have has309 := has258.to hb263
      have own310 := own259.to hb263
      have has311 := has260.to hb263
      have own312 := own261.to hb263
      have z313 := hb270.size
      have has314 := has307.but6 bs269 (by omega)
      have own315 := own308.but6 bs269 (by omega)
      have has316 := has309.but6 bs269 (by omega)
      have own317 := own310.but6 bs269 (by omega)
      have has318 := has311.but6 bs269 (by omega)
      have own319 := own312.but6 bs269 (by omega)
      have has320 := has266.but6 bs269 (by omega)
      simp only [lay]
      refine lz (ow_st1 37 (.tmp 7) (.const (.int .i64 0)) g29 0 (.int .i64 0) _ #[.int .i64 0] _ rfl (by exact rfl) (by exact rfl) rfl (by kernel_rfl) has314 rfl rfl (by kernel_rfl) ?_)
      intro W321 hg322 bs323 hb324
      have z325 := hb324.size
      have own326 := own315.but6 bs323 (by omega)
      have has327 := has316.but6 bs323 (by omega)
      have own328 := own317.but6 bs323 (by omega)
      have has329 := has318.but6 bs323 (by omega)
      have own330 := own319.but6 bs323 (by omega)
      have has331 := has320.but6 bs323 (by omega)
      have has332 := hg268.but6 bs323 (by omega)
      simp only [lay]
      refine wn ?_
      refine wp_ret ?_
      try simp only [Exit.then]
      have b333 := bt b145 hb148
      have b334 := bt b333 hb159
      have l335 := lq b333 ge157
      have b336 := b334.trans (hb164.mono l335)
      have b337 := bt b336 hb184
      have b338 := bt b337 hb195
      have l339 := lq b337 ge193
      have b340 := b338.trans (hb200.mono l339)
      have hany : any17 d s t s' t' = (MR.write (pse6 s t (8 + MR.bl.length) 58), 0) := by
       unfold any17 icmp17
       simp only [hM, hPE, hMR, hME]
       repeat (first | rw [if_pos (by first | assumption | omega | exact ne_true_of_eq_false (by assumption))] | rw [if_neg (by first | assumption | omega | exact ne_true_of_eq_false (by assumption))])
      have e : pack17 d s t s' t' = (head17 d s t (MR.write (pse6 s t (8 + MR.bl.length) 58)), 0) := by
       unfold pack17
       rw [hany]
       dsimp only
       repeat (first | rw [if_pos (by first | assumption | omega | exact ne_true_of_eq_false (by assumption))] | rw [if_neg (by first | assumption | omega | exact ne_true_of_eq_false (by assumption))])
      have h6 : Has _ _ (.cells ((head17 d s t (MR.write (pse6 s t (8 + MR.bl.length) 58))).cells (pB6 A225 c226)) 36 (0, 0)) := has332
      have b341 := bt b340 hb221
      have b342 := b341.trans (hb231.mono l143)
      have b343 := bt b342 hb263
      have l344 := lq b41 ge25
      have b345 := b343.trans (hb270.mono l344)
      have l346 := lq b42 ge32
      have b347 := b345.trans (hb324.mono l346)
      exact leave17_ok (res_cc Try.results10 rfl (h6.load (P := Try.prog) 36 Try.underlying36 rfl (by kernel_rfl)) rfl (load_errno hg322)) ⟨⟨_, by rw [e], by rw [e]; exact head17_own hR.ok hE (own330.more b340.size)⟩, b347⟩
     refine lv (.bool true) (by exact neq_int_ne (by exact rfl) (by exact rfl) (by exact rfl) (by first | assumption | omega)) ?_
     simp only [lay]
     refine lz (ow_panic [{ v := .iface 111 (.agg #[.int .i64 2]), recovered := false }] (fun w' => W262 = w') (by exact xk Try.func35) (when17_yes 2 W262) ?_)
     rintro _ rfl
     have hany : any17 d s t s' t' = (MR.write (pse6 s t (8 + MR.bl.length) 58), 0) := by
      unfold any17 icmp17
      simp only [hM, hPE, hMR, hME]
      repeat (first | rw [if_pos (by first | assumption | omega | exact ne_true_of_eq_false (by assumption))] | rw [if_neg (by first | assumption | omega | exact ne_true_of_eq_false (by assumption))])
     have e : pack17 d s t s' t' = (zero6, 2) := by
      unfold pack17
      rw [hany]
      dsimp only
      repeat (first | rw [if_pos (by first | assumption | omega | exact ne_true_of_eq_false (by assumption))] | rw [if_neg (by first | assumption | omega | exact ne_true_of_eq_false (by assumption))])
     have b348 := bt hb46 hb54
     have b349 := bt b348 hb88
     have b350 := bt b349 hb95
     have l351 := lq b349 ge93
     have b352 := b350.trans (hb100.mono l351)
     have b353 := bt b352 hb109
     have b354 := bt b353 hb148
     have b355 := bt b354 hb159
     have l356 := lq b354 ge157
     have b357 := b355.trans (hb164.mono l356)
     have b358 := bt b357 hb184
     have b359 := bt b358 hb195
     have l360 := lq b358 ge193
     have b361 := b359.trans (hb200.mono l360)
     have b362 := bt b361 hb221
     have b363 := b362.trans (hb231.mono l351)
     have b364 := bt b363 hb263
     have has365 := hg31.to b364
     have b366 := bt b145 hb148
     have b367 := bt b366 hb159
     have l368 := lq b366 ge157
     have b369 := b367.trans (hb164.mono l368)
     have b370 := bt b369 hb184
     have b371 := bt b370 hb195
     have l372 := lq b370 ge193
     have b373 := b371.trans (hb200.mono l372)
     have b374 := bt b373 hb221
     have b375 := b374.trans (hb231.mono l143)
     have b376 := bt b375 hb263
     have l377 := lq b42 ge32
     have b378 := bt hb34 hb46
     have b379 := bt b378 hb54
     have b380 := bt b379 hb88
     have b381 := bt b380 hb95
     have l382 := lq b380 ge93
     have b383 := b381.trans (hb100.mono l382)
     have b384 := bt b383 hb109
     have b385 := bt b384 hb148
     have b386 := bt b385 hb159
     have l387 := lq b385 ge157
     have b388 := b386.trans (hb164.mono l387)
     have b389 := bt b388 hb184
     have b390 := bt b389 hb195
     have l391 := lq b389 ge193
     have b392 := b390.trans (hb200.mono l391)
     have b393 := bt b392 hb221
     have b394 := b393.trans (hb231.mono l382)
     have b395 := bt b394 hb263
     have has396 := hg24.to b395
     refine leave17_fault has365 ?_
     intro W397 hE398 hb399 hk400
     exact ⟨_, res_cc Try.results10 rfl ((hk400 _ _ (by omega) has396).load (P := Try.prog) 36 Try.underlying36 rfl (by kernel_rfl)) rfl (load_errno hE398), ⟨pZ6, by rw [e]; rfl, by rw [e]; exact own6_zero _ _⟩, b376.trans (hb399.mono l377)⟩
    refine lz (ow_panic [{ v := .iface 111 (.agg #[.int .i64 ME]), recovered := false }] (fun w' => W197 = w') (by exact xk Try.func33) (must17_yes ME q202 W197) ?_)
    rintro _ rfl
    have hany : any17 d s t s' t' = ([], ME) := by
     unfold any17 icmp17
     simp only [hM, hPE, hMR, hME]
     repeat (first | rw [if_pos (by first | assumption | omega | exact ne_true_of_eq_false (by assumption))] | rw [if_neg (by first | assumption | omega | exact ne_true_of_eq_false (by assumption))])
    have e : pack17 d s t s' t' = (zero6, ME) := by
     unfold pack17
     rw [hany]
     dsimp only
     repeat (first | rw [if_pos (by first | assumption | omega | exact ne_true_of_eq_false (by assumption))] | rw [if_neg (by first | assumption | omega | exact ne_true_of_eq_false (by assumption))])
    have b401 := bt hb46 hb54
    have b402 := bt b401 hb88
    have b403 := bt b402 hb95
    have l404 := lq b402 ge93
    have b405 := b403.trans (hb100.mono l404)
    have b406 := bt b405 hb109
    have b407 := bt b406 hb148
    have b408 := bt b407 hb159
    have l409 := lq b407 ge157
    have b410 := b408.trans (hb164.mono l409)
    have b411 := bt b410 hb184
    have b412 := bt b411 hb195
    have l413 := lq b411 ge193
    have b414 := b412.trans (hb200.mono l413)
    have has415 := hg31.to b414
    have b416 := bt b145 hb148
    have b417 := bt b416 hb159
    have l418 := lq b416 ge157
    have b419 := b417.trans (hb164.mono l418)
    have b420 := bt b419 hb184
    have b421 := bt b420 hb195
    have l422 := lq b420 ge193
    have b423 := b421.trans (hb200.mono l422)
    have l424 := lq b42 ge32
    have b425 := bt hb34 hb46
    have b426 := bt b425 hb54
    have b427 := bt b426 hb88
    have b428 := bt b427 hb95
    have l429 := lq b427 ge93
    have b430 := b428.trans (hb100.mono l429)
    have b431 := bt b430 hb109
    have b432 := bt b431 hb148
    have b433 := bt b432 hb159
    have l434 := lq b432 ge157
    have b435 := b433.trans (hb164.mono l434)
    have b436 := bt b435 hb184
    have b437 := bt b436 hb195
    have l438 := lq b436 ge193
    have b439 := b437.trans (hb200.mono l438)
    have has440 := hg24.to b439
    refine leave17_fault has415 ?_
    intro W441 hE442 hb443 hk444
    exact ⟨_, res_cc Try.results10 rfl ((hk444 _ _ (by omega) has440).load (P := Try.prog) 36 Try.underlying36 rfl (by kernel_rfl)) rfl (load_errno hE442), ⟨pZ6, by rw [e]; rfl, by rw [e]; exact own6_zero _ _⟩, b423.trans (hb443.mono l424)⟩
   refine lz (ow_panic [{ v := .iface 111 (.agg #[.int .i64 PE]), recovered := false }] (fun w' => W161 = w') (by exact xk Try.func33) (must17_yes PE q166 W161) ?_)
   rintro _ rfl
   have hany : any17 d s t s' t' = ([], PE) := by
    unfold any17 icmp17
    simp only [hM, hPE, hMR, hME]
    repeat (first | rw [if_pos (by first | assumption | omega | exact ne_true_of_eq_false (by assumption))] | rw [if_neg (by first | assumption | omega | exact ne_true_of_eq_false (by assumption))])
   have e : pack17 d s t s' t' = (zero6, PE) := by
    unfold pack17
    rw [hany]
    dsimp only
    repeat (first | rw [if_pos (by first | assumption | omega | exact ne_true_of_eq_false (by assumption))] | rw [if_neg (by first | assumption | omega | exact ne_true_of_eq_false (by assumption))])
   have b445 := bt hb46 hb54
   have b446 := bt b445 hb88
   have b447 := bt b446 hb95
   have l448 := lq b446 ge93
   have b449 := b447.trans (hb100.mono l448)
   have b450 := bt b449 hb109
   have b451 := bt b450 hb148
   have b452 := bt b451 hb159
   have l453 := lq b451 ge157
   have b454 := b452.trans (hb164.mono l453)
   have has455 := hg31.to b454
   have b456 := bt b145 hb148
   have b457 := bt b456 hb159
   have l458 := lq b456 ge157
   have b459 := b457.trans (hb164.mono l458)
   have l460 := lq b42 ge32
   have b461 := bt hb34 hb46
   have b462 := bt b461 hb54
   have b463 := bt b462 hb88
   have b464 := bt b463 hb95
   have l465 := lq b463 ge93
   have b466 := b464.trans (hb100.mono l465)
   have b467 := bt b466 hb109
   have b468 := bt b467 hb148
   have b469 := bt b468 hb159
   have l470 := lq b468 ge157
   have b471 := b469.trans (hb164.mono l470)
   have has472 := hg24.to b471
   refine leave17_fault has455 ?_
   intro W473 hE474 hb475 hk476
   exact ⟨_, res_cc Try.results10 rfl ((hk476 _ _ (by omega) has472).load (P := Try.prog) 36 Try.underlying36 rfl (by kernel_rfl)) rfl (load_errno hE474), ⟨pZ6, by rw [e]; rfl, by rw [e]; exact own6_zero _ _⟩, b459.trans (hb475.mono l460)⟩
  refine lv (.bool false) (by exact yqn) ?_
  simp only [lay]
  refine wn ?_
  refine wp_cond_false (by exact rfl) ?_
  refine wp_region_lit ?_
  refine lv (.agg (d.cells p)) (by exact xo (has106.load (P := Try.prog) 27 Try.underlying27 rfl (by kernel_rfl))) ?_
  simp only [lay]
  have b477 := bt b85 hb88
  have b478 := bt b477 hb95
  have l479 := lq b477 ge93
  have b480 := b478.trans (hb100.mono l479)
  have has481 := hg10.to b480
  refine lv (.agg (ends6 s t)) (by exact xo (has481.load (P := Try.prog) 31 Try.underlying31 rfl (by kernel_rfl))) ?_
  simp only [lay]
  by_cases q482 : BE = 0
  case pos =>
   have b483 := bt b51 hb54
   have b484 := bt b483 hb88
   have b485 := bt b484 hb95
   have l486 := lq b484 ge93
   have b487 := b485.trans (hb100.mono l486)
   have rd488 := hR.to b487
   refine lz (ow_call (fun v w' => OwnB w' W97.heap.size v BL ∧ Below W97.heap.size W97 w') (by exact xk Try.func42) ((body17_any d p s t hE W97 rd488 (by omega)).mono fun e w' h => (by obtain ⟨v, hv, ho⟩ := h.1.1 (by rw [hBE]; exact q482); rw [hBL] at ho; exact ⟨v, hv, ho, h.2⟩)) ?_)
   rintro v491 W489 ⟨hO492, hb490⟩
   have z493 := hb490.size
   obtain ⟨A494, c495, rfl, y496⟩ := hO492.by_
   simp only [lay]
   refine lv (.pointer (some ⟨g90, 41, none⟩)) (by exact xf 41 0 Try.underlying36) ?_
   simp only [lay]
   have has501 := hg98.to hb490
   refine lz (ow_st1 25 (.tmp 63) (.tmp 62) g90 41 (.slice A494 BL.length c495) _ #[.int .u8 ((head17 d s t []).cls), .int .u32 ((head17 d s t []).lab), .int .u8 ((head17 d s t []).hop), .int .u8 ((head17 d s t []).src.getD 0 0), .int .u8 ((head17 d s t []).src.getD 1 0), .int .u8 ((head17 d s t []).src.getD 2 0), .int .u8 ((head17 d s t []).src.getD 3 0), .int .u8 ((head17 d s t []).src.getD 4 0), .int .u8 ((head17 d s t []).src.getD 5 0), .int .u8 ((head17 d s t []).src.getD 6 0), .int .u8 ((head17 d s t []).src.getD 7 0), .int .u8 ((head17 d s t []).src.getD 8 0), .int .u8 ((head17 d s t []).src.getD 9 0), .int .u8 ((head17 d s t []).src.getD 10 0), .int .u8 ((head17 d s t []).src.getD 11 0), .int .u8 ((head17 d s t []).src.getD 12 0), .int .u8 ((head17 d s t []).src.getD 13 0), .int .u8 ((head17 d s t []).src.getD 14 0), .int .u8 ((head17 d s t []).src.getD 15 0), .int .u8 ((head17 d s t []).dst.getD 0 0), .int .u8 ((head17 d s t []).dst.getD 1 0), .int .u8 ((head17 d s t []).dst.getD 2 0), .int .u8 ((head17 d s t []).dst.getD 3 0), .int .u8 ((head17 d s t []).dst.getD 4 0), .int .u8 ((head17 d s t []).dst.getD 5 0), .int .u8 ((head17 d s t []).dst.getD 6 0), .int .u8 ((head17 d s t []).dst.getD 7 0), .int .u8 ((head17 d s t []).dst.getD 8 0), .int .u8 ((head17 d s t []).dst.getD 9 0), .int .u8 ((head17 d s t []).dst.getD 10 0), .int .u8 ((head17 d s t []).dst.getD 11 0), .int .u8 ((head17 d s t []).dst.getD 12 0), .int .u8 ((head17 d s t []).dst.getD 13 0), .int .u8 ((head17 d s t []).dst.getD 14 0), .int .u8 ((head17 d s t []).dst.getD 15 0), .slice pZ6.hA ((head17 d s t []).hs.length) pZ6.hc, .bool ((head17 d s t []).frag), .int .u32 ((head17 d s t []).id), .int .i64 ((head17 d s t []).off), .bool ((head17 d s t []).more), .int .u8 ((head17 d s t []).pro), .slice A494 BL.length c495] _ rfl (by exact rfl) (by exact rfl) rfl (by kernel_rfl) has501 rfl rfl (by kernel_rfl) ?_)
   intro W497 hg498 bs499 hb500
   have z502 := hb500.size
   have own503 := hO492.but6 bs499 (by omega)
   simp only [lay]
   refine wn ?_
   refine wp_sr ?_
   refine lv (.agg #[.int .u8 ((head17 d s t []).cls), .int .u32 ((head17 d s t []).lab), .int .u8 ((head17 d s t []).hop), .int .u8 ((head17 d s t []).src.getD 0 0), .int .u8 ((head17 d s t []).src.getD 1 0), .int .u8 ((head17 d s t []).src.getD 2 0), .int .u8 ((head17 d s t []).src.getD 3 0), .int .u8 ((head17 d s t []).src.getD 4 0), .int .u8 ((head17 d s t []).src.getD 5 0), .int .u8 ((head17 d s t []).src.getD 6 0), .int .u8 ((head17 d s t []).src.getD 7 0), .int .u8 ((head17 d s t []).src.getD 8 0), .int .u8 ((head17 d s t []).src.getD 9 0), .int .u8 ((head17 d s t []).src.getD 10 0), .int .u8 ((head17 d s t []).src.getD 11 0), .int .u8 ((head17 d s t []).src.getD 12 0), .int .u8 ((head17 d s t []).src.getD 13 0), .int .u8 ((head17 d s t []).src.getD 14 0), .int .u8 ((head17 d s t []).src.getD 15 0), .int .u8 ((head17 d s t []).dst.getD 0 0), .int .u8 ((head17 d s t []).dst.getD 1 0), .int .u8 ((head17 d s t []).dst.getD 2 0), .int .u8 ((head17 d s t []).dst.getD 3 0), .int .u8 ((head17 d s t []).dst.getD 4 0), .int .u8 ((head17 d s t []).dst.getD 5 0), .int .u8 ((head17 d s t []).dst.getD 6 0), .int .u8 ((head17 d s t []).dst.getD 7 0), .int .u8 ((head17 d s t []).dst.getD 8 0), .int .u8 ((head17 d s t []).dst.getD 9 0), .int .u8 ((head17 d s t []).dst.getD 10 0), .int .u8 ((head17 d s t []).dst.getD 11 0), .int .u8 ((head17 d s t []).dst.getD 12 0), .int .u8 ((head17 d s t []).dst.getD 13 0), .int .u8 ((head17 d s t []).dst.getD 14 0), .int .u8 ((head17 d s t []).dst.getD 15 0), .slice pZ6.hA ((head17 d s t []).hs.length) pZ6.hc, .bool ((head17 d s t []).frag), .int .u32 ((head17 d s t []).id), .int .i64 ((head17 d s t []).off), .bool ((head17 d s t []).more), .int .u8 ((head17 d s t []).pro), .slice A494 BL.length c495]) (by exact xo (hg498.load (P := Try.prog) 36 Try.underlying36 rfl (by kernel_rfl))) ?_
   simp only [lay]
   refine lz (ow_call (fun v w' => v = .int .i64 ((head17 d s t BL).check) ∧ Below W497.heap.size W497 w') (by exact xk Try.func43) (check6_x (head17_rd hR.ok hE (A := A494) (c := c495) (own_byS own503))) ?_)
   rintro _ W504 ⟨rfl, hb505⟩
   have z506 := hb505.size
   simp only [lay]
   by_cases q507 : (head17 d s t BL).check = 0
   case pos =>
    refine lv (.bool false) (by exact neq_int_eq (by exact rfl) (by exact rfl) (by exact rfl) (by first | assumption | omega)) ?_
    simp only [lay]
    refine lz (ow_same (.tuple #[]) (by exact xk Try.func35) (when17_no 2 W504) ?_)
    simp only [lay]
    refine wn ?_
    refine wp_sr ?_
    have has508 := hg498.to hb505
    refine lv (.agg #[.int .u8 ((head17 d s t []).cls), .int .u32 ((head17 d s t []).lab), .int .u8 ((head17 d s t []).hop), .int .u8 ((head17 d s t []).src.getD 0 0), .int .u8 ((head17 d s t []).src.getD 1 0), .int .u8 ((head17 d s t []).src.getD 2 0), .int .u8 ((head17 d s t []).src.getD 3 0), .int .u8 ((head17 d s t []).src.getD 4 0), .int .u8 ((head17 d s t []).src.getD 5 0), .int .u8 ((head17 d s t []).src.getD 6 0), .int .u8 ((head17 d s t []).src.getD 7 0), .int .u8 ((head17 d s t []).src.getD 8 0), .int .u8 ((head17 d s t []).src.getD 9 0), .int .u8 ((head17 d s t []).src.getD 10 0), .int .u8 ((head17 d s t []).src.getD 11 0), .int .u8 ((head17 d s t []).src.getD 12 0), .int .u8 ((head17 d s t []).src.getD 13 0), .int .u8 ((head17 d s t []).src.getD 14 0), .int .u8 ((head17 d s t []).src.getD 15 0), .int .u8 ((head17 d s t []).dst.getD 0 0), .int .u8 ((head17 d s t []).dst.getD 1 0), .int .u8 ((head17 d s t []).dst.getD 2 0), .int .u8 ((head17 d s t []).dst.getD 3 0), .int .u8 ((head17 d s t []).dst.getD 4 0), .int .u8 ((head17 d s t []).dst.getD 5 0), .int .u8 ((head17 d s t []).dst.getD 6 0), .int .u8 ((head17 d s t []).dst.getD 7 0), .int .u8 ((head17 d s t []).dst.getD 8 0), .int .u8 ((head17 d s t []).dst.getD 9 0), .int .u8 ((head17 d s t []).dst.getD 10 0), .int .u8 ((head17 d s t []).dst.getD 11 0), .int .u8 ((head17 d s t []).dst.getD 12 0), .int .u8 ((head17 d s t []).dst.getD 13 0), .int .u8 ((head17 d s t []).dst.getD 14 0), .int .u8 ((head17 d s t []).dst.getD 15 0), .slice pZ6.hA ((head17 d s t []).hs.length) pZ6.hc, .bool ((head17 d s t []).frag), .int .u32 ((head17 d s t []).id), .int .i64 ((head17 d s t []).off), .bool ((head17 d s t []).more), .int .u8 ((head17 d s t []).pro), .slice A494 BL.length c495]) (by exact xo (has508.load (P := Try.prog) 36 Try.underlying36 rfl (by kernel_rfl))) ?_
    simp only [lay]
    have b513 := bt hb34 hb46
    have b514 := bt b513 hb54
    have b515 := bt b514 hb88
    have b516 := bt b515 hb95
    have l517 := lq b515 ge93
    have b518 := b516.trans (hb100.mono l517)
    have b519 := bt b518 hb490
    have b520 := b519.trans (hb500.mono l517)
    have b521 := bt b520 hb505
    have has522 := hg24.to b521
    refine lz (ow_st 36 (.tmp 6) (.tmp 68) g22 #[.int .u8 ((head17 d s t []).cls), .int .u32 ((head17 d s t []).lab), .int .u8 ((head17 d s t []).hop), .int .u8 ((head17 d s t []).src.getD 0 0), .int .u8 ((head17 d s t []).src.getD 1 0), .int .u8 ((head17 d s t []).src.getD 2 0), .int .u8 ((head17 d s t []).src.getD 3 0), .int .u8 ((head17 d s t []).src.getD 4 0), .int .u8 ((head17 d s t []).src.getD 5 0), .int .u8 ((head17 d s t []).src.getD 6 0), .int .u8 ((head17 d s t []).src.getD 7 0), .int .u8 ((head17 d s t []).src.getD 8 0), .int .u8 ((head17 d s t []).src.getD 9 0), .int .u8 ((head17 d s t []).src.getD 10 0), .int .u8 ((head17 d s t []).src.getD 11 0), .int .u8 ((head17 d s t []).src.getD 12 0), .int .u8 ((head17 d s t []).src.getD 13 0), .int .u8 ((head17 d s t []).src.getD 14 0), .int .u8 ((head17 d s t []).src.getD 15 0), .int .u8 ((head17 d s t []).dst.getD 0 0), .int .u8 ((head17 d s t []).dst.getD 1 0), .int .u8 ((head17 d s t []).dst.getD 2 0), .int .u8 ((head17 d s t []).dst.getD 3 0), .int .u8 ((head17 d s t []).dst.getD 4 0), .int .u8 ((head17 d s t []).dst.getD 5 0), .int .u8 ((head17 d s t []).dst.getD 6 0), .int .u8 ((head17 d s t []).dst.getD 7 0), .int .u8 ((head17 d s t []).dst.getD 8 0), .int .u8 ((head17 d s t []).dst.getD 9 0), .int .u8 ((head17 d s t []).dst.getD 10 0), .int .u8 ((head17 d s t []).dst.getD 11 0), .int .u8 ((head17 d s t []).dst.getD 12 0), .int .u8 ((head17 d s t []).dst.getD 13 0), .int .u8 ((head17 d s t []).dst.getD 14 0), .int .u8 ((head17 d s t []).dst.getD 15 0), .slice pZ6.hA ((head17 d s t []).hs.length) pZ6.hc, .bool ((head17 d s t []).frag), .int .u32 ((head17 d s t []).id), .int .i64 ((head17 d s t []).off), .bool ((head17 d s t []).more), .int .u8 ((head17 d s t []).pro), .slice A494 BL.length c495] _ _ rfl (by exact rfl) (by exact rfl) has522 (by kernel_rfl) rfl (by kernel_rfl) ?_)
    intro W509 hg510 bs511 hb512
    have b523 := bt hb46 hb54
    have b524 := bt b523 hb88
    have b525 := bt b524 hb95
    have l526 := lq b524 ge93
    have b527 := b525.trans (hb100.mono l526)
    have b528 := bt b527 hb490
    have b529 := b528.trans (hb500.mono l526)
    have b530 := bt b529 hb505
    have has531 := hg31.to b530
    have own532 := own503.to hb505
    have z533 := hb512.size
    have has534 := has531.but6 bs511 (by omega)
    have own535 := own532.but6 bs511 (by omega)
    have has536 := has508.but6 bs511 (by omega)
    simp only [lay]
    refine lz (ow_st1 37 (.tmp 7) (.const (.int .i64 0)) g29 0 (.int .i64 0) _ #[.int .i64 0] _ rfl (by exact rfl) (by exact rfl) rfl (by kernel_rfl) has534 rfl rfl (by kernel_rfl) ?_)
    intro W537 hg538 bs539 hb540
    have z541 := hb540.size
    have own542 := own535.but6 bs539 (by omega)
    have has543 := has536.but6 bs539 (by omega)
    have has544 := hg510.but6 bs539 (by omega)
    simp only [lay]
    refine wn ?_
    refine wp_ret ?_
    try simp only [Exit.then]
    have hany : any17 d s t s' t' = (BL, 0) := by
     unfold any17
     rw [if_neg (by assumption)]
     exact Prod.ext hBL (hBE.trans (by assumption))
    have e : pack17 d s t s' t' = (head17 d s t (BL), 0) := by
     unfold pack17
     rw [hany]
     dsimp only
     repeat (first | rw [if_pos (by first | assumption | omega | exact ne_true_of_eq_false (by assumption))] | rw [if_neg (by first | assumption | omega | exact ne_true_of_eq_false (by assumption))])
    have h6 : Has _ _ (.cells ((head17 d s t (BL)).cells (pB6 A494 c495)) 36 (0, 0)) := has544
    have b545 := bt b487 hb490
    have b546 := b545.trans (hb500.mono l486)
    have b547 := bt b546 hb505
    have l548 := lq b41 ge25
    have b549 := b547.trans (hb512.mono l548)
    have l550 := lq b42 ge32
    have b551 := b549.trans (hb540.mono l550)
    exact leave17_ok (res_cc Try.results10 rfl (h6.load (P := Try.prog) 36 Try.underlying36 rfl (by kernel_rfl)) rfl (load_errno hg538)) ⟨⟨_, by rw [e], by rw [e]; exact head17_own hR.ok hE (own542.more b487.size)⟩, b551⟩
   refine lv (.bool true) (by exact neq_int_ne (by exact rfl) (by exact rfl) (by exact rfl) (by first | assumption | omega)) ?_
   simp only [lay]
   refine lz (ow_panic [{ v := .iface 111 (.agg #[.int .i64 2]), recovered := false }] (fun w' => W504 = w') (by exact xk Try.func35) (when17_yes 2 W504) ?_)
   rintro _ rfl
   have hany : any17 d s t s' t' = (BL, 0) := by
    unfold any17
    rw [if_neg (by assumption)]
    exact Prod.ext hBL (hBE.trans (by assumption))
   have e : pack17 d s t s' t' = (zero6, 2) := by
    unfold pack17
    rw [hany]
    dsimp only
    repeat (first | rw [if_pos (by first | assumption | omega | exact ne_true_of_eq_false (by assumption))] | rw [if_neg (by first | assumption | omega | exact ne_true_of_eq_false (by assumption))])
   have b552 := bt hb46 hb54
   have b553 := bt b552 hb88
   have b554 := bt b553 hb95
   have l555 := lq b553 ge93
   have b556 := b554.trans (hb100.mono l555)
   have b557 := bt b556 hb490
   have b558 := b557.trans (hb500.mono l555)
   have b559 := bt b558 hb505
   have has560 := hg31.to b559
   have b561 := bt b487 hb490
   have b562 := b561.trans (hb500.mono l486)
   have b563 := bt b562 hb505
   have l564 := lq b42 ge32
   have b565 := bt hb34 hb46
   have b566 := bt b565 hb54
   have b567 := bt b566 hb88
   have b568 := bt b567 hb95
   have l569 := lq b567 ge93
   have b570 := b568.trans (hb100.mono l569)
   have b571 := bt b570 hb490
   have b572 := b571.trans (hb500.mono l569)
   have b573 := bt b572 hb505
   have has574 := hg24.to b573
   refine leave17_fault has560 ?_
   intro W575 hE576 hb577 hk578
   exact ⟨_, res_cc Try.results10 rfl ((hk578 _ _ (by omega) has574).load (P := Try.prog) 36 Try.underlying36 rfl (by kernel_rfl)) rfl (load_errno hE576), ⟨pZ6, by rw [e]; rfl, by rw [e]; exact own6_zero _ _⟩, b563.trans (hb577.mono l564)⟩
  have b579 := bt b51 hb54
  have b580 := bt b579 hb88
  have b581 := bt b580 hb95
  have l582 := lq b580 ge93
  have b583 := b581.trans (hb100.mono l582)
  have rd584 := hR.to b583
  refine lz (ow_panic [{ v := .iface 111 (.agg #[.int .i64 BE]), recovered := false }] (fun w' => Below W97.heap.size W97 w') (by exact xk Try.func42) ((body17_any d p s t hE W97 rd584 (by omega)).mono fun e w' h => ⟨by rw [← hBE]; exact h.1.2 (by rw [hBE]; exact q482), h.2⟩) ?_)
  rintro W585 hb586
  have z587 := hb586.size
  have hany : any17 d s t s' t' = ([], BE) := by
   unfold any17
   rw [if_neg (by assumption)]
   exact Prod.ext (bad17_nil d s t (by rw [hBE]; assumption)) hBE
  have e : pack17 d s t s' t' = (zero6, BE) := by
   unfold pack17
   rw [hany]
   dsimp only
   repeat (first | rw [if_pos (by first | assumption | omega | exact ne_true_of_eq_false (by assumption))] | rw [if_neg (by first | assumption | omega | exact ne_true_of_eq_false (by assumption))])
  have b588 := bt hb46 hb54
  have b589 := bt b588 hb88
  have b590 := bt b589 hb95
  have l591 := lq b589 ge93
  have b592 := b590.trans (hb100.mono l591)
  have b593 := bt b592 hb586
  have has594 := hg31.to b593
  have b595 := bt b583 hb586
  have l596 := lq b42 ge32
  have b597 := bt hb34 hb46
  have b598 := bt b597 hb54
  have b599 := bt b598 hb88
  have b600 := bt b599 hb95
  have l601 := lq b599 ge93
  have b602 := b600.trans (hb100.mono l601)
  have b603 := bt b602 hb586
  have has604 := hg24.to b603
  refine leave17_fault has594 ?_
  intro W605 hE606 hb607 hk608
  exact ⟨_, res_cc Try.results10 rfl ((hk608 _ _ (by omega) has604).load (P := Try.prog) 36 Try.underlying36 rfl (by kernel_rfl)) rfl (load_errno hE606), ⟨pZ6, by rw [e]; rfl, by rw [e]; exact own6_zero _ _⟩, b595.trans (hb607.mono l596)⟩
 refine lz (ow_panic [{ v := .iface 111 (.agg #[.int .i64 d.check]), recovered := false }] (fun w' => W45 = w') (by exact xk Try.func33) (must17_yes d.check q48 W45) ?_)
 rintro _ rfl
 have e : pack17 d s t s' t' = (zero6, d.check) := by
  unfold pack17
  repeat (first | rw [if_pos (by first | assumption | omega | exact ne_true_of_eq_false (by assumption))] | rw [if_neg (by first | assumption | omega | exact ne_true_of_eq_false (by assumption))])
 have has609 := hg31.to hb46
 have b610 := bt b43 hb46
 have l611 := lq b42 ge32
 have b612 := bt hb34 hb46
 have has613 := hg24.to b612
 refine leave17_fault has609 ?_
 intro W614 hE615 hb616 hk617
 exact ⟨_, res_cc Try.results10 rfl ((hk617 _ _ (by omega) has613).load (P := Try.prog) 36 Try.underlying36 rfl (by kernel_rfl)) rfl (load_errno hE615), ⟨pZ6, by rw [e]; rfl, by rw [e]; exact own6_zero _ _⟩, b610.trans (hb616.mono l611)⟩
end Go.Proofs.Ytijnifbpbgckgaa
