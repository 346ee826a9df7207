/-
  Lemmas and walks for the row of TofourPackets,TofourMessages,TofourInside (part 30 of 42).
-/
import Derived.Test.YtjnphelfloiadaaFpAG
import Derived.Test.YtjnphelfloiadaaFpBC
set_option linter.unusedVariables false
set_option linter.unusedSimpArgs false
namespace Go.Proofs.Ytjnphelfloiadaa
open Go.RowKit Go.Shelf
attribute [local irreducible] wpList Code.wp Oper.wp wpOp wpAnyH

theorem two17_set0 (l : List Int) (x : Int) : two17 (l.set 0 x) 2 = two17 l 2 := by
 unfold two17
 rw [getD_set_ne (by decide), getD_set_ne (by decide)]
theorem told18_len (d : D6) (s t : List Int) (n : Int) : (told18 d s t n).length = d.bl.length := by
 unfold told18
 repeat' split
 all_goals simp [carry17_len, put17_len]

set_option maxRecDepth 100000 in
set_option maxHeartbeats 8000000 in
theorem told18_any (d : D6) (p : W6) (s t : List Int) (hE : E4ok s t) (n : Int) (hn : 0 ≤ n ∧ n < 65536) (w : World) (hR : Rd6 w.heap.size w d p) (hm : d.bl.length ≤ 65535) :
  Calls Try.prog 54 #[.agg (d.cells p), .agg (e4c s t), .int .i64 n] w fun e w' => ∃ v, e = .returned v ∧ OwnB w' w.heap.size v (told18 d s t n) ∧ Below w.heap.size w w' := by
 have sL := hE.sL
 have tL := hE.tL
 have dsL := hR.ok.srcL
 have ddL := hR.ok.dstL
 have yb6 := hR.body
 have hlb := yb6.len
 go_enter Try.func54, Try.ntmps54
 refine wp_sr ?_
 refine lz (ow_box 28 (.tmp 0) _ rfl rfl ?_)
 intro g1 W2 hg3 ge4 sz5 hb6
 have z7 := hb6.size
 simp only [lay]
 refine lz (ow_box 32 (.tmp 1) _ rfl rfl ?_)
 intro g8 W9 hg10 ge11 sz12 hb13
 have z14 := hb13.size
 simp only [lay]
 refine lv (.slice none 0 0) (by exact xa) ?_
 simp only [lay]
 refine wn ?_
 refine wp_sr ?_
 refine lv (pq9 g1 41) (by exact xf 41 0 Try.underlying28) ?_
 simp only [lay]
 refine lv (.slice p.bA d.bl.length p.bc) (by exact xc Try.underlying26 ((hg3.to hb13).cell 41 rfl)) ?_
 simp only [lay]
 have b16 := bt hb6 hb13
 have by17 := yb6.to b16
 refine lz (ow_call (fun v w' => OwnB w' W9.heap.size v d.bl ∧ Below W9.heap.size W9 w') (by exact xk Try.func46) (clone_n _ _ _ d.bl W9 by17 (by omega)) ?_)
 rintro v20 W18 ⟨hO21, hb19⟩
 have z22 := hb19.size
 obtain ⟨A23, c24, rfl, y25⟩ := hO21.by_
 simp only [lay]
 refine lv (.slice A23 d.bl.length c24) (by exact xa) ?_
 simp only [lay]
 refine wn ?_
 refine wp_seq ?_
 refine wp_sr ?_
 refine lv (pq9 g1 38) (by exact xf 38 0 Try.underlying28) ?_
 simp only [lay]
 have b26 := bt hb13 hb19
 have has27 := hg3.to b26
 refine lv (.int .i64 d.off) (by exact xc Try.underlying3 (has27.cell 38 rfl)) ?_
 simp only [lay]
 by_cases q28 : d.off > 0
 case pos =>
  refine lv (.bool true) (by exact ex_gtr (by rfl) (by rfl) (by rfl) (decide_eq_true (by first|assumption|omega|decide))) ?_
  simp only [lay]
  refine wn ?_
  refine cT9 ?_
  refine wp_sr ?_
  refine lv (.slice A23 d.bl.length c24) (by exact xm) ?_
  refine lv (.slice A23 d.bl.length c24) (by exact xa) ?_
  simp only [lay]
  refine wn ?_
  refine wp_ret ?_
  try simp only [Exit.then]
  have e : told18 d s t n = d.bl := by
   unfold told18
   repeat (first|rw [if_pos (by first|assumption|omega)]|rw [if_neg (by first|assumption|omega|exact ne_true_of_eq_false (by assumption))])
  exact bodyPost_ret (res_one Try.results54 rfl) rfl ⟨_, rfl, by rw [e]; exact (hO21.more b16.size), (bt b16 hb19)⟩
 refine lv (.bool false) (by exact ex_gtr (by rfl) (by rfl) (by rfl) (decide_eq_false (by first|assumption|omega|decide))) ?_
 simp only [lay]
 refine wn ?_
 refine cF9 ?_
 refine wp_skip ?_
 change Code.wp _ _ _ _ _
 refine wp_seq ?_
 refine wp_block ?_
 refine wp_sr ?_
 refine lv (pq9 g1 40) (by exact xf 40 0 Try.underlying28) ?_
 refine lv (.int .u8 d.pro) (by exact xc Try.underlying5 (has27.cell 40 rfl)) ?_
 simp only [lay]
 by_cases q30 : d.pro = 6
 case pos =>
  refine lv (.bool true) (by exact yq) ?_
  refine lv (.bool true) (by exact xm) ?_
  refine lv (.slice A23 d.bl.length c24) (by exact xm) ?_
  refine lv (.int .i64 (d.bl.length : Int)) (by exact xz Try.underlying26) ?_
  simp only [lay]
  by_cases q31 : (d.bl.length : Int) ≥ 18
  case pos =>
   refine lv (.bool true) (by exact ex_geq (by rfl) (by rfl) (by rfl) (decide_eq_true (by first|assumption|omega|decide))) ?_
   refine lv (.bool true) (by exact xp (b := true)) ?_
   refine lv (.bool true) (by exact xa) ?_
   simp only [lay]
   refine wn ?_
   refine cT9 ?_
   refine wp_region_lit ?_
   refine lv (.slice A23 d.bl.length c24) (by exact xm) ?_
   refine lv (.agg (d.cells p)) (by exact xo (has27.load (P := Try.prog) 28 Try.underlying28 rfl (by kernel_rfl))) ?_
   simp only [lay]
   refine lv (.agg (e4c s t)) (by exact xo ((hg10.to hb19).load (P := Try.prog) 32 Try.underlying32 rfl (by kernel_rfl))) ?_
   simp only [lay]
   obtain ⟨g33, rfl, h34, h35⟩ := own_form hO21 (by first|omega|(simp only [List.length_append]; omega) | simp [D4.src])
   have b40 := bt b16 hb19
   have rd41 := hR.to b40
   refine lz (ow_call (fun v w' => v = .tuple #[] ∧ OwnB w' W9.heap.size (sq9 g33 0 d.bl.length c24) (carry17 (d.pro == 17) (from18 d) (to18 s t) d.bl 16) ∧ ButG g33 W18 w' ∧ Below g33 W18 w') (by exact xk Try.func71) ((carry18_any d p s t hE 16 g33 d.bl.length c24 _ W9 W18 hb19 hO21 h34 (by omega) (by omega) (by omega) rd41).mono fun e w' h => ⟨_, h.1, rfl, h.2⟩) ?_)
   rintro _ W38 ⟨rfl, hO37, bs36, hb39⟩
   have z42 := hb39.size
   simp only [lay]
   refine wn ?_
   refine wp_sr ?_
   refine lv (sq9 g33 0 d.bl.length c24) (by exact xm) ?_
   refine lv (sq9 g33 0 d.bl.length c24) (by exact xa) ?_
   simp only [lay]
   refine wn ?_
   refine wp_ret ?_
   try simp only [Exit.then]
   have hu : (d.pro == 17) = false := by rw [show d.pro = 6 from by assumption]; rfl
   have e : told18 d s t n = carry17 (d.pro == 17) (from18 d) (to18 s t) d.bl 16 := by
    unfold told18
    repeat (first|rw [if_pos (by first|assumption|omega)]|rw [if_neg (by first|assumption|omega|exact ne_true_of_eq_false (by assumption))])
    rw [hu]
   exact bodyPost_ret (res_one Try.results54 rfl) rfl ⟨_, rfl, by rw [e]; exact (hO37.more b16.size), (b40.trans (hb39.mono (Nat.le_trans b16.size h34)))⟩
  refine lv (.bool false) (by exact ex_geq (by rfl) (by rfl) (by rfl) (decide_eq_false (by first|assumption|omega|decide))) ?_
  refine lv (.bool false) (by exact xp (b := true)) ?_
  refine lv (.bool false) (by exact xa) ?_
  simp only [lay]
  refine wn ?_
  refine cF9 ?_
  refine wp_sr ?_
  refine lv (pq9 g1 40) (by exact xf 40 0 Try.underlying28) ?_
  refine lv (.int .u8 d.pro) (by exact xc Try.underlying5 (has27.cell 40 rfl)) ?_
  refine lv (.bool false) (by exact yqn) ?_
  refine lv (.bool false) (by exact xm) ?_
  simp only [lay]
  refine lzn ?_
  refine lzn ?_
  refine lzn ?_
  refine lv (.bool false) (by exact xp (b := false)) ?_
  simp only [lay]
  refine lv (.bool false) (by exact xm) ?_
  refine lzn ?_
  refine lzn ?_
  refine lzn ?_
  simp only [lay]
  refine lv (.bool false) (by exact xp (b := false)) ?_
  refine lv (.bool false) (by exact xa) ?_
  simp only [lay]
  refine wn ?_
  refine cF9 ?_
  refine wp_sr ?_
  refine lv (pq9 g1 40) (by exact xf 40 0 Try.underlying28) ?_
  refine lv (.int .u8 d.pro) (by exact xc Try.underlying5 (has27.cell 40 rfl)) ?_
  refine lv (.bool false) (by exact yqn) ?_
  refine lv (.bool false) (by exact xm) ?_
  simp only [lay]
  refine lzn ?_
  refine lzn ?_
  refine lzn ?_
  refine lv (.bool false) (by exact xp (b := false)) ?_
  simp only [lay]
  refine lv (.bool false) (by exact xa) ?_
  simp only [lay]
  refine wn ?_
  refine cF9 ?_
  refine wp_skip ?_
  change Code.wp _ _ _ _ _
  refine wp_sr ?_
  refine lv (.slice A23 d.bl.length c24) (by exact xm) ?_
  refine lv (.slice A23 d.bl.length c24) (by exact xa) ?_
  simp only [lay]
  refine wn ?_
  refine wp_ret ?_
  try simp only [Exit.then]
  have e : told18 d s t n = d.bl := by
   unfold told18
   repeat (first|rw [if_pos (by first|assumption|omega)]|rw [if_neg (by first|assumption|omega|exact ne_true_of_eq_false (by assumption))])
  exact bodyPost_ret (res_one Try.results54 rfl) rfl ⟨_, rfl, by rw [e]; exact (hO21.more b16.size), (bt b16 hb19)⟩
 refine lv (.bool false) (by exact yqn) ?_
 refine lv (.bool false) (by exact xm) ?_
 refine lzn ?_
 refine lzn ?_
 simp only [lay]
 refine lzn ?_
 refine lv (.bool false) (by exact xp (b := false)) ?_
 refine lv (.bool false) (by exact xa) ?_
 simp only [lay]
 refine wn ?_
 refine cF9 ?_
 refine wp_sr ?_
 refine lv (pq9 g1 40) (by exact xf 40 0 Try.underlying28) ?_
 refine lv (.int .u8 d.pro) (by exact xc Try.underlying5 (has27.cell 40 rfl)) ?_
 simp only [lay]
 by_cases q48 : d.pro = 17
 case pos =>
  refine lv (.bool true) (by exact yq) ?_
  refine lv (.bool true) (by exact xm) ?_
  refine lv (.slice A23 d.bl.length c24) (by exact xm) ?_
  refine lv (.int .i64 (d.bl.length : Int)) (by exact xz Try.underlying26) ?_
  simp only [lay]
  by_cases q49 : (d.bl.length : Int) ≥ 8
  case pos =>
   refine lv (.bool true) (by exact ex_geq (by rfl) (by rfl) (by rfl) (decide_eq_true (by first|assumption|omega|decide))) ?_
   refine lv (.bool true) (by exact xp (b := true)) ?_
   refine lv (.bool true) (by exact xm) ?_
   refine lv (.slice A23 d.bl.length c24) (by exact xm) ?_
   simp only [lay]
   have y50 := (own_byS hO21)
   refine lz (ow_call (fun v w' => v = .int .u16 (two17 d.bl 6) ∧ Below W18.heap.size W18 w') (by exact xk Try.func50) ((two18_any _ _ _ _ 6 W18 y50 (by omega) (by omega)).mono fun e w' h => ⟨_, h.1, rfl, h.2⟩) ?_)
   rintro _ W51 ⟨rfl, hb52⟩
   have z53 := hb52.size
   simp only [lay]
   by_cases q54 : two17 d.bl 6 = 0
   case pos =>
    have hz : d.bl.getD 6 0 = 0 ∧ d.bl.getD 7 0 = 0 := (two17_zero hR.body.rng 6).1 q54
    refine lv (.bool false) (by exact neq_int_eq (by rfl) (by rfl) (by rfl) (by first|assumption|omega)) ?_
    refine lv (.bool false) (by exact xp (b := true)) ?_
    refine lv (.bool false) (by exact xa) ?_
    simp only [lay]
    refine wn ?_
    refine cF9 ?_
    refine wp_sr ?_
    refine lv (pq9 g1 40) (by exact xf 40 0 Try.underlying28) ?_
    simp only [lay]
    refine lv (.int .u8 d.pro) (by exact xc Try.underlying5 ((hg3.to (bt b26 hb52)).cell 40 rfl)) ?_
    refine lv (.bool false) (by exact yqn) ?_
    refine lv (.bool false) (by exact xm) ?_
    refine lzn ?_
    simp only [lay]
    refine lzn ?_
    refine lzn ?_
    refine lv (.bool false) (by exact xp (b := false)) ?_
    refine lv (.bool false) (by exact xa) ?_
    simp only [lay]
    refine wn ?_
    refine cF9 ?_
    refine wp_skip ?_
    change Code.wp _ _ _ _ _
    refine wp_sr ?_
    refine lv (.slice A23 d.bl.length c24) (by exact xm) ?_
    refine lv (.slice A23 d.bl.length c24) (by exact xa) ?_
    simp only [lay]
    refine wn ?_
    refine wp_ret ?_
    try simp only [Exit.then]
    have e : told18 d s t n = d.bl := by
     unfold told18
     repeat (first|rw [if_pos (by first|assumption|omega)]|rw [if_neg (by first|assumption|omega|exact ne_true_of_eq_false (by assumption))])
    exact bodyPost_ret (res_one Try.results54 rfl) rfl ⟨_, rfl, by rw [e]; exact ((hO21.to hb52).more b16.size), (bt (bt b16 hb19) hb52)⟩
   have hz : ¬ (d.bl.getD 6 0 = 0 ∧ d.bl.getD 7 0 = 0) := (not_congr (two17_zero hR.body.rng 6)).1 q54
   refine lv (.bool true) (by exact neq_int_ne (by rfl) (by rfl) (by rfl) (by first|assumption|omega)) ?_
   refine lv (.bool true) (by exact xp (b := true)) ?_
   refine lv (.bool true) (by exact xa) ?_
   simp only [lay]
   refine wn ?_
   refine cT9 ?_
   refine wp_region_lit ?_
   refine lv (.slice A23 d.bl.length c24) (by exact xm) ?_
   simp only [lay]
   refine lv (.agg (d.cells p)) (by exact xo ((hg3.to (bt b26 hb52)).load (P := Try.prog) 28 Try.underlying28 rfl (by kernel_rfl))) ?_
   simp only [lay]
   have b63 := bt hb19 hb52
   refine lv (.agg (e4c s t)) (by exact xo ((hg10.to b63).load (P := Try.prog) 32 Try.underlying32 rfl (by kernel_rfl))) ?_
   simp only [lay]
   obtain ⟨g65, rfl, h66, h67⟩ := own_form hO21 (by first|omega|(simp only [List.length_append]; omega) | simp [D4.src])
   have b74 := bt (bt b16 hb19) hb52
   have rd75 := hR.to b74
   refine lz (ow_call (fun v w' => v = .tuple #[] ∧ OwnB w' W9.heap.size (sq9 g65 0 d.bl.length c24) (carry17 (d.pro == 17) (from18 d) (to18 s t) d.bl 6) ∧ ButG g65 W51 w' ∧ Below g65 W51 w') (by exact xk Try.func71) ((carry18_any d p s t hE 6 g65 d.bl.length c24 _ W9 W51 b63 (hO21.to hb52) h66 (by omega) (by omega) (by omega) rd75).mono fun e w' h => ⟨_, h.1, rfl, h.2⟩) ?_)
   rintro _ W70 ⟨rfl, hO69, bs68, hb71⟩
   have z76 := hb71.size
   simp only [lay]
   refine wn ?_
   refine wp_sr ?_
   refine lv (sq9 g65 0 d.bl.length c24) (by exact xm) ?_
   refine lv (sq9 g65 0 d.bl.length c24) (by exact xa) ?_
   simp only [lay]
   refine wn ?_
   refine wp_ret ?_
   try simp only [Exit.then]
   have hu : (d.pro == 17) = true := by rw [show d.pro = 17 from by assumption]; rfl
   have e : told18 d s t n = carry17 (d.pro == 17) (from18 d) (to18 s t) d.bl 6 := by
    unfold told18
    repeat (first|rw [if_pos (by first|assumption|omega)]|rw [if_neg (by first|assumption|omega|exact ne_true_of_eq_false (by assumption))])
    rw [hu]
   exact bodyPost_ret (res_one Try.results54 rfl) rfl ⟨_, rfl, by rw [e]; exact (hO69.more b16.size), (b74.trans (hb71.mono (Nat.le_trans b16.size h66)))⟩
  refine lv (.bool false) (by exact ex_geq (by rfl) (by rfl) (by rfl) (decide_eq_false (by first|assumption|omega|decide))) ?_
  refine lv (.bool false) (by exact xp (b := true)) ?_
  refine lv (.bool false) (by exact xm) ?_
  refine lzn ?_
  simp only [lay]
  refine lzn ?_
  refine lzn ?_
  refine lv (.bool false) (by exact xp (b := false)) ?_
  refine lv (.bool false) (by exact xa) ?_
  simp only [lay]
  refine wn ?_
  refine cF9 ?_
  refine wp_sr ?_
  refine lv (pq9 g1 40) (by exact xf 40 0 Try.underlying28) ?_
  refine lv (.int .u8 d.pro) (by exact xc Try.underlying5 (has27.cell 40 rfl)) ?_
  refine lv (.bool false) (by exact yqn) ?_
  refine lv (.bool false) (by exact xm) ?_
  simp only [lay]
  refine lzn ?_
  refine lzn ?_
  refine lzn ?_
  refine lv (.bool false) (by exact xp (b := false)) ?_
  simp only [lay]
  refine lv (.bool false) (by exact xa) ?_
  simp only [lay]
  refine wn ?_
  refine cF9 ?_
  refine wp_skip ?_
  change Code.wp _ _ _ _ _
  refine wp_sr ?_
  refine lv (.slice A23 d.bl.length c24) (by exact xm) ?_
  refine lv (.slice A23 d.bl.length c24) (by exact xa) ?_
  simp only [lay]
  refine wn ?_
  refine wp_ret ?_
  try simp only [Exit.then]
  have e : told18 d s t n = d.bl := by
   unfold told18
   repeat (first|rw [if_pos (by first|assumption|omega)]|rw [if_neg (by first|assumption|omega|exact ne_true_of_eq_false (by assumption))])
  exact bodyPost_ret (res_one Try.results54 rfl) rfl ⟨_, rfl, by rw [e]; exact (hO21.more b16.size), (bt b16 hb19)⟩
 refine lv (.bool false) (by exact yqn) ?_
 refine lv (.bool false) (by exact xm) ?_
 refine lzn ?_
 refine lzn ?_
 simp only [lay]
 refine lzn ?_
 refine lv (.bool false) (by exact xp (b := false)) ?_
 refine lv (.bool false) (by exact xm) ?_
 refine lzn ?_
 simp only [lay]
 refine lzn ?_
 refine lzn ?_
 refine lv (.bool false) (by exact xp (b := false)) ?_
 refine lv (.bool false) (by exact xa) ?_
 simp only [lay]
 refine wn ?_
 refine cF9 ?_
 refine wp_sr ?_
 refine lv (pq9 g1 40) (by exact xf 40 0 Try.underlying28) ?_
 refine lv (.int .u8 d.pro) (by exact xc Try.underlying5 (has27.cell 40 rfl)) ?_
 simp only [lay]
 by_cases q81 : d.pro = 58
 case pos =>
  refine lv (.bool true) (by exact yq) ?_
  refine lv (.bool true) (by exact xm) ?_
  refine lv (.slice A23 d.bl.length c24) (by exact xm) ?_
  refine lv (.int .i64 (d.bl.length : Int)) (by exact xz Try.underlying26) ?_
  simp only [lay]
  by_cases q82 : (d.bl.length : Int) ≥ 4
  case pos =>
   refine lv (.bool true) (by exact ex_geq (by rfl) (by rfl) (by rfl) (decide_eq_true (by first|assumption|omega|decide))) ?_
   refine lv (.bool true) (by exact xp (b := true)) ?_
   refine lv (.bool true) (by exact xa) ?_
   simp only [lay]
   refine wn ?_
   refine cT9 ?_
   refine wp_seq ?_
   refine rg_drawn W18.heap.size (by kernel_rfl) (Nat.le_refl _) ?_
   intro W83 hb84 hs85 hS86
   have z87 := hb84.size
   refine te 0 (.slice A23 d.bl.length c24) hS86 rfl (by intro _ _; exact xm) ?_
   simp only [lay]
   have y90 := (own_byS (hO21.to hb84))
   have y88 := y90.to_ (P := Try.prog) 26 Try.underlying26 (by kernel_rfl) (k := 2) (by omega)
   refine te 1 (.slice A23 2 c24) hS86 rfl (by intro _ _; exact ex_slice (by rfl) (by rfl) (y88.1 _)) ?_
   refine te 2 (pq9 g1 3) hS86 rfl (by intro _ _; exact xf 3 15 Try.underlying28) ?_
   refine te 3 (sq9 g1 3 16 16) hS86 rfl (by intro _ _; exact ex_arr (by rfl) Try.underlying24 (by kernel_rfl) (by rfl)) ?_
   refine te 4 (pq9 g1 19) hS86 rfl (by intro _ _; exact xf 19 15 Try.underlying28) ?_
   simp only [lay]
   refine te 5 (sq9 g1 19 16 16) hS86 rfl (by intro _ _; exact ex_arr (by rfl) Try.underlying24 (by kernel_rfl) (by rfl)) ?_
   refine te 6 (.int .i64 n) hS86 rfl (by intro _ _; exact xm) ?_
   refine te 7 (.int .i64 (n / 256)) hS86 rfl (by intro _ _; exact xb (shr8_i64 _ _ _)) ?_
   refine te 8 (.int .u8 (n / 256)) hS86 rfl (by intro _ _; exact xv (conv_u8' 3 5 .i64 (n / 256) (by kernel_rfl) Try.underlying5 (by omega) _)) ?_
   simp only [lay]
   refine te 9 (.int .i64 n) hS86 rfl (by intro _ _; exact xm) ?_
   refine te 10 (.int .u8 (n % 256)) hS86 rfl (by intro _ _; exact xv (conv_u8 3 5 .i64 n (by kernel_rfl) Try.underlying5 _)) ?_
   simp only [lay]
   refine t1 11 rfl (ow_build (u8s [0, 0, n / 256, n % 256, 0, 58]) rfl Try.underlying26 (by kernel_rfl) (by kernel_rfl) rfl (by decide) (by decide) (by first|rfl|(simp only [List.map_toArray, List.map_cons, List.map_nil] <;> rfl)) (u8s_cells _) ?_)
   intro g91 W92 hg93 ge94 sz95 hb96
   have z97 := hb96.size
   have hO98 := OwnB.blk hg93 (Nat.le_of_eq ge94.symm) rfl (by intro x hx; simp only [List.mem_cons, List.not_mem_nil, or_false] at hx; omega) (by simp)
   have hS99 := bt hS86 hb96
   refine ⟨hS99, ?_⟩
   simp only [lay]
   refine t1 12 rfl (ow_build [.slice A23 2 c24, sq9 g1 3 16 16, sq9 g1 19 16 16, sq9 g91 0 6 6] rfl Try.underlying100 (by kernel_rfl) (by kernel_rfl) rfl (by decide) (by decide) (by first|rfl|(simp only [List.map_toArray, List.map_cons, List.map_nil] <;> rfl)) (by simp [Value.cells]) ?_)
   intro g100 W101 hg102 ge103 sz104 hb105
   have z106 := hb105.size
   have hS107 := bt hS99 hb105
   refine ⟨hS107, ?_⟩
   simp only [lay]
   have by109 := y88.2.to (bt hb96 hb105)
   have has113 := hg3.to (bt (bt (bt b26 hb84) hb96) hb105)
   refine t1 13 rfl (ow_call (fun v w' => OwnB w' W101.heap.size v (d.bl.take 2 ++ d.src ++ d.dst ++ [0, 0, n / 256, n % 256, 0, 58]) ∧ Below W101.heap.size W101 w') (by exact xk Try.func81) (concat4 hg102 by109 (has113.byIn 3 16 d.src hR.ok.srcL ((show (_ : List Value) = u8s (l16 d.src) from by kernel_rfl).trans (u8s_16 hR.ok.srcL)) hR.ok.src (by decide)) (has113.byIn 19 16 d.dst hR.ok.dstL ((show (_ : List Value) = u8s (l16 d.dst) from by kernel_rfl).trans (u8s_16 hR.ok.dstL)) hR.ok.dst (by decide)) (own_byS (hO98.to hb105)) (by simp; try omega)) ?_)
   rintro v117 W115 ⟨hO118, hb116⟩
   have z119 := hb116.size
   obtain ⟨A120, c121, rfl, y122⟩ := hO118.by_
   have hS123 := bt hS107 hb116
   refine ⟨hS123, ?_⟩
   simp only [lay]
   refine te 14 (.slice A120 ((d.bl.take 2 ++ d.src ++ d.dst ++ [0, 0, n / 256, n % 256, 0, 58]).length) c121) hS123 rfl (by intro _ _; exact xa) ?_
   simp only [lay]
   refine wpAnyH_done (by kernel_rfl) ?_ _
   change Code.wp _ _ _ _ _
   refine wp_seq ?_
   refine wp_sr ?_
   refine lv (.slice A23 d.bl.length c24) (by exact xm) ?_
   simp only [lay]
   obtain ⟨g124, rfl, h125, h126⟩ := own_form hO21 (by first|omega|(simp only [List.length_append]; omega) | simp [D4.src])
   refine lv (pq9 g124 (0 + 0)) (by exact ex_index (k := 0) (by rfl) Try.underlying26 (by kernel_rfl) (by rfl) (by rfl) (show 0 < d.bl.length by omega)) ?_
   simp only [lay]
   have own130 := hO21.to (bt (bt (bt hb84 hb96) hb105) hb116)
   refine lv (.int .u8 (d.bl.getD 0 0)) (by exact xc Try.underlying5 ((own_byS own130).atE (k := 0) rfl (by omega))) ?_
   simp only [lay]
   by_cases q131 : d.bl.getD 0 0 = 128
   case pos =>
    refine lv (.bool true) (by exact yq) ?_
    simp only [lay]
    refine wn ?_
    refine cT9 ?_
    refine wp_region_lit ?_
    refine lv (sq9 g124 0 d.bl.length c24) (by exact xm) ?_
    refine lv (pq9 g124 (0 + 0)) (by exact ex_index (k := 0) (by rfl) Try.underlying26 (by kernel_rfl) (by rfl) (by rfl) (show 0 < d.bl.length by omega)) ?_
    simp only [lay]
    refine lz (ow_stB 5 (.tmp 77) (.const (.int .u8 8)) g124 _ W9.heap.size d.bl.length c24 8 _ rfl (by rfl) (by rfl) (by kernel_rfl) own130 (by omega) (own_len own130) (by omega) ?_)
    intro W132 hO133 bs134 hb135
    have z139 := hb135.size
    have own142 := hO118.but6 bs134 (by omega)
    simp only [lay]
    refine wn ?_
    refine wp_seq ?_
    refine rg_drawn W132.heap.size (by kernel_rfl) (Nat.le_refl _) ?_
    intro W143 hb144 hs145 hS146
    have z147 := hb144.size
    refine wpAnyH_join (fun a W => ∃ (q194 : Int) (g158 : Nat) (g166 : Nat) (A183 : Option Addr) (c184 : Nat), a = ⟨#[.agg (d.cells p), .agg (e4c s t), .int .i64 n, pq9 g1 0, pq9 g8 0, undef, .slice none 0 0, sq9 g124 0 d.bl.length c24, .slice A120 ((d.bl.take 2 ++ d.src ++ d.dst ++ [0, 0, n / 256, n % 256, 0, 58]).length) c121, .int .u16 q194, .int .i64 0, pq9 g1 41, .slice p.bA d.bl.length p.bc, sq9 g124 0 d.bl.length c24, pq9 g1 38, .int .i64 d.off, .bool false, undef, .bool false, pq9 g1 40, .int .u8 d.pro, .bool false, .bool false, undef, undef, undef, .bool false, undef, undef, undef, undef, .bool false, pq9 g1 40, .int .u8 d.pro, .bool false, .bool false, undef, undef, undef, .bool false, .bool false, undef, undef, undef, .bool false, undef, undef, undef, undef, .bool true, pq9 g1 40, .int .u8 d.pro, .bool true, .bool true, sq9 g124 0 d.bl.length c24, .int .i64 (d.bl.length : Int), .bool true, .bool true, sq9 g124 0 d.bl.length c24, sq9 g124 0 2 c24, pq9 g1 3, sq9 g1 3 16 16, pq9 g1 19, sq9 g1 19 16 16, .int .i64 n, .int .i64 (n / 256), .int .u8 (n / 256), .int .i64 n, .int .u8 (n % 256), sq9 g91 0 6 6, sq9 g100 0 4 4, .slice A120 ((d.bl.take 2 ++ d.src ++ d.dst ++ [0, 0, n / 256, n % 256, 0, 58]).length) c121, sq9 g124 0 d.bl.length c24, pq9 g124 (0 + 0), .int .u8 (d.bl.getD 0 0), .bool true, sq9 g124 0 d.bl.length c24, pq9 g124 (0 + 0), undef, undef, .tuple #[.int .u16 q194, .int .i64 0], sq9 g124 0 d.bl.length c24, .int .u16 (two17 (d.bl.set (0 + 0) 8) 2), .slice A120 ((d.bl.take 2 ++ d.src ++ d.dst ++ [0, 0, n / 256, n % 256, 0, 58]).length) c121, sq9 g124 0 d.bl.length c24, sq9 g124 0 2 c24, sq9 g158 0 38 38, sq9 g166 0 2 2, .slice A183 (((d.bl.set (0 + 0) 8).take 2 ++ (List.replicate 38 0)).length) c184, .tuple #[.int .u16 q194, .int .i64 0], .int .u16 q194, .int .i64 0, undef, undef, undef, undef], []⟩ ∧ Below W132.heap.size W132 W ∧ q194 = (updateS (two17 (d.bl.set (0 + 0) 8) 2) (d.bl.take 2 ++ d.src ++ d.dst ++ [0, 0, n / 256, n % 256, 0, 58]) ((d.bl.set (0 + 0) 8).take 2 ++ (List.replicate 38 0))).1 ∧ 0 ≤ q194 ∧ q194 < 65536) (fun hk201 => ?_) ?_
    case refine_1 =>
     refine te 0 (sq9 g124 0 d.bl.length c24) hS146 rfl (by intro _ _; exact xm) ?_
     refine te 2 (.slice A120 ((d.bl.take 2 ++ d.src ++ d.dst ++ [0, 0, n / 256, n % 256, 0, 58]).length) c121) hS146 rfl (by intro _ _; exact xm) ?_
     refine te 3 (sq9 g124 0 d.bl.length c24) hS146 rfl (by intro _ _; exact xm) ?_
     simp only [lay]
     have own203 := hO133.to hb144
     have y204 := (own_byS own203)
     have y202 := y204.to_ (P := Try.prog) 26 Try.underlying26 (by kernel_rfl) (k := 2) (by omega)
     refine te 4 (sq9 g124 0 2 c24) hS146 rfl (by intro _ _; exact ex_slice (by rfl) (by rfl) (y202.1 _)) ?_
     simp only [lay]
     refine tk_two (i := 1) (j := 5) (by kernel_rfl) ?L205 ?L206
     case L205 =>
      have y207 := (own_byS own203)
      refine rs (i := 1) rfl (by kernel_rfl) (ow_call (fun v w' => v = .int .u16 (two17 (d.bl.set (0 + 0) 8) 2) ∧ Below W143.heap.size W143 w') (by exact xk Try.func50) ((two18_any _ _ _ _ 2 W143 y207 (by omega) (by omega)).mono fun e w' h => ⟨_, h.1, rfl, h.2⟩) ?_)
      rintro _ W208 ⟨rfl, hb209⟩
      have z210 := hb209.size
      have hS211 := bt hS146 hb209
      refine ⟨hS211, ?_⟩
      simp only [lay]
      refine t1 5 rfl (ow_make 26 (.const (.int .i64 38)) (.const (.int .i64 38)) rfl 38 38 rfl rfl Try.underlying26 info8 (by decide) (by decide) ?_)
      intro g212 W213 hO214 ge215 sz216 hb217
      have z218 := hb217.size
      have hS219 := bt hS211 hb217
      refine ⟨hS219, ?_⟩
      simp only [lay]
      refine t1 6 rfl (ow_build [sq9 g124 0 2 c24, sq9 g212 0 38 38] rfl Try.underlying100 (by kernel_rfl) (by kernel_rfl) rfl (by decide) (by decide) (by first|rfl|(simp only [List.map_toArray, List.map_cons, List.map_nil] <;> rfl)) (by simp [Value.cells]) ?_)
      intro g220 W221 hg222 ge223 sz224 hb225
      have z226 := hb225.size
      have hS227 := bt hS219 hb225
      refine ⟨hS227, ?_⟩
      simp only [lay]
      have by230 := y202.2.to (bt (bt hb209 hb217) hb225)
      refine t1 7 rfl (ow_call (fun v w' => OwnB w' W221.heap.size v ((d.bl.set (0 + 0) 8).take 2 ++ (List.replicate 38 0)) ∧ Below W221.heap.size W221 w') (by exact xk Try.func81) (concat2 hg222 by230 (own_byS (hO214.to hb225)) (by simp; try omega)) ?_)
      rintro v234 W232 ⟨hO235, hb233⟩
      have z236 := hb233.size
      obtain ⟨A237, c238, rfl, y239⟩ := hO235.by_
      have hS240 := bt hS227 hb233
      refine ⟨hS240, ?_⟩
      simp only [lay]
      have b244 := bt (bt (bt (bt hb144 hb209) hb217) hb225) hb233
      refine t1 8 rfl (ow_call (fun v w' => (∃ q, v = .tuple #[.int .u16 q, .int .i64 0] ∧ q = (updateS (two17 (d.bl.set (0 + 0) 8) 2) (d.bl.take 2 ++ d.src ++ d.dst ++ [0, 0, n / 256, n % 256, 0, 58]) ((d.bl.set (0 + 0) 8).take 2 ++ (List.replicate 38 0))).1 ∧ 0 ≤ q ∧ q < 65536) ∧ Below W232.heap.size W232 w') (by exact xk Try.func83) (update_one (two17_rng (own_byS hO133).rng 2) (own_byS (own142.to b244)) (own_byS hO235) (by constructor <;> simp only [List.length_append, List.length_take, List.length_set, List.length_replicate, List.length_cons, List.length_nil, dsL, ddL] <;> omega)) ?_)
      rintro _ W246 ⟨⟨q248, rfl, hq249, q0250, q1251⟩, hb247⟩
      have z252 := hb247.size
      have hS253 := bt hS240 hb247
      refine ⟨hS253, ?_⟩
      simp only [lay]
      refine te 9 (.tuple #[.int .u16 q248, .int .i64 0]) hS253 rfl (by intro _ _; exact xm) ?_
      refine te 10 (.int .u16 q248) hS253 rfl (by intro _ _; exact xe) ?_
      refine te 11 (.int .i64 0) hS253 rfl (by intro _ _; exact xe) ?_
      refine te 12 (.int .u16 q248) hS253 rfl (by intro _ _; exact xa) ?_
      simp only [lay]
      refine te 13 (.int .i64 0) hS253 rfl (by intro _ _; exact xa) ?_
      simp only [lay]
      refine wpAnyH_done (by kernel_rfl) ?_ _
      exact hk201 _ _ ⟨q248, g212, g220, A237, c238, rfl, (bt b244 hb247), hq249, q0250, q1251⟩
     case L206 =>
      refine rs (i := 5) rfl (by kernel_rfl) (ow_make 26 (.const (.int .i64 38)) (.const (.int .i64 38)) rfl 38 38 rfl rfl Try.underlying26 info8 (by decide) (by decide) ?_)
      intro g255 W256 hO257 ge258 sz259 hb260
      have z261 := hb260.size
      have hS262 := bt hS146 hb260
      refine ⟨hS262, ?_⟩
      simp only [lay]
      refine tk_two (i := 1) (j := 6) (by kernel_rfl) ?L263 ?L264
      case L263 =>
       have b265 := bt hb144 hb260
       have y267 := (own_byS (hO133.to b265))
       refine rs (i := 1) rfl (by kernel_rfl) (ow_call (fun v w' => v = .int .u16 (two17 (d.bl.set (0 + 0) 8) 2) ∧ Below W256.heap.size W256 w') (by exact xk Try.func50) ((two18_any _ _ _ _ 2 W256 y267 (by omega) (by omega)).mono fun e w' h => ⟨_, h.1, rfl, h.2⟩) ?_)
       rintro _ W268 ⟨rfl, hb269⟩
       have z270 := hb269.size
       have hS271 := bt hS262 hb269
       refine ⟨hS271, ?_⟩
       simp only [lay]
       refine t1 6 rfl (ow_build [sq9 g124 0 2 c24, sq9 g255 0 38 38] rfl Try.underlying100 (by kernel_rfl) (by kernel_rfl) rfl (by decide) (by decide) (by first|rfl|(simp only [List.map_toArray, List.map_cons, List.map_nil] <;> rfl)) (by simp [Value.cells]) ?_)
       intro g272 W273 hg274 ge275 sz276 hb277
       have z278 := hb277.size
       have hS279 := bt hS271 hb277
       refine ⟨hS279, ?_⟩
       simp only [lay]
       have by282 := y202.2.to (bt (bt hb260 hb269) hb277)
       refine t1 7 rfl (ow_call (fun v w' => OwnB w' W273.heap.size v ((d.bl.set (0 + 0) 8).take 2 ++ (List.replicate 38 0)) ∧ Below W273.heap.size W273 w') (by exact xk Try.func81) (concat2 hg274 by282 (own_byS (hO257.to (bt hb269 hb277))) (by simp; try omega)) ?_)
       rintro v287 W285 ⟨hO288, hb286⟩
       have z289 := hb286.size
       obtain ⟨A290, c291, rfl, y292⟩ := hO288.by_
       have hS293 := bt hS279 hb286
       refine ⟨hS293, ?_⟩
       simp only [lay]
       have b296 := bt (bt (bt b265 hb269) hb277) hb286
       refine t1 8 rfl (ow_call (fun v w' => (∃ q, v = .tuple #[.int .u16 q, .int .i64 0] ∧ q = (updateS (two17 (d.bl.set (0 + 0) 8) 2) (d.bl.take 2 ++ d.src ++ d.dst ++ [0, 0, n / 256, n % 256, 0, 58]) ((d.bl.set (0 + 0) 8).take 2 ++ (List.replicate 38 0))).1 ∧ 0 ≤ q ∧ q < 65536) ∧ Below W285.heap.size W285 w') (by exact xk Try.func83) (update_one (two17_rng (own_byS hO133).rng 2) (own_byS (own142.to b296)) (own_byS hO288) (by constructor <;> simp only [List.length_append, List.length_take, List.length_set, List.length_replicate, List.length_cons, List.length_nil, dsL, ddL] <;> omega)) ?_)
       rintro _ W298 ⟨⟨q300, rfl, hq301, q0302, q1303⟩, hb299⟩
       have z304 := hb299.size
       have hS305 := bt hS293 hb299
       refine ⟨hS305, ?_⟩
       simp only [lay]
       refine te 9 (.tuple #[.int .u16 q300, .int .i64 0]) hS305 rfl (by intro _ _; exact xm) ?_
       refine te 10 (.int .u16 q300) hS305 rfl (by intro _ _; exact xe) ?_
       refine te 11 (.int .i64 0) hS305 rfl (by intro _ _; exact xe) ?_
       refine te 12 (.int .u16 q300) hS305 rfl (by intro _ _; exact xa) ?_
       simp only [lay]
       refine te 13 (.int .i64 0) hS305 rfl (by intro _ _; exact xa) ?_
       simp only [lay]
       refine wpAnyH_done (by kernel_rfl) ?_ _
       exact hk201 _ _ ⟨q300, g255, g272, A290, c291, rfl, (bt b296 hb299), hq301, q0302, q1303⟩
      case L264 =>
       refine rs (i := 6) rfl (by kernel_rfl) (ow_build [sq9 g124 0 2 c24, sq9 g255 0 38 38] rfl Try.underlying100 (by kernel_rfl) (by kernel_rfl) rfl (by decide) (by decide) (by first|rfl|(simp only [List.map_toArray, List.map_cons, List.map_nil] <;> rfl)) (by simp [Value.cells]) ?_)
       intro g307 W308 hg309 ge310 sz311 hb312
       have z313 := hb312.size
       have hS314 := bt hS262 hb312
       refine ⟨hS314, ?_⟩
       simp only [lay]
       have b316 := bt (bt hb144 hb260) hb312
       have y318 := (own_byS (hO133.to b316))
       refine t1 1 rfl (ow_call (fun v w' => v = .int .u16 (two17 (d.bl.set (0 + 0) 8) 2) ∧ Below W308.heap.size W308 w') (by exact xk Try.func50) ((two18_any _ _ _ _ 2 W308 y318 (by omega) (by omega)).mono fun e w' h => ⟨_, h.1, rfl, h.2⟩) ?_)
       rintro _ W319 ⟨rfl, hb320⟩
       have z321 := hb320.size
       have hS322 := bt hS314 hb320
       refine ⟨hS322, ?_⟩
       simp only [lay]
       have by326 := y202.2.to (bt (bt hb260 hb312) hb320)
       refine t1 7 rfl (ow_call (fun v w' => OwnB w' W319.heap.size v ((d.bl.set (0 + 0) 8).take 2 ++ (List.replicate 38 0)) ∧ Below W319.heap.size W319 w') (by exact xk Try.func81) (concat2 (hg309.to hb320) by326 (own_byS (hO257.to (bt hb312 hb320))) (by simp; try omega)) ?_)
       rintro v331 W329 ⟨hO332, hb330⟩
       have z333 := hb330.size
       obtain ⟨A334, c335, rfl, y336⟩ := hO332.by_
       have hS337 := bt hS322 hb330
       refine ⟨hS337, ?_⟩
       simp only [lay]
       have b339 := bt (bt b316 hb320) hb330
       refine t1 8 rfl (ow_call (fun v w' => (∃ q, v = .tuple #[.int .u16 q, .int .i64 0] ∧ q = (updateS (two17 (d.bl.set (0 + 0) 8) 2) (d.bl.take 2 ++ d.src ++ d.dst ++ [0, 0, n / 256, n % 256, 0, 58]) ((d.bl.set (0 + 0) 8).take 2 ++ (List.replicate 38 0))).1 ∧ 0 ≤ q ∧ q < 65536) ∧ Below W329.heap.size W329 w') (by exact xk Try.func83) (update_one (two17_rng (own_byS hO133).rng 2) (own_byS (own142.to b339)) (own_byS hO332) (by constructor <;> simp only [List.length_append, List.length_take, List.length_set, List.length_replicate, List.length_cons, List.length_nil, dsL, ddL] <;> omega)) ?_)
       rintro _ W341 ⟨⟨q343, rfl, hq344, q0345, q1346⟩, hb342⟩
       have z347 := hb342.size
       have hS348 := bt hS337 hb342
       refine ⟨hS348, ?_⟩
       simp only [lay]
       refine te 9 (.tuple #[.int .u16 q343, .int .i64 0]) hS348 rfl (by intro _ _; exact xm) ?_
       refine te 10 (.int .u16 q343) hS348 rfl (by intro _ _; exact xe) ?_
       refine te 11 (.int .i64 0) hS348 rfl (by intro _ _; exact xe) ?_
       refine te 12 (.int .u16 q343) hS348 rfl (by intro _ _; exact xa) ?_
       simp only [lay]
       refine te 13 (.int .i64 0) hS348 rfl (by intro _ _; exact xa) ?_
       simp only [lay]
       refine wpAnyH_done (by kernel_rfl) ?_ _
       exact hk201 _ _ ⟨q343, g255, g307, A334, c335, rfl, (bt b339 hb342), hq344, q0345, q1346⟩
    rintro _ W200 ⟨q194, g158, g166, A183, c184, rfl, hb350, hx351, hx352, hx353⟩
    have z354 := hb350.size
    change Code.wp _ _ _ _ _
    refine wp_region_lit ?_
    refine lv (sq9 g124 0 d.bl.length c24) (by exact xm) ?_
    refine lv (.int .u16 q194) (by exact xm) ?_
    simp only [lay]
    refine lz (ow_call (fun v w' => v = .tuple #[] ∧ OwnB w' W9.heap.size (sq9 g124 0 d.bl.length c24) (put17 (d.bl.set (0 + 0) 8) 2 q194) ∧ But6 g124 W200 w' ∧ Below g124 W200 w') (by exact xk Try.func52) ((set18_any g124 d.bl.length c24 W9.heap.size 2 q194 (by omega) _ W200 (hO133.to hb350) (by omega) (by omega)).mono fun e w' h => ⟨_, h.1, rfl, h.2⟩) ?_)
    rintro _ W357 ⟨rfl, hO356, bs355, hb358⟩
    have z363 := hb358.size
    have own364 := (((hO98.to (bt hb105 hb116)).but6 bs134 (by omega)).to hb350).but6 bs355 (by omega)
    have has365 := (((hg102.to hb116).but6 bs134 (by omega)).to hb350).but6 bs355 (by omega)
    have own366 := (own142.to hb350).but6 bs355 (by omega)
    simp only [lay]
    refine wn ?_
    refine wp_sr ?_
    refine lv (sq9 g124 0 d.bl.length c24) (by exact xm) ?_
    refine lv (sq9 g124 0 d.bl.length c24) (by exact xa) ?_
    simp only [lay]
    refine wn ?_
    refine wp_ret ?_
    try simp only [Exit.then]
    rw [two17_set0, take2_set (by omega)] at hx351
    have ho : one18 (d.bl.getD 0 0) = 8 := by unfold one18; rw [if_pos (by assumption)]
    have e : told18 d s t n = put17 (d.bl.set (0 + 0) 8) 2 q194 := by
     unfold told18 from18
     repeat (first|rw [if_pos (by first|assumption|omega)]|rw [if_neg (by first|assumption|omega|exact ne_true_of_eq_false (by assumption))])
     rw [ho, hx351]
     simp only [List.append_assoc, List.cons_append, List.nil_append]
    have l372 := Nat.le_trans b16.size h125
    exact bodyPost_ret (res_one Try.results54 rfl) rfl ⟨_, rfl, by rw [e]; exact (hO356.more b16.size), ((bt ((bt (bt (bt (bt (bt b16 hb19) hb84) hb96) hb105) hb116).trans (hb135.mono l372)) hb350).trans (hb358.mono l372))⟩
   refine lv (.bool false) (by exact yqn) ?_
   simp only [lay]
   refine wn ?_
   refine cF9 ?_
   refine wp_region_lit ?_
   refine lv (sq9 g124 0 d.bl.length c24) (by exact xm) ?_
   refine lv (pq9 g124 (0 + 0)) (by exact ex_index (k := 0) (by rfl) Try.underlying26 (by kernel_rfl) (by rfl) (by rfl) (show 0 < d.bl.length by omega)) ?_
   simp only [lay]
   refine lz (ow_stB 5 (.tmp 79) (.const (.int .u8 0)) g124 _ W9.heap.size d.bl.length c24 0 _ rfl (by rfl) (by rfl) (by kernel_rfl) own130 (by omega) (own_len own130) (by omega) ?_)
   intro W376 hO377 bs378 hb379
   have z383 := hb379.size
   have own386 := hO118.but6 bs378 (by omega)
   simp only [lay]
   refine wn ?_
   refine wp_seq ?_
   refine rg_drawn W376.heap.size (by kernel_rfl) (Nat.le_refl _) ?_
   intro W387 hb388 hs389 hS390
   have z391 := hb388.size
   refine wpAnyH_join (fun a W => ∃ (q438 : Int) (g402 : Nat) (g410 : Nat) (A427 : Option Addr) (c428 : Nat), a = ⟨#[.agg (d.cells p), .agg (e4c s t), .int .i64 n, pq9 g1 0, pq9 g8 0, undef, .slice none 0 0, sq9 g124 0 d.bl.length c24, .slice A120 ((d.bl.take 2 ++ d.src ++ d.dst ++ [0, 0, n / 256, n % 256, 0, 58]).length) c121, .int .u16 q438, .int .i64 0, pq9 g1 41, .slice p.bA d.bl.length p.bc, sq9 g124 0 d.bl.length c24, pq9 g1 38, .int .i64 d.off, .bool false, undef, .bool false, pq9 g1 40, .int .u8 d.pro, .bool false, .bool false, undef, undef, undef, .bool false, undef, undef, undef, undef, .bool false, pq9 g1 40, .int .u8 d.pro, .bool false, .bool false, undef, undef, undef, .bool false, .bool false, undef, undef, undef, .bool false, undef, undef, undef, undef, .bool true, pq9 g1 40, .int .u8 d.pro, .bool true, .bool true, sq9 g124 0 d.bl.length c24, .int .i64 (d.bl.length : Int), .bool true, .bool true, sq9 g124 0 d.bl.length c24, sq9 g124 0 2 c24, pq9 g1 3, sq9 g1 3 16 16, pq9 g1 19, sq9 g1 19 16 16, .int .i64 n, .int .i64 (n / 256), .int .u8 (n / 256), .int .i64 n, .int .u8 (n % 256), sq9 g91 0 6 6, sq9 g100 0 4 4, .slice A120 ((d.bl.take 2 ++ d.src ++ d.dst ++ [0, 0, n / 256, n % 256, 0, 58]).length) c121, sq9 g124 0 d.bl.length c24, pq9 g124 (0 + 0), .int .u8 (d.bl.getD 0 0), .bool false, undef, undef, sq9 g124 0 d.bl.length c24, pq9 g124 (0 + 0), .tuple #[.int .u16 q438, .int .i64 0], sq9 g124 0 d.bl.length c24, .int .u16 (two17 (d.bl.set (0 + 0) 0) 2), .slice A120 ((d.bl.take 2 ++ d.src ++ d.dst ++ [0, 0, n / 256, n % 256, 0, 58]).length) c121, sq9 g124 0 d.bl.length c24, sq9 g124 0 2 c24, sq9 g402 0 38 38, sq9 g410 0 2 2, .slice A427 (((d.bl.set (0 + 0) 0).take 2 ++ (List.replicate 38 0)).length) c428, .tuple #[.int .u16 q438, .int .i64 0], .int .u16 q438, .int .i64 0, undef, undef, undef, undef], []⟩ ∧ Below W376.heap.size W376 W ∧ q438 = (updateS (two17 (d.bl.set (0 + 0) 0) 2) (d.bl.take 2 ++ d.src ++ d.dst ++ [0, 0, n / 256, n % 256, 0, 58]) ((d.bl.set (0 + 0) 0).take 2 ++ (List.replicate 38 0))).1 ∧ 0 ≤ q438 ∧ q438 < 65536) (fun hk445 => ?_) ?_
   case refine_1 =>
    refine te 0 (sq9 g124 0 d.bl.length c24) hS390 rfl (by intro _ _; exact xm) ?_
    refine te 2 (.slice A120 ((d.bl.take 2 ++ d.src ++ d.dst ++ [0, 0, n / 256, n % 256, 0, 58]).length) c121) hS390 rfl (by intro _ _; exact xm) ?_
    refine te 3 (sq9 g124 0 d.bl.length c24) hS390 rfl (by intro _ _; exact xm) ?_
    simp only [lay]
    have own447 := hO377.to hb388
    have y448 := (own_byS own447)
    have y446 := y448.to_ (P := Try.prog) 26 Try.underlying26 (by kernel_rfl) (k := 2) (by omega)
    refine te 4 (sq9 g124 0 2 c24) hS390 rfl (by intro _ _; exact ex_slice (by rfl) (by rfl) (y446.1 _)) ?_
    simp only [lay]
    refine tk_two (i := 1) (j := 5) (by kernel_rfl) ?L449 ?L450
    case L449 =>
     have y451 := (own_byS own447)
     refine rs (i := 1) rfl (by kernel_rfl) (ow_call (fun v w' => v = .int .u16 (two17 (d.bl.set (0 + 0) 0) 2) ∧ Below W387.heap.size W387 w') (by exact xk Try.func50) ((two18_any _ _ _ _ 2 W387 y451 (by omega) (by omega)).mono fun e w' h => ⟨_, h.1, rfl, h.2⟩) ?_)
     rintro _ W452 ⟨rfl, hb453⟩
     have z454 := hb453.size
     have hS455 := bt hS390 hb453
     refine ⟨hS455, ?_⟩
     simp only [lay]
     refine t1 5 rfl (ow_make 26 (.const (.int .i64 38)) (.const (.int .i64 38)) rfl 38 38 rfl rfl Try.underlying26 info8 (by decide) (by decide) ?_)
     intro g456 W457 hO458 ge459 sz460 hb461
     have z462 := hb461.size
     have hS463 := bt hS455 hb461
     refine ⟨hS463, ?_⟩
     simp only [lay]
     refine t1 6 rfl (ow_build [sq9 g124 0 2 c24, sq9 g456 0 38 38] rfl Try.underlying100 (by kernel_rfl) (by kernel_rfl) rfl (by decide) (by decide) (by first|rfl|(simp only [List.map_toArray, List.map_cons, List.map_nil] <;> rfl)) (by simp [Value.cells]) ?_)
     intro g464 W465 hg466 ge467 sz468 hb469
     have z470 := hb469.size
     have hS471 := bt hS463 hb469
     refine ⟨hS471, ?_⟩
     simp only [lay]
     have by474 := y446.2.to (bt (bt hb453 hb461) hb469)
     refine t1 7 rfl (ow_call (fun v w' => OwnB w' W465.heap.size v ((d.bl.set (0 + 0) 0).take 2 ++ (List.replicate 38 0)) ∧ Below W465.heap.size W465 w') (by exact xk Try.func81) (concat2 hg466 by474 (own_byS (hO458.to hb469)) (by simp; try omega)) ?_)
     rintro v478 W476 ⟨hO479, hb477⟩
     have z480 := hb477.size
     obtain ⟨A481, c482, rfl, y483⟩ := hO479.by_
     have hS484 := bt hS471 hb477
     refine ⟨hS484, ?_⟩
     simp only [lay]
     have b488 := bt (bt (bt (bt hb388 hb453) hb461) hb469) hb477
     refine t1 8 rfl (ow_call (fun v w' => (∃ q, v = .tuple #[.int .u16 q, .int .i64 0] ∧ q = (updateS (two17 (d.bl.set (0 + 0) 0) 2) (d.bl.take 2 ++ d.src ++ d.dst ++ [0, 0, n / 256, n % 256, 0, 58]) ((d.bl.set (0 + 0) 0).take 2 ++ (List.replicate 38 0))).1 ∧ 0 ≤ q ∧ q < 65536) ∧ Below W476.heap.size W476 w') (by exact xk Try.func83) (update_one (two17_rng (own_byS hO377).rng 2) (own_byS (own386.to b488)) (own_byS hO479) (by constructor <;> simp only [List.length_append, List.length_take, List.length_set, List.length_replicate, List.length_cons, List.length_nil, dsL, ddL] <;> omega)) ?_)
     rintro _ W490 ⟨⟨q492, rfl, hq493, q0494, q1495⟩, hb491⟩
     have z496 := hb491.size
     have hS497 := bt hS484 hb491
     refine ⟨hS497, ?_⟩
     simp only [lay]
     refine te 9 (.tuple #[.int .u16 q492, .int .i64 0]) hS497 rfl (by intro _ _; exact xm) ?_
     refine te 10 (.int .u16 q492) hS497 rfl (by intro _ _; exact xe) ?_
     refine te 11 (.int .i64 0) hS497 rfl (by intro _ _; exact xe) ?_
     refine te 12 (.int .u16 q492) hS497 rfl (by intro _ _; exact xa) ?_
     simp only [lay]
     refine te 13 (.int .i64 0) hS497 rfl (by intro _ _; exact xa) ?_
     simp only [lay]
     refine wpAnyH_done (by kernel_rfl) ?_ _
     exact hk445 _ _ ⟨q492, g456, g464, A481, c482, rfl, (bt b488 hb491), hq493, q0494, q1495⟩
    case L450 =>
     refine rs (i := 5) rfl (by kernel_rfl) (ow_make 26 (.const (.int .i64 38)) (.const (.int .i64 38)) rfl 38 38 rfl rfl Try.underlying26 info8 (by decide) (by decide) ?_)
     intro g499 W500 hO501 ge502 sz503 hb504
     have z505 := hb504.size
     have hS506 := bt hS390 hb504
     refine ⟨hS506, ?_⟩
     simp only [lay]
     refine tk_two (i := 1) (j := 6) (by kernel_rfl) ?L507 ?L508
     case L507 =>
      have b509 := bt hb388 hb504
      have y511 := (own_byS (hO377.to b509))
      refine rs (i := 1) rfl (by kernel_rfl) (ow_call (fun v w' => v = .int .u16 (two17 (d.bl.set (0 + 0) 0) 2) ∧ Below W500.heap.size W500 w') (by exact xk Try.func50) ((two18_any _ _ _ _ 2 W500 y511 (by omega) (by omega)).mono fun e w' h => ⟨_, h.1, rfl, h.2⟩) ?_)
      rintro _ W512 ⟨rfl, hb513⟩
      have z514 := hb513.size
      have hS515 := bt hS506 hb513
      refine ⟨hS515, ?_⟩
      simp only [lay]
      refine t1 6 rfl (ow_build [sq9 g124 0 2 c24, sq9 g499 0 38 38] rfl Try.underlying100 (by kernel_rfl) (by kernel_rfl) rfl (by decide) (by decide) (by first|rfl|(simp only [List.map_toArray, List.map_cons, List.map_nil] <;> rfl)) (by simp [Value.cells]) ?_)
      intro g516 W517 hg518 ge519 sz520 hb521
      have z522 := hb521.size
      have hS523 := bt hS515 hb521
      refine ⟨hS523, ?_⟩
      simp only [lay]
      have by526 := y446.2.to (bt (bt hb504 hb513) hb521)
      refine t1 7 rfl (ow_call (fun v w' => OwnB w' W517.heap.size v ((d.bl.set (0 + 0) 0).take 2 ++ (List.replicate 38 0)) ∧ Below W517.heap.size W517 w') (by exact xk Try.func81) (concat2 hg518 by526 (own_byS (hO501.to (bt hb513 hb521))) (by simp; try omega)) ?_)
      rintro v531 W529 ⟨hO532, hb530⟩
      have z533 := hb530.size
      obtain ⟨A534, c535, rfl, y536⟩ := hO532.by_
      have hS537 := bt hS523 hb530
      refine ⟨hS537, ?_⟩
      simp only [lay]
      have b540 := bt (bt (bt b509 hb513) hb521) hb530
      refine t1 8 rfl (ow_call (fun v w' => (∃ q, v = .tuple #[.int .u16 q, .int .i64 0] ∧ q = (updateS (two17 (d.bl.set (0 + 0) 0) 2) (d.bl.take 2 ++ d.src ++ d.dst ++ [0, 0, n / 256, n % 256, 0, 58]) ((d.bl.set (0 + 0) 0).take 2 ++ (List.replicate 38 0))).1 ∧ 0 ≤ q ∧ q < 65536) ∧ Below W529.heap.size W529 w') (by exact xk Try.func83) (update_one (two17_rng (own_byS hO377).rng 2) (own_byS (own386.to b540)) (own_byS hO532) (by constructor <;> simp only [List.length_append, List.length_take, List.length_set, List.length_replicate, List.length_cons, List.length_nil, dsL, ddL] <;> omega)) ?_)
      rintro _ W542 ⟨⟨q544, rfl, hq545, q0546, q1547⟩, hb543⟩
      have z548 := hb543.size
      have hS549 := bt hS537 hb543
      refine ⟨hS549, ?_⟩
      simp only [lay]
      refine te 9 (.tuple #[.int .u16 q544, .int .i64 0]) hS549 rfl (by intro _ _; exact xm) ?_
      refine te 10 (.int .u16 q544) hS549 rfl (by intro _ _; exact xe) ?_
      refine te 11 (.int .i64 0) hS549 rfl (by intro _ _; exact xe) ?_
      refine te 12 (.int .u16 q544) hS549 rfl (by intro _ _; exact xa) ?_
      simp only [lay]
      refine te 13 (.int .i64 0) hS549 rfl (by intro _ _; exact xa) ?_
      simp only [lay]
      refine wpAnyH_done (by kernel_rfl) ?_ _
      exact hk445 _ _ ⟨q544, g499, g516, A534, c535, rfl, (bt b540 hb543), hq545, q0546, q1547⟩
     case L508 =>
      refine rs (i := 6) rfl (by kernel_rfl) (ow_build [sq9 g124 0 2 c24, sq9 g499 0 38 38] rfl Try.underlying100 (by kernel_rfl) (by kernel_rfl) rfl (by decide) (by decide) (by first|rfl|(simp only [List.map_toArray, List.map_cons, List.map_nil] <;> rfl)) (by simp [Value.cells]) ?_)
      intro g551 W552 hg553 ge554 sz555 hb556
      have z557 := hb556.size
      have hS558 := bt hS506 hb556
      refine ⟨hS558, ?_⟩
      simp only [lay]
      have b560 := bt (bt hb388 hb504) hb556
      have y562 := (own_byS (hO377.to b560))
      refine t1 1 rfl (ow_call (fun v w' => v = .int .u16 (two17 (d.bl.set (0 + 0) 0) 2) ∧ Below W552.heap.size W552 w') (by exact xk Try.func50) ((two18_any _ _ _ _ 2 W552 y562 (by omega) (by omega)).mono fun e w' h => ⟨_, h.1, rfl, h.2⟩) ?_)
      rintro _ W563 ⟨rfl, hb564⟩
      have z565 := hb564.size
      have hS566 := bt hS558 hb564
      refine ⟨hS566, ?_⟩
      simp only [lay]
      have by570 := y446.2.to (bt (bt hb504 hb556) hb564)
      refine t1 7 rfl (ow_call (fun v w' => OwnB w' W563.heap.size v ((d.bl.set (0 + 0) 0).take 2 ++ (List.replicate 38 0)) ∧ Below W563.heap.size W563 w') (by exact xk Try.func81) (concat2 (hg553.to hb564) by570 (own_byS (hO501.to (bt hb556 hb564))) (by simp; try omega)) ?_)
      rintro v575 W573 ⟨hO576, hb574⟩
      have z577 := hb574.size
      obtain ⟨A578, c579, rfl, y580⟩ := hO576.by_
      have hS581 := bt hS566 hb574
      refine ⟨hS581, ?_⟩
      simp only [lay]
      have b583 := bt (bt b560 hb564) hb574
      refine t1 8 rfl (ow_call (fun v w' => (∃ q, v = .tuple #[.int .u16 q, .int .i64 0] ∧ q = (updateS (two17 (d.bl.set (0 + 0) 0) 2) (d.bl.take 2 ++ d.src ++ d.dst ++ [0, 0, n / 256, n % 256, 0, 58]) ((d.bl.set (0 + 0) 0).take 2 ++ (List.replicate 38 0))).1 ∧ 0 ≤ q ∧ q < 65536) ∧ Below W573.heap.size W573 w') (by exact xk Try.func83) (update_one (two17_rng (own_byS hO377).rng 2) (own_byS (own386.to b583)) (own_byS hO576) (by constructor <;> simp only [List.length_append, List.length_take, List.length_set, List.length_replicate, List.length_cons, List.length_nil, dsL, ddL] <;> omega)) ?_)
      rintro _ W585 ⟨⟨q587, rfl, hq588, q0589, q1590⟩, hb586⟩
      have z591 := hb586.size
      have hS592 := bt hS581 hb586
      refine ⟨hS592, ?_⟩
      simp only [lay]
      refine te 9 (.tuple #[.int .u16 q587, .int .i64 0]) hS592 rfl (by intro _ _; exact xm) ?_
      refine te 10 (.int .u16 q587) hS592 rfl (by intro _ _; exact xe) ?_
      refine te 11 (.int .i64 0) hS592 rfl (by intro _ _; exact xe) ?_
      refine te 12 (.int .u16 q587) hS592 rfl (by intro _ _; exact xa) ?_
      simp only [lay]
      refine te 13 (.int .i64 0) hS592 rfl (by intro _ _; exact xa) ?_
      simp only [lay]
      refine wpAnyH_done (by kernel_rfl) ?_ _
      exact hk445 _ _ ⟨q587, g499, g551, A578, c579, rfl, (bt b583 hb586), hq588, q0589, q1590⟩
   rintro _ W444 ⟨q438, g402, g410, A427, c428, rfl, hb594, hx595, hx596, hx597⟩
   have z598 := hb594.size
   change Code.wp _ _ _ _ _
   refine wp_region_lit ?_
   refine lv (sq9 g124 0 d.bl.length c24) (by exact xm) ?_
   refine lv (.int .u16 q438) (by exact xm) ?_
   simp only [lay]
   refine lz (ow_call (fun v w' => v = .tuple #[] ∧ OwnB w' W9.heap.size (sq9 g124 0 d.bl.length c24) (put17 (d.bl.set (0 + 0) 0) 2 q438) ∧ But6 g124 W444 w' ∧ Below g124 W444 w') (by exact xk Try.func52) ((set18_any g124 d.bl.length c24 W9.heap.size 2 q438 (by omega) _ W444 (hO377.to hb594) (by omega) (by omega)).mono fun e w' h => ⟨_, h.1, rfl, h.2⟩) ?_)
   rintro _ W601 ⟨rfl, hO600, bs599, hb602⟩
   have z607 := hb602.size
   have own608 := (((hO98.to (bt hb105 hb116)).but6 bs378 (by omega)).to hb594).but6 bs599 (by omega)
   have has609 := (((hg102.to hb116).but6 bs378 (by omega)).to hb594).but6 bs599 (by omega)
   have own610 := (own386.to hb594).but6 bs599 (by omega)
   simp only [lay]
   refine wn ?_
   refine wp_sr ?_
   refine lv (sq9 g124 0 d.bl.length c24) (by exact xm) ?_
   refine lv (sq9 g124 0 d.bl.length c24) (by exact xa) ?_
   simp only [lay]
   refine wn ?_
   refine wp_ret ?_
   try simp only [Exit.then]
   rw [two17_set0, take2_set (by omega)] at hx595
   have ho : one18 (d.bl.getD 0 0) = 0 := by unfold one18; rw [if_neg (by assumption)]
   have e : told18 d s t n = put17 (d.bl.set (0 + 0) 0) 2 q438 := by
    unfold told18 from18
    repeat (first|rw [if_pos (by first|assumption|omega)]|rw [if_neg (by first|assumption|omega|exact ne_true_of_eq_false (by assumption))])
    rw [ho, hx595]
    simp only [List.append_assoc, List.cons_append, List.nil_append]
   have l616 := Nat.le_trans b16.size h125
   exact bodyPost_ret (res_one Try.results54 rfl) rfl ⟨_, rfl, by rw [e]; exact (hO600.more b16.size), ((bt ((bt (bt (bt (bt (bt b16 hb19) hb84) hb96) hb105) hb116).trans (hb379.mono l616)) hb594).trans (hb602.mono l616))⟩
  refine lv (.bool false) (by exact ex_geq (by rfl) (by rfl) (by rfl) (decide_eq_false (by first|assumption|omega|decide))) ?_
  refine lv (.bool false) (by exact xp (b := true)) ?_
  refine lv (.bool false) (by exact xa) ?_
  simp only [lay]
  refine wn ?_
  refine cF9 ?_
  refine wp_skip ?_
  change Code.wp _ _ _ _ _
  refine wp_sr ?_
  refine lv (.slice A23 d.bl.length c24) (by exact xm) ?_
  refine lv (.slice A23 d.bl.length c24) (by exact xa) ?_
  simp only [lay]
  refine wn ?_
  refine wp_ret ?_
  try simp only [Exit.then]
  have e : told18 d s t n = d.bl := by
   unfold told18
   repeat (first|rw [if_pos (by first|assumption|omega)]|rw [if_neg (by first|assumption|omega|exact ne_true_of_eq_false (by assumption))])
  exact bodyPost_ret (res_one Try.results54 rfl) rfl ⟨_, rfl, by rw [e]; exact (hO21.more b16.size), (bt b16 hb19)⟩
 refine lv (.bool false) (by exact yqn) ?_
 refine lv (.bool false) (by exact xm) ?_
 refine lzn ?_
 refine lzn ?_
 simp only [lay]
 refine lzn ?_
 refine lv (.bool false) (by exact xp (b := false)) ?_
 refine lv (.bool false) (by exact xa) ?_
 simp only [lay]
 refine wn ?_
 refine cF9 ?_
 refine wp_skip ?_
 change Code.wp _ _ _ _ _
 refine wp_sr ?_
 refine lv (.slice A23 d.bl.length c24) (by exact xm) ?_
 refine lv (.slice A23 d.bl.length c24) (by exact xa) ?_
 simp only [lay]
 refine wn ?_
 refine wp_ret ?_
 try simp only [Exit.then]
 have e : told18 d s t n = d.bl := by
  unfold told18
  repeat (first|rw [if_pos (by first|assumption|omega)]|rw [if_neg (by first|assumption|omega|exact ne_true_of_eq_false (by assumption))])
 exact bodyPost_ret (res_one Try.results54 rfl) rfl ⟨_, rfl, by rw [e]; exact (hO21.more b16.size), (bt b16 hb19)⟩
set_option maxRecDepth 100000 in
set_option maxHeartbeats 8000000 in
theorem rtold18_any (d : D6) (p : W6) (s t : List Int) (hE : E4ok s t) (n : Int) (hn : 0 ≤ n ∧ n < 65536) (w : World) (hR : Rd6 w.heap.size w d p) (hm : d.bl.length ≤ 65535) :
  Calls Try.prog 58 #[.agg (d.cells p), .agg (e4c s t), .int .i64 n] w fun e w' => ∃ v, e = .returned v ∧ OwnB w' w.heap.size v (told18 d s t n) ∧ Below w.heap.size w w' := by
 have sL := hE.sL
 have tL := hE.tL
 have dsL := hR.ok.srcL
 have ddL := hR.ok.dstL
 have yb6 := hR.body
 have hlb := yb6.len
 go_enter Try.func58, Try.ntmps58
 refine wp_sr ?_
 refine lz (ow_box 28 (.tmp 0) _ rfl rfl ?_)
 intro g1 W2 hg3 ge4 sz5 hb6
 have z7 := hb6.size
 simp only [lay]
 refine lz (ow_box 32 (.tmp 1) _ rfl rfl ?_)
 intro g8 W9 hg10 ge11 sz12 hb13
 have z14 := hb13.size
 simp only [lay]
 refine lv (.slice none 0 0) (by exact xa) ?_
 simp only [lay]
 refine wn ?_
 refine wp_sr ?_
 refine lz (ow_build0 rfl Try.underlying26 (by kernel_rfl) ?_)
 intro g15 W16 hg17 ge18 sz19 hb20
 have z21 := hb20.size
 have hO22 : OwnB W16 W9.heap.size (sq9 g15 0 0 0) [] := OwnB.blk (l := []) hg17 (Nat.le_of_eq ge18.symm) rfl InB.nil (by simp)
 simp only [lay]
 refine lv (pq9 g1 41) (by exact xf 41 0 Try.underlying28) ?_
 simp only [lay]
 have b23 := bt hb13 hb20
 refine lv (.slice p.bA d.bl.length p.bc) (by exact xc Try.underlying26 ((hg3.to b23).cell 41 rfl)) ?_
 simp only [lay]
 have b30 := bt hb6 hb13
 have b31 := bt b30 hb20
 have by32 := yb6.to b31
 refine lz (ow_app (.tmp 12) (.tmp 14) 26 rfl Try.underlying26 info8 _ _ [] rfl hO22 _ _ _ _ d.bl rfl by32 (by first|decide|(simp only [List.length_nil, List.length_append, List.length_cons, from18, dsL, ddL]; omega)) hb20.size ?_)
 intro v29 W25 hO26 hb27 hgr28
 have z33 := hb27.size
 have hO34 : OwnB W25 W9.heap.size v29 d.bl := hO26
 obtain ⟨A35, c36, rfl, y37⟩ := hO34.by_
 simp only [lay]
 refine lv (.slice A35 d.bl.length c36) (by exact xa) ?_
 simp only [lay]
 refine wn ?_
 refine wp_seq ?_
 refine wp_block ?_
 refine wp_sr ?_
 refine lv (pq9 g1 38) (by exact xf 38 0 Try.underlying28) ?_
 simp only [lay]
 have has40 := hg3.to (b23.trans (hb27.mono (Nat.le_trans hb13.size (Nat.le_refl _))))
 refine lv (.int .i64 d.off) (by exact xc Try.underlying3 (has40.cell 38 rfl)) ?_
 simp only [lay]
 by_cases q41 : d.off > 0
 case pos =>
  refine lv (.bool true) (by exact ex_gtr (by rfl) (by rfl) (by rfl) (decide_eq_true (by first|assumption|omega|decide))) ?_
  refine lv (.bool true) (by exact xa) ?_
  simp only [lay]
  refine wn ?_
  refine cT9 ?_
  refine wp_skip ?_
  change Code.wp _ _ _ _ _
  refine wp_sr ?_
  refine lv (.slice A35 d.bl.length c36) (by exact xm) ?_
  refine lv (.slice A35 d.bl.length c36) (by exact xa) ?_
  simp only [lay]
  refine wn ?_
  refine wp_ret ?_
  try simp only [Exit.then]
  have e : told18 d s t n = d.bl := by
   unfold told18
   repeat (first|rw [if_pos (by first|assumption|omega)]|rw [if_neg (by first|assumption|omega|exact ne_true_of_eq_false (by assumption))])
  exact bodyPost_ret (res_one Try.results58 rfl) rfl ⟨_, rfl, by rw [e]; exact (hO34.more b30.size), (b31.trans (hb27.mono (Nat.le_trans b30.size (Nat.le_refl _))))⟩
 refine lv (.bool false) (by exact ex_gtr (by rfl) (by rfl) (by rfl) (decide_eq_false (by first|assumption|omega|decide))) ?_
 refine lv (.bool false) (by exact xa) ?_
 simp only [lay]
 refine wn ?_
 refine cF9 ?_
 refine wp_sr ?_
 refine lv (pq9 g1 40) (by exact xf 40 0 Try.underlying28) ?_
 refine lv (.int .u8 d.pro) (by exact xc Try.underlying5 (has40.cell 40 rfl)) ?_
 simp only [lay]
 by_cases q44 : d.pro = 6
 case pos =>
  refine lv (.bool true) (by exact yq) ?_
  refine lv (.bool true) (by exact xm) ?_
  refine lv (.slice A35 d.bl.length c36) (by exact xm) ?_
  refine lv (.int .i64 (d.bl.length : Int)) (by exact xz Try.underlying26) ?_
  simp only [lay]
  by_cases q45 : (d.bl.length : Int) ≥ 18
  case pos =>
   refine lv (.bool true) (by exact ex_geq (by rfl) (by rfl) (by rfl) (decide_eq_true (by first|assumption|omega|decide))) ?_
   refine lv (.bool true) (by exact xp (b := true)) ?_
   refine lv (.bool true) (by exact xa) ?_
   simp only [lay]
   refine wn ?_
   refine cT9 ?_
   refine wp_sr ?_
   refine lv (.agg (d.cells p)) (by exact xo (has40.load (P := Try.prog) 28 Try.underlying28 rfl (by kernel_rfl))) ?_
   simp only [lay]
   refine lv (.agg (e4c s t)) (by exact xo ((hg10.to (hb20.trans (hb27.mono (Nat.le_refl _)))).load (P := Try.prog) 32 Try.underlying32 rfl (by kernel_rfl))) ?_
   refine lv (.slice A35 d.bl.length c36) (by exact xm) ?_
   simp only [lay]
   refine lz (ow_call (fun v w' => OwnB w' W25.heap.size v (carry17 (d.pro == 17) (from18 d) (to18 s t) d.bl 16) ∧ Below W25.heap.size W25 w') (by exact xk Try.func74) (rcarried18_any d hR.ok p s t hE _ _ _ d.bl 16 W25 (own_byS hO34) (by omega) (by omega)) ?_)
   rintro v50 W48 ⟨hO51, hb49⟩
   have z52 := hb49.size
   obtain ⟨A53, c54, rfl, y55⟩ := hO51.by_
   simp only [lay]
   refine lv (.slice A53 ((carry17 (d.pro == 17) (from18 d) (to18 s t) d.bl 16).length) c54) (by exact xa) ?_
   simp only [lay]
   refine wn ?_
   refine wp_ret ?_
   simp only [Exit.inBlock, Exit.then]
   have hu : (d.pro == 17) = false := by rw [show d.pro = 6 from by assumption]; rfl
   have e : told18 d s t n = carry17 (d.pro == 17) (from18 d) (to18 s t) d.bl 16 := by
    unfold told18
    repeat (first|rw [if_pos (by first|assumption|omega)]|rw [if_neg (by first|assumption|omega|exact ne_true_of_eq_false (by assumption))])
    rw [hu]
   have b57 := b31.trans (hb27.mono (Nat.le_trans b30.size (Nat.le_refl _)))
   exact bodyPost_ret (res_one Try.results58 rfl) rfl ⟨_, rfl, by rw [e]; exact (hO51.more b57.size), (bt b57 hb49)⟩
  refine lv (.bool false) (by exact ex_geq (by rfl) (by rfl) (by rfl) (decide_eq_false (by first|assumption|omega|decide))) ?_
  refine lv (.bool false) (by exact xp (b := true)) ?_
  refine lv (.bool false) (by exact xa) ?_
  simp only [lay]
  refine wn ?_
  refine cF9 ?_
  refine wp_sr ?_
  refine lv (pq9 g1 40) (by exact xf 40 0 Try.underlying28) ?_
  refine lv (.int .u8 d.pro) (by exact xc Try.underlying5 (has40.cell 40 rfl)) ?_
  refine lv (.bool false) (by exact yqn) ?_
  refine lv (.bool false) (by exact xm) ?_
  simp only [lay]
  refine lzn ?_
  refine lzn ?_
  refine lzn ?_
  refine lv (.bool false) (by exact xp (b := false)) ?_
  simp only [lay]
  refine lv (.bool false) (by exact xm) ?_
  refine lzn ?_
  refine lzn ?_
  refine lzn ?_
  simp only [lay]
  refine lzn ?_
  refine lzn ?_
  refine lzn ?_
  refine lzn ?_
  simp only [lay]
  refine lzn ?_
  refine lzn ?_
  refine lzn ?_
  refine lv (.bool false) (by exact xp (b := false)) ?_
  simp only [lay]
  refine lv (.bool false) (by exact xa) ?_
  simp only [lay]
  refine wn ?_
  refine cF9 ?_
  refine wp_sr ?_
  refine lv (pq9 g1 40) (by exact xf 40 0 Try.underlying28) ?_
  refine lv (.int .u8 d.pro) (by exact xc Try.underlying5 (has40.cell 40 rfl)) ?_
  refine lv (.bool false) (by exact yqn) ?_
  refine lv (.bool false) (by exact xm) ?_
  simp only [lay]
  refine lzn ?_
  refine lzn ?_
  refine lzn ?_
  refine lv (.bool false) (by exact xp (b := false)) ?_
  simp only [lay]
  refine lv (.bool false) (by exact xa) ?_
  simp only [lay]
  refine wn ?_
  refine cF9 ?_
  refine wp_skip ?_
  change Code.wp _ _ _ _ _
  refine wp_sr ?_
  refine lv (.slice A35 d.bl.length c36) (by exact xm) ?_
  refine lv (.slice A35 d.bl.length c36) (by exact xa) ?_
  simp only [lay]
  refine wn ?_
  refine wp_ret ?_
  try simp only [Exit.then]
  have e : told18 d s t n = d.bl := by
   unfold told18
   repeat (first|rw [if_pos (by first|assumption|omega)]|rw [if_neg (by first|assumption|omega|exact ne_true_of_eq_false (by assumption))])
  exact bodyPost_ret (res_one Try.results58 rfl) rfl ⟨_, rfl, by rw [e]; exact (hO34.more b30.size), (b31.trans (hb27.mono (Nat.le_trans b30.size (Nat.le_refl _))))⟩
 refine lv (.bool false) (by exact yqn) ?_
 refine lv (.bool false) (by exact xm) ?_
 refine lzn ?_
 refine lzn ?_
 simp only [lay]
 refine lzn ?_
 refine lv (.bool false) (by exact xp (b := false)) ?_
 refine lv (.bool false) (by exact xa) ?_
 simp only [lay]
 refine wn ?_
 refine cF9 ?_
 refine wp_sr ?_
 refine lv (pq9 g1 40) (by exact xf 40 0 Try.underlying28) ?_
 refine lv (.int .u8 d.pro) (by exact xc Try.underlying5 (has40.cell 40 rfl)) ?_
 simp only [lay]
 by_cases q63 : d.pro = 17
 case pos =>
  refine lv (.bool true) (by exact yq) ?_
  refine lv (.bool true) (by exact xm) ?_
  refine lv (.slice A35 d.bl.length c36) (by exact xm) ?_
  refine lv (.int .i64 (d.bl.length : Int)) (by exact xz Try.underlying26) ?_
  simp only [lay]
  by_cases q64 : (d.bl.length : Int) ≥ 8
  case pos =>
   refine lv (.bool true) (by exact ex_geq (by rfl) (by rfl) (by rfl) (decide_eq_true (by first|assumption|omega|decide))) ?_
   refine lv (.bool true) (by exact xp (b := true)) ?_
   refine lv (.bool true) (by exact xm) ?_
   refine lv (.slice A35 d.bl.length c36) (by exact xm) ?_
   simp only [lay]
   obtain ⟨g65, rfl, h66, h67⟩ := own_form hO34 (by first|omega|(simp only [List.length_append]; omega) | simp [D4.src])
   refine lv (pq9 g65 (0 + 6)) (by exact ex_index (k := 6) (by rfl) Try.underlying26 (by kernel_rfl) (by rfl) (by rfl) (show 6 < d.bl.length by omega)) ?_
   refine lv (.int .u8 (d.bl.getD 6 0)) (by exact xc Try.underlying5 ((own_byS hO34).atE (k := 6) rfl (by omega))) ?_
   simp only [lay]
   by_cases q68 : d.bl.getD 6 0 = 0
   case pos =>
    refine lv (.bool false) (by exact neq_int_eq (by rfl) (by rfl) (by rfl) (by first|assumption|omega)) ?_
    refine lv (.bool false) (by exact xm) ?_
    refine lv (sq9 g65 0 d.bl.length c36) (by exact xm) ?_
    refine lv (pq9 g65 (0 + 7)) (by exact ex_index (k := 7) (by rfl) Try.underlying26 (by kernel_rfl) (by rfl) (by rfl) (show 7 < d.bl.length by omega)) ?_
    simp only [lay]
    refine lv (.int .u8 (d.bl.getD 7 0)) (by exact xc Try.underlying5 ((own_byS hO34).atE (k := 7) rfl (by omega))) ?_
    simp only [lay]
    by_cases q69 : d.bl.getD 7 0 = 0
    case pos =>
     refine lv (.bool false) (by exact neq_int_eq (by rfl) (by rfl) (by rfl) (by first|assumption|omega)) ?_
     refine lv (.bool false) (by exact xp (b := false)) ?_
     refine lv (.bool false) (by exact xp (b := true)) ?_
     refine lv (.bool false) (by exact xa) ?_
     simp only [lay]
     refine wn ?_
     refine cF9 ?_
     refine wp_sr ?_
     refine lv (pq9 g1 40) (by exact xf 40 0 Try.underlying28) ?_
     refine lv (.int .u8 d.pro) (by exact xc Try.underlying5 (has40.cell 40 rfl)) ?_
     refine lv (.bool false) (by exact yqn) ?_
     refine lv (.bool false) (by exact xm) ?_
     simp only [lay]
     refine lzn ?_
     refine lzn ?_
     refine lzn ?_
     refine lv (.bool false) (by exact xp (b := false)) ?_
     simp only [lay]
     refine lv (.bool false) (by exact xa) ?_
     simp only [lay]
     refine wn ?_
     refine cF9 ?_
     refine wp_skip ?_
     change Code.wp _ _ _ _ _
     refine wp_sr ?_
     refine lv (sq9 g65 0 d.bl.length c36) (by exact xm) ?_
     refine lv (sq9 g65 0 d.bl.length c36) (by exact xa) ?_
     simp only [lay]
     refine wn ?_
     refine wp_ret ?_
     try simp only [Exit.then]
     have e : told18 d s t n = d.bl := by
      unfold told18
      repeat (first|rw [if_pos (by first|assumption|omega)]|rw [if_neg (by first|assumption|omega|exact ne_true_of_eq_false (by assumption))])
     exact bodyPost_ret (res_one Try.results58 rfl) rfl ⟨_, rfl, by rw [e]; exact (hO34.more b30.size), (b31.trans (hb27.mono (Nat.le_trans b30.size (Nat.le_refl _))))⟩
    refine lv (.bool true) (by exact neq_int_ne (by rfl) (by rfl) (by rfl) (by first|assumption|omega)) ?_
    refine lv (.bool true) (by exact xp (b := false)) ?_
    refine lv (.bool true) (by exact xp (b := true)) ?_
    refine lv (.bool true) (by exact xa) ?_
    simp only [lay]
    refine wn ?_
    refine cT9 ?_
    refine wp_sr ?_
    refine lv (.agg (d.cells p)) (by exact xo (has40.load (P := Try.prog) 28 Try.underlying28 rfl (by kernel_rfl))) ?_
    simp only [lay]
    refine lv (.agg (e4c s t)) (by exact xo ((hg10.to (hb20.trans (hb27.mono (Nat.le_refl _)))).load (P := Try.prog) 32 Try.underlying32 rfl (by kernel_rfl))) ?_
    refine lv (sq9 g65 0 d.bl.length c36) (by exact xm) ?_
    simp only [lay]
    refine lz (ow_call (fun v w' => OwnB w' W25.heap.size v (carry17 (d.pro == 17) (from18 d) (to18 s t) d.bl 6) ∧ Below W25.heap.size W25 w') (by exact xk Try.func74) (rcarried18_any d hR.ok p s t hE _ _ _ d.bl 6 W25 (own_byS hO34) (by omega) (by omega)) ?_)
    rintro v77 W75 ⟨hO78, hb76⟩
    have z79 := hb76.size
    obtain ⟨A80, c81, rfl, y82⟩ := hO78.by_
    simp only [lay]
    refine lv (.slice A80 ((carry17 (d.pro == 17) (from18 d) (to18 s t) d.bl 6).length) c81) (by exact xa) ?_
    simp only [lay]
    refine wn ?_
    refine wp_ret ?_
    simp only [Exit.inBlock, Exit.then]
    have hu : (d.pro == 17) = true := by rw [show d.pro = 17 from by assumption]; rfl
    have e : told18 d s t n = carry17 (d.pro == 17) (from18 d) (to18 s t) d.bl 6 := by
     unfold told18
     repeat (first|rw [if_pos (by first|assumption|omega)]|rw [if_neg (by first|assumption|omega|exact ne_true_of_eq_false (by assumption))])
     rw [hu]
    have b84 := b31.trans (hb27.mono (Nat.le_trans b30.size (Nat.le_refl _)))
    exact bodyPost_ret (res_one Try.results58 rfl) rfl ⟨_, rfl, by rw [e]; exact (hO78.more b84.size), (bt b84 hb76)⟩
   refine lv (.bool true) (by exact neq_int_ne (by rfl) (by rfl) (by rfl) (by first|assumption|omega)) ?_
   refine lv (.bool true) (by exact xm) ?_
   refine lzn ?_
   refine lzn ?_
   simp only [lay]
   refine lzn ?_
   refine lzn ?_
   refine lv (.bool true) (by exact xp (b := true)) ?_
   refine lv (.bool true) (by exact xp (b := true)) ?_
   simp only [lay]
   refine lv (.bool true) (by exact xa) ?_
   simp only [lay]
   refine wn ?_
   refine cT9 ?_
   refine wp_sr ?_
   refine lv (.agg (d.cells p)) (by exact xo (has40.load (P := Try.prog) 28 Try.underlying28 rfl (by kernel_rfl))) ?_
   simp only [lay]
   refine lv (.agg (e4c s t)) (by exact xo ((hg10.to (hb20.trans (hb27.mono (Nat.le_refl _)))).load (P := Try.prog) 32 Try.underlying32 rfl (by kernel_rfl))) ?_
   refine lv (sq9 g65 0 d.bl.length c36) (by exact xm) ?_
   simp only [lay]
   refine lz (ow_call (fun v w' => OwnB w' W25.heap.size v (carry17 (d.pro == 17) (from18 d) (to18 s t) d.bl 6) ∧ Below W25.heap.size W25 w') (by exact xk Try.func74) (rcarried18_any d hR.ok p s t hE _ _ _ d.bl 6 W25 (own_byS hO34) (by omega) (by omega)) ?_)
   rintro v90 W88 ⟨hO91, hb89⟩
   have z92 := hb89.size
   obtain ⟨A93, c94, rfl, y95⟩ := hO91.by_
   simp only [lay]
   refine lv (.slice A93 ((carry17 (d.pro == 17) (from18 d) (to18 s t) d.bl 6).length) c94) (by exact xa) ?_
   simp only [lay]
   refine wn ?_
   refine wp_ret ?_
   simp only [Exit.inBlock, Exit.then]
   have hu : (d.pro == 17) = true := by rw [show d.pro = 17 from by assumption]; rfl
   have e : told18 d s t n = carry17 (d.pro == 17) (from18 d) (to18 s t) d.bl 6 := by
    unfold told18
    repeat (first|rw [if_pos (by first|assumption|omega)]|rw [if_neg (by first|assumption|omega|exact ne_true_of_eq_false (by assumption))])
    rw [hu]
   have b97 := b31.trans (hb27.mono (Nat.le_trans b30.size (Nat.le_refl _)))
   exact bodyPost_ret (res_one Try.results58 rfl) rfl ⟨_, rfl, by rw [e]; exact (hO91.more b97.size), (bt b97 hb89)⟩
  refine lv (.bool false) (by exact ex_geq (by rfl) (by rfl) (by rfl) (decide_eq_false (by first|assumption|omega|decide))) ?_
  refine lv (.bool false) (by exact xp (b := true)) ?_
  refine lv (.bool false) (by exact xm) ?_
  refine lzn ?_
  simp only [lay]
  refine lzn ?_
  refine lzn ?_
  refine lzn ?_
  refine lzn ?_
  simp only [lay]
  refine lzn ?_
  refine lzn ?_
  refine lzn ?_
  refine lzn ?_
  simp only [lay]
  refine lzn ?_
  refine lv (.bool false) (by exact xp (b := false)) ?_
  refine lv (.bool false) (by exact xa) ?_
  simp only [lay]
  refine wn ?_
  refine cF9 ?_
  refine wp_sr ?_
  refine lv (pq9 g1 40) (by exact xf 40 0 Try.underlying28) ?_
  refine lv (.int .u8 d.pro) (by exact xc Try.underlying5 (has40.cell 40 rfl)) ?_
  refine lv (.bool false) (by exact yqn) ?_
  refine lv (.bool false) (by exact xm) ?_
  simp only [lay]
  refine lzn ?_
  refine lzn ?_
  refine lzn ?_
  refine lv (.bool false) (by exact xp (b := false)) ?_
  simp only [lay]
  refine lv (.bool false) (by exact xa) ?_
  simp only [lay]
  refine wn ?_
  refine cF9 ?_
  refine wp_skip ?_
  change Code.wp _ _ _ _ _
  refine wp_sr ?_
  refine lv (.slice A35 d.bl.length c36) (by exact xm) ?_
  refine lv (.slice A35 d.bl.length c36) (by exact xa) ?_
  simp only [lay]
  refine wn ?_
  refine wp_ret ?_
  try simp only [Exit.then]
  have e : told18 d s t n = d.bl := by
   unfold told18
   repeat (first|rw [if_pos (by first|assumption|omega)]|rw [if_neg (by first|assumption|omega|exact ne_true_of_eq_false (by assumption))])
  exact bodyPost_ret (res_one Try.results58 rfl) rfl ⟨_, rfl, by rw [e]; exact (hO34.more b30.size), (b31.trans (hb27.mono (Nat.le_trans b30.size (Nat.le_refl _))))⟩
 refine lv (.bool false) (by exact yqn) ?_
 refine lv (.bool false) (by exact xm) ?_
 refine lzn ?_
 refine lzn ?_
 simp only [lay]
 refine lzn ?_
 refine lv (.bool false) (by exact xp (b := false)) ?_
 refine lv (.bool false) (by exact xm) ?_
 refine lzn ?_
 simp only [lay]
 refine lzn ?_
 refine lzn ?_
 refine lzn ?_
 refine lzn ?_
 simp only [lay]
 refine lzn ?_
 refine lzn ?_
 refine lzn ?_
 refine lzn ?_
 simp only [lay]
 refine lzn ?_
 refine lv (.bool false) (by exact xp (b := false)) ?_
 refine lv (.bool false) (by exact xa) ?_
 simp only [lay]
 refine wn ?_
 refine cF9 ?_
 refine wp_sr ?_
 refine lv (pq9 g1 40) (by exact xf 40 0 Try.underlying28) ?_
 refine lv (.int .u8 d.pro) (by exact xc Try.underlying5 (has40.cell 40 rfl)) ?_
 simp only [lay]
 by_cases q102 : d.pro = 58
 case pos =>
  refine lv (.bool true) (by exact yq) ?_
  refine lv (.bool true) (by exact xm) ?_
  refine lv (.slice A35 d.bl.length c36) (by exact xm) ?_
  refine lv (.int .i64 (d.bl.length : Int)) (by exact xz Try.underlying26) ?_
  simp only [lay]
  by_cases q103 : (d.bl.length : Int) ≥ 4
  case pos =>
   refine lv (.bool true) (by exact ex_geq (by rfl) (by rfl) (by rfl) (decide_eq_true (by first|assumption|omega|decide))) ?_
   refine lv (.bool true) (by exact xp (b := true)) ?_
   refine lv (.bool true) (by exact xa) ?_
   simp only [lay]
   refine wn ?_
   refine cT9 ?_
   refine wp_seq ?_
   obtain ⟨g104, rfl, h105, h106⟩ := own_form hO34 (by first|omega|(simp only [List.length_append]; omega) | simp [D4.src])
   refine rg_drawn W25.heap.size (by kernel_rfl) (Nat.le_refl _) ?_
   intro W107 hb108 hs109 hS110
   have z111 := hb108.size
   refine wpAnyH_join (fun a W => ∃ (A140 : Option Addr) (c141 : Nat) (g114 : Nat) (A128 : Option Addr) (c129 : Nat), a = ⟨#[.agg (d.cells p), .agg (e4c s t), .int .i64 n, pq9 g1 0, pq9 g8 0, undef, .slice none 0 0, sq9 g104 0 d.bl.length c36, .slice A140 (([d.bl.getD 0 0, d.bl.getD 1 0] ++ (from18 d)).length) c141, undef, undef, undef, sq9 g15 0 0 0, pq9 g1 41, .slice p.bA d.bl.length p.bc, sq9 g104 0 d.bl.length c36, .bool false, pq9 g1 38, .int .i64 d.off, .bool false, .bool false, pq9 g1 40, .int .u8 d.pro, .bool false, .bool false, undef, undef, undef, .bool false, undef, undef, undef, undef, .bool false, pq9 g1 40, .int .u8 d.pro, .bool false, .bool false, undef, undef, undef, .bool false, .bool false, undef, undef, undef, undef, undef, undef, undef, undef, undef, undef, .bool false, undef, undef, undef, undef, .bool true, pq9 g1 40, .int .u8 d.pro, .bool true, .bool true, sq9 g104 0 d.bl.length c36, .int .i64 (d.bl.length : Int), .bool true, .bool true, sq9 g104 0 d.bl.length c36, pq9 g104 (0 + 0), .int .u8 (d.bl.getD 0 0), sq9 g104 0 d.bl.length c36, pq9 g104 (0 + 1), .int .u8 (d.bl.getD 1 0), sq9 g114 0 2 2, .agg (d.cells p), .slice A128 ((from18 d).length) c129, .slice A140 (([d.bl.getD 0 0, d.bl.getD 1 0] ++ (from18 d)).length) c141, undef, undef, undef, undef, undef, undef, undef, undef, undef, undef, undef, undef, undef, undef, undef, undef, undef, undef, undef, undef, undef, undef, undef, undef, undef, undef, undef, undef, undef, undef, undef, undef, undef, undef, undef, undef, undef, undef, undef, undef, undef, undef, undef, undef, undef, undef, undef, undef, undef, undef], []⟩ ∧ Below W25.heap.size W25 W ∧ OwnB W W25.heap.size (.slice A140 (([d.bl.getD 0 0, d.bl.getD 1 0] ++ (from18 d)).length) c141) ([d.bl.getD 0 0, d.bl.getD 1 0] ++ (from18 d))) (fun hk145 => ?_) ?_
   case refine_1 =>
    refine te 0 (sq9 g104 0 d.bl.length c36) hS110 rfl (by intro _ _; exact xm) ?_
    refine te 1 (pq9 g104 (0 + 0)) hS110 rfl (by intro _ _; exact ex_index (k := 0) (by rfl) Try.underlying26 (by kernel_rfl) (by rfl) (by rfl) (show 0 < d.bl.length by omega)) ?_
    refine te 2 (.int .u8 (d.bl.getD 0 0)) hS110 rfl (by intro _ h; exact xc Try.underlying5 ((own_byS (hO34.to h)).atE (k := 0) rfl (by omega))) ?_
    refine te 3 (sq9 g104 0 d.bl.length c36) hS110 rfl (by intro _ _; exact xm) ?_
    simp only [lay]
    refine te 4 (pq9 g104 (0 + 1)) hS110 rfl (by intro _ _; exact ex_index (k := 1) (by rfl) Try.underlying26 (by kernel_rfl) (by rfl) (by rfl) (show 1 < d.bl.length by omega)) ?_
    refine te 5 (.int .u8 (d.bl.getD 1 0)) hS110 rfl (by intro _ h; exact xc Try.underlying5 ((own_byS (hO34.to h)).atE (k := 1) rfl (by omega))) ?_
    refine te 7 (.agg (d.cells p)) hS110 rfl (by intro _ h; exact xo ((has40.to h).load (P := Try.prog) 28 Try.underlying28 rfl (by kernel_rfl))) ?_
    simp only [lay]
    refine tk_two (i := 6) (j := 8) (by kernel_rfl) ?L146 ?L147
    case L146 =>
     refine rs (i := 6) rfl (by kernel_rfl) (ow_build (u8s [d.bl.getD 0 0, d.bl.getD 1 0]) rfl Try.underlying26 (by kernel_rfl) (by kernel_rfl) rfl (by decide) (by decide) (by first|rfl|(simp only [List.map_toArray, List.map_cons, List.map_nil] <;> rfl)) (u8s_cells _) ?_)
     intro g148 W149 hg150 ge151 sz152 hb153
     have z154 := hb153.size
     have hO155 := OwnB.blk hg150 (Nat.le_of_eq ge151.symm) rfl (by intro x hx; simp only [List.mem_cons, List.not_mem_nil, or_false] at hx; have := (getD_byte hO34.rng 0); have := (getD_byte hO34.rng 1); omega) (by simp)
     have hS156 := bt hS110 hb153
     refine ⟨hS156, ?_⟩
     simp only [lay]
     refine t1 8 rfl (ow_call (fun v w' => OwnB w' W149.heap.size v (from18 d) ∧ Below W149.heap.size W149 w') (by exact xk Try.func86) (rsix18_any d hR.ok p W149) ?_)
     rintro v159 W157 ⟨hO160, hb158⟩
     have z161 := hb158.size
     obtain ⟨A162, c163, rfl, y164⟩ := hO160.by_
     have hS165 := bt hS156 hb158
     refine ⟨hS165, ?_⟩
     simp only [lay]
     refine t1 9 rfl (ow_app (.tmp 73) (.tmp 75) 26 rfl Try.underlying26 info8 _ _ [d.bl.getD 0 0, d.bl.getD 1 0] rfl (hO155.to hb158) _ _ _ _ (from18 d) rfl (own_byS hO160) (by first|decide|(simp only [List.length_nil, List.length_append, List.length_cons, from18, dsL, ddL]; omega)) (bt hb153 hb158).size ?_)
     intro v170 W166 hO167 hb168 hgr169
     have z173 := hb168.size
     obtain ⟨A174, c175, rfl, y176⟩ := hO167.by_
     refine ⟨(Below.trans hS165 (hb168.mono hb108.size)), ?_⟩
     have hS177 := (Below.trans hS165 (hb168.mono hb108.size))
     simp only [lay]
     refine te 10 (.slice A174 (([d.bl.getD 0 0, d.bl.getD 1 0] ++ (from18 d)).length) c175) hS177 rfl (by intro _ _; exact xa) ?_
     simp only [lay]
     refine wpAnyH_done (by kernel_rfl) ?_ _
     exact hk145 _ _ ⟨A174, c175, g148, A162, c163, rfl, ((bt (bt hb108 hb153) hb158).trans (hb168.mono (Nat.le_trans hb108.size (Nat.le_refl _)))), (hO167.more hb108.size)⟩
    case L147 =>
     refine rs (i := 8) rfl (by kernel_rfl) (ow_call (fun v w' => OwnB w' W107.heap.size v (from18 d) ∧ Below W107.heap.size W107 w') (by exact xk Try.func86) (rsix18_any d hR.ok p W107) ?_)
     rintro v184 W182 ⟨hO185, hb183⟩
     have z186 := hb183.size
     obtain ⟨A187, c188, rfl, y189⟩ := hO185.by_
     have hS190 := bt hS110 hb183
     refine ⟨hS190, ?_⟩
     simp only [lay]
     refine t1 6 rfl (ow_build (u8s [d.bl.getD 0 0, d.bl.getD 1 0]) rfl Try.underlying26 (by kernel_rfl) (by kernel_rfl) rfl (by decide) (by decide) (by first|rfl|(simp only [List.map_toArray, List.map_cons, List.map_nil] <;> rfl)) (u8s_cells _) ?_)
     intro g191 W192 hg193 ge194 sz195 hb196
     have z197 := hb196.size
     have hO198 := OwnB.blk hg193 (Nat.le_of_eq ge194.symm) rfl (by intro x hx; simp only [List.mem_cons, List.not_mem_nil, or_false] at hx; have := (getD_byte hO34.rng 0); have := (getD_byte hO34.rng 1); omega) (by simp)
     have hS199 := bt hS190 hb196
     refine ⟨hS199, ?_⟩
     simp only [lay]
     refine t1 9 rfl (ow_app (.tmp 73) (.tmp 75) 26 rfl Try.underlying26 info8 _ _ [d.bl.getD 0 0, d.bl.getD 1 0] rfl hO198 _ _ _ _ (from18 d) rfl (own_byS (hO185.to hb196)) (by first|decide|(simp only [List.length_nil, List.length_append, List.length_cons, from18, dsL, ddL]; omega)) hb196.size ?_)
     intro v204 W200 hO201 hb202 hgr203
     have b206 := bt hb108 hb183
     have z207 := hb202.size
     obtain ⟨A208, c209, rfl, y210⟩ := hO201.by_
     refine ⟨(Below.trans hS199 (hb202.mono b206.size)), ?_⟩
     have hS211 := (Below.trans hS199 (hb202.mono b206.size))
     simp only [lay]
     refine te 10 (.slice A208 (([d.bl.getD 0 0, d.bl.getD 1 0] ++ (from18 d)).length) c209) hS211 rfl (by intro _ _; exact xa) ?_
     simp only [lay]
     refine wpAnyH_done (by kernel_rfl) ?_ _
     exact hk145 _ _ ⟨A208, c209, g191, A187, c188, rfl, ((bt b206 hb196).trans (hb202.mono (Nat.le_trans b206.size (Nat.le_refl _)))), (hO201.more b206.size)⟩
   rintro _ W144 ⟨A140, c141, g114, A128, c129, rfl, hb215, hO216⟩
   have z217 := hb215.size
   change Code.wp _ _ _ _ _
   refine wp_sr ?_
   refine lv (.slice A140 (([d.bl.getD 0 0, d.bl.getD 1 0] ++ (from18 d)).length) c141) (by exact xm) ?_
   refine lv (.int .i64 n) (by exact xm) ?_
   refine lv (.int .i64 (n / 256)) (by exact xb (shr8_i64 _ _ _)) ?_
   refine lv (.int .u8 (n / 256)) (by exact xv (conv_u8' 3 5 .i64 (n / 256) (by kernel_rfl) Try.underlying5 (by omega) _)) ?_
   simp only [lay]
   refine lv (.int .i64 n) (by exact xm) ?_
   refine lv (.int .u8 (n % 256)) (by exact xv (conv_u8 3 5 .i64 n (by kernel_rfl) Try.underlying5 _)) ?_
   simp only [lay]
   refine lz (ow_build (u8s [0, 0, n / 256, n % 256, 0, 58]) rfl Try.underlying26 (by kernel_rfl) (by kernel_rfl) rfl (by decide) (by decide) (by first|rfl|(simp only [List.map_toArray, List.map_cons, List.map_nil] <;> rfl)) (u8s_cells _) ?_)
   intro g218 W219 hg220 ge221 sz222 hb223
   have z224 := hb223.size
   have hO225 := OwnB.blk hg220 (Nat.le_of_eq ge221.symm) rfl (by intro x hx; simp only [List.mem_cons, List.not_mem_nil, or_false] at hx; omega) (by simp)
   simp only [lay]
   have b232 := bt hb215 hb223
   refine lz (ow_app (.tmp 77) (.tmp 83) 26 rfl Try.underlying26 info8 _ _ ([d.bl.getD 0 0, d.bl.getD 1 0] ++ (from18 d)) rfl (hO216.to hb223) _ _ _ _ [0, 0, n / 256, n % 256, 0, 58] rfl (own_byS hO225) (by first|decide|(simp only [List.length_nil, List.length_append, List.length_cons, from18, dsL, ddL]; omega)) b232.size ?_)
   intro v230 W226 hO227 hb228 hgr229
   have z233 := hb228.size
   obtain ⟨A234, c235, rfl, y236⟩ := hO227.by_
   simp only [lay]
   refine lv (.slice A234 (([d.bl.getD 0 0, d.bl.getD 1 0] ++ (from18 d) ++ [0, 0, n / 256, n % 256, 0, 58]).length) c235) (by exact xa) ?_
   simp only [lay]
   refine wn ?_
   refine wp_seq ?_
   refine wp_sr ?_
   refine lv (sq9 g104 0 d.bl.length c36) (by exact xm) ?_
   refine lv (pq9 g104 (0 + 0)) (by exact ex_index (k := 0) (by rfl) Try.underlying26 (by kernel_rfl) (by rfl) (by rfl) (show 0 < d.bl.length by omega)) ?_
   simp only [lay]
   have own238 := hO34.to (b232.trans (hb228.mono (Nat.le_refl _)))
   refine lv (.int .u8 (d.bl.getD 0 0)) (by exact xc Try.underlying5 ((own_byS own238).atE (k := 0) rfl (by omega))) ?_
   simp only [lay]
   by_cases q239 : d.bl.getD 0 0 = 128
   case pos =>
    refine lv (.bool true) (by exact yq) ?_
    simp only [lay]
    refine wn ?_
    refine cT9 ?_
    refine wp_region_lit ?_
    refine lv (sq9 g104 0 d.bl.length c36) (by exact xm) ?_
    refine lv (pq9 g104 (0 + 0)) (by exact ex_index (k := 0) (by rfl) Try.underlying26 (by kernel_rfl) (by rfl) (by rfl) (show 0 < d.bl.length by omega)) ?_
    simp only [lay]
    refine lz (ow_stB 5 (.tmp 90) (.const (.int .u8 8)) g104 _ W9.heap.size d.bl.length c36 8 _ rfl (by rfl) (by rfl) (by kernel_rfl) own238 (by omega) (own_len own238) (by omega) ?_)
    intro W240 hO241 bs242 hb243
    have z244 := hb243.size
    have own245 := hO227.but6 bs242 (by omega)
    simp only [lay]
    refine wn ?_
    refine wp_seq ?_
    refine rg_drawn W240.heap.size (by kernel_rfl) (Nat.le_refl _) ?_
    intro W246 hb247 hs248 hS249
    have z250 := hb247.size
    refine te 0 (sq9 g104 0 d.bl.length c36) hS249 rfl (by intro _ _; exact xm) ?_
    refine te 1 (pq9 g104 (0 + 0)) hS249 rfl (by intro _ _; exact ex_index (k := 0) (by rfl) Try.underlying26 (by kernel_rfl) (by rfl) (by rfl) (show 0 < d.bl.length by omega)) ?_
    refine te 2 (.int .u8 ((d.bl.set (0 + 0) 8).getD 0 0)) hS249 rfl (by intro _ h; exact xc Try.underlying5 ((own_byS (hO241.to h)).atE (k := 0) rfl (by omega))) ?_
    refine te 3 (sq9 g104 0 d.bl.length c36) hS249 rfl (by intro _ _; exact xm) ?_
    simp only [lay]
    refine te 4 (pq9 g104 (0 + 1)) hS249 rfl (by intro _ _; exact ex_index (k := 1) (by rfl) Try.underlying26 (by kernel_rfl) (by rfl) (by rfl) (show 1 < d.bl.length by omega)) ?_
    refine te 5 (.int .u8 ((d.bl.set (0 + 0) 8).getD 1 0)) hS249 rfl (by intro _ h; exact xc Try.underlying5 ((own_byS (hO241.to h)).atE (k := 1) rfl (by omega))) ?_
    simp only [lay]
    refine t1 6 rfl (ow_build (u8s [(d.bl.set (0 + 0) 8).getD 0 0, (d.bl.set (0 + 0) 8).getD 1 0]) rfl Try.underlying26 (by kernel_rfl) (by kernel_rfl) rfl (by decide) (by decide) (by first|rfl|(simp only [List.map_toArray, List.map_cons, List.map_nil] <;> rfl)) (u8s_cells _) ?_)
    intro g251 W252 hg253 ge254 sz255 hb256
    have z257 := hb256.size
    have hO258 := OwnB.blk hg253 (Nat.le_of_eq ge254.symm) rfl (by intro x hx; simp only [List.mem_cons, List.not_mem_nil, or_false] at hx; have := (getD_byte hO241.rng 0); have := (getD_byte hO241.rng 1); omega) (by simp)
    have hS259 := bt hS249 hb256
    refine ⟨hS259, ?_⟩
    simp only [lay]
    refine t1 7 rfl (ow_zeros (.tmp 99) (.const (.int .i64 38)) 26 3 rfl Try.underlying26 Try.underlying3 info8 _ g251 2 2 38 [(d.bl.set (0 + 0) 8).getD 0 0, (d.bl.set (0 + 0) 8).getD 1 0] rfl hO258 rfl (by decide) (by first|decide|(simp only [List.length_nil, List.length_append, List.length_cons, from18, dsL, ddL]; omega)) hb256.size ?_)
    intro v263 W260 hO261 hb262
    have z264 := hb262.size
    obtain ⟨A265, c266, rfl, y267⟩ := hO261.by_
    refine ⟨(Below.trans hS259 (hb262.mono hb247.size)), ?_⟩
    have hS268 := (Below.trans hS259 (hb262.mono hb247.size))
    simp only [lay]
    refine te 8 (.slice A265 (([(d.bl.set (0 + 0) 8).getD 0 0, (d.bl.set (0 + 0) 8).getD 1 0] ++ List.replicate 38 0).length) c266) hS268 rfl (by intro _ _; exact xa) ?_
    simp only [lay]
    refine wpAnyH_done (by kernel_rfl) ?_ _
    change Code.wp _ _ _ _ _
    refine wp_seq ?_
    refine rg_drawn W260.heap.size (by kernel_rfl) (Nat.le_refl _) ?_
    intro W269 hb270 hs271 hS272
    have z273 := hb270.size
    refine te 0 (sq9 g104 0 d.bl.length c36) hS272 rfl (by intro _ _; exact xm) ?_
    refine te 1 (pq9 g104 (0 + 2)) hS272 rfl (by intro _ _; exact ex_index (k := 2) (by rfl) Try.underlying26 (by kernel_rfl) (by rfl) (by rfl) (show 2 < d.bl.length by omega)) ?_
    simp only [lay]
    have b276 := (bt hb247 hb256).trans (hb262.mono (Nat.le_trans hb247.size (Nat.le_refl _)))
    have own277 := hO241.to b276
    refine te 2 (.int .u8 ((d.bl.set (0 + 0) 8).getD 2 0)) hS272 rfl (by intro _ h; exact xc Try.underlying5 ((own_byS (own277.to h)).atE (k := 2) rfl (by omega))) ?_
    refine te 3 (.int .u16 ((d.bl.set (0 + 0) 8).getD 2 0)) hS272 rfl (by intro _ _; exact xv (conv_u16 5 33 .u8 ((d.bl.set (0 + 0) 8).getD 2 0) (by kernel_rfl) Try.underlying33 (in_rng (getD_byte hO241.rng 2)).1 (in_rng (getD_byte hO241.rng 2)).2.1 _)) ?_
    refine te 4 (.int .u16 (((d.bl.set (0 + 0) 8).getD 2 0) * 256)) hS272 rfl (by intro _ _; exact xb (b_shl8_u16 _ _ (getD_byte hO241.rng 2) _)) ?_
    refine te 5 (sq9 g104 0 d.bl.length c36) hS272 rfl (by intro _ _; exact xm) ?_
    simp only [lay]
    refine te 6 (pq9 g104 (0 + 3)) hS272 rfl (by intro _ _; exact ex_index (k := 3) (by rfl) Try.underlying26 (by kernel_rfl) (by rfl) (by rfl) (show 3 < d.bl.length by omega)) ?_
    refine te 7 (.int .u8 ((d.bl.set (0 + 0) 8).getD 3 0)) hS272 rfl (by intro _ h; exact xc Try.underlying5 ((own_byS (own277.to h)).atE (k := 3) rfl (by omega))) ?_
    refine te 8 (.int .u16 ((d.bl.set (0 + 0) 8).getD 3 0)) hS272 rfl (by intro _ _; exact xv (conv_u16 5 33 .u8 ((d.bl.set (0 + 0) 8).getD 3 0) (by kernel_rfl) Try.underlying33 (in_rng (getD_byte hO241.rng 3)).1 (in_rng (getD_byte hO241.rng 3)).2.1 _)) ?_
    refine te 9 (.int .u16 (((d.bl.set (0 + 0) 8).getD 2 0) * 256 + (d.bl.set (0 + 0) 8).getD 3 0)) hS272 rfl (by intro _ _; exact xb (w_or16 _ _ _ (getD_byte hO241.rng 2) (getD_byte hO241.rng 3) _)) ?_
    simp only [lay]
    refine te 10 (.slice A234 (([d.bl.getD 0 0, d.bl.getD 1 0] ++ (from18 d) ++ [0, 0, n / 256, n % 256, 0, 58]).length) c235) hS272 rfl (by intro _ _; exact xm) ?_
    refine te 11 (.slice A265 (([(d.bl.set (0 + 0) 8).getD 0 0, (d.bl.set (0 + 0) 8).getD 1 0] ++ List.replicate 38 0).length) c266) hS272 rfl (by intro _ _; exact xm) ?_
    simp only [lay]
    have b278 := bt b276 hb270
    refine t1 12 rfl (ow_call (fun v w' => (∃ q, v = .tuple #[.int .u16 q, .int .i64 0] ∧ q = (updateS (((d.bl.set (0 + 0) 8).getD 2 0) * 256 + (d.bl.set (0 + 0) 8).getD 3 0) ([d.bl.getD 0 0, d.bl.getD 1 0] ++ (from18 d) ++ [0, 0, n / 256, n % 256, 0, 58]) ([(d.bl.set (0 + 0) 8).getD 0 0, (d.bl.set (0 + 0) 8).getD 1 0] ++ List.replicate 38 0)).1 ∧ 0 ≤ q ∧ q < 65536) ∧ Below W269.heap.size W269 w') (by exact xk Try.func87) (rupdate_one (two_rng (getD_byte hO241.rng 2) (getD_byte hO241.rng 3)) (own_byS (own245.to b278)) (own_byS (hO261.to hb270)) (by constructor <;> simp only [List.length_append, List.length_set, List.length_replicate, List.length_cons, List.length_nil, from18, dsL, ddL] <;> omega) (by first|omega | simp [sL, tL])) ?_)
    rintro _ W281 ⟨⟨q283, rfl, hq284, q0285, q1286⟩, hb282⟩
    have z287 := hb282.size
    have hS288 := bt hS272 hb282
    refine ⟨hS288, ?_⟩
    simp only [lay]
    refine te 13 (.tuple #[.int .u16 q283, .int .i64 0]) hS288 rfl (by intro _ _; exact xm) ?_
    refine te 14 (.int .u16 q283) hS288 rfl (by intro _ _; exact xe) ?_
    refine te 15 (.int .i64 0) hS288 rfl (by intro _ _; exact xe) ?_
    refine te 16 (.int .u16 q283) hS288 rfl (by intro _ _; exact xa) ?_
    simp only [lay]
    refine te 17 (.int .i64 0) hS288 rfl (by intro _ _; exact xa) ?_
    simp only [lay]
    refine wpAnyH_done (by kernel_rfl) ?_ _
    change Code.wp _ _ _ _ _
    refine wp_region_lit ?_
    refine lv (sq9 g104 0 d.bl.length c36) (by exact xm) ?_
    refine lv (sq9 g104 0 d.bl.length c36) (by exact xm) ?_
    refine lv (.int .u16 q283) (by exact xm) ?_
    refine lv (.int .u16 (q283 / 256)) (by exact xb (w_shr16 _ _ _)) ?_
    simp only [lay]
    refine lv (.int .u8 (q283 / 256)) (by exact xv (conv_u8' 33 5 .u16 (q283 / 256) (by kernel_rfl) Try.underlying5 (by omega) _)) ?_
    refine lv (.int .u16 q283) (by exact xm) ?_
    refine lv (.int .u8 (q283 % 256)) (by exact xv (conv_u8 33 5 .u16 q283 (by kernel_rfl) Try.underlying5 _)) ?_
    refine lv (pq9 g104 (0 + 2)) (by exact ex_index (k := 2) (by rfl) Try.underlying26 (by kernel_rfl) (by rfl) (by rfl) (show 2 < d.bl.length by omega)) ?_
    simp only [lay]
    have b293 := bt b278 hb282
    have own294 := hO241.to b293
    refine lz (ow_stB 5 (.tmp 124) (.tmp 121) g104 _ W9.heap.size d.bl.length c36 (q283 / 256) _ rfl (by rfl) (by rfl) (by kernel_rfl) own294 (by omega) (own_len own294) (by omega) ?_)
    intro W289 hO290 bs291 hb292
    have z298 := hb292.size
    simp only [lay]
    refine lv (pq9 g104 (0 + 3)) (by exact ex_index (k := 3) (by rfl) Try.underlying26 (by kernel_rfl) (by rfl) (by rfl) (show 3 < d.bl.length by omega)) ?_
    simp only [lay]
    refine lz (ow_stB 5 (.tmp 125) (.tmp 123) g104 _ W9.heap.size d.bl.length c36 (q283 % 256) _ rfl (by rfl) (by rfl) (by kernel_rfl) hO290 (by omega) (own_len hO290) (by omega) ?_)
    intro W301 hO302 bs303 hb304
    have z305 := hb304.size
    have own306 := ((own245.to b293).but6 bs291 (by omega)).but6 bs303 (by omega)
    have own307 := ((hO261.to (bt hb270 hb282)).but6 bs291 (by omega)).but6 bs303 (by omega)
    simp only [lay]
    refine wn ?_
    refine wp_sr ?_
    refine lv (sq9 g104 0 d.bl.length c36) (by exact xm) ?_
    refine lv (sq9 g104 0 d.bl.length c36) (by exact xa) ?_
    simp only [lay]
    refine wn ?_
    refine wp_ret ?_
    try simp only [Exit.then]
    rw [show [d.bl.getD 0 0, d.bl.getD 1 0] = d.bl.take 2 from (take2_eq (by omega)).symm] at hq284
    rw [getD_set_ne (j := 2) (by decide), getD_set_ne (j := 3) (by decide), getD_set_ne (j := 1) (by decide), getD_set_eq (by omega)] at hq284
    have ho : one18 (d.bl.getD 0 0) = 8 := by unfold one18; rw [if_pos (by assumption)]
    have e : told18 d s t n = ((d.bl.set (0 + 0) 8).set (0 + 2) (q283 / 256)).set (0 + 3) (q283 % 256) := by
     unfold told18
     repeat (first|rw [if_pos (by first|assumption|omega)]|rw [if_neg (by first|assumption|omega|exact ne_true_of_eq_false (by assumption))])
     rw [ho, hq284]
     unfold put17 two17
     simp only [List.append_assoc, List.cons_append, List.nil_append, Nat.zero_add, Nat.reduceAdd]
    have b309 := b31.trans (hb27.mono (Nat.le_trans b30.size (Nat.le_refl _)))
    have l314 := Nat.le_trans b30.size h105
    have b316 := bt (((bt (bt b309 hb215) hb223).trans (hb228.mono (Nat.le_trans b309.size (Nat.le_refl _)))).trans (hb243.mono l314)) hb247
    exact bodyPost_ret (res_one Try.results58 rfl) rfl ⟨_, rfl, by rw [e]; exact (hO302.more b30.size), (((bt (bt ((bt b316 hb256).trans (hb262.mono (Nat.le_trans b316.size (Nat.le_refl _)))) hb270) hb282).trans (hb292.mono l314)).trans (hb304.mono l314))⟩
   refine lv (.bool false) (by exact yqn) ?_
   simp only [lay]
   refine wn ?_
   refine cF9 ?_
   refine wp_region_lit ?_
   refine lv (sq9 g104 0 d.bl.length c36) (by exact xm) ?_
   refine lv (pq9 g104 (0 + 0)) (by exact ex_index (k := 0) (by rfl) Try.underlying26 (by kernel_rfl) (by rfl) (by rfl) (show 0 < d.bl.length by omega)) ?_
   simp only [lay]
   refine lz (ow_stB 5 (.tmp 92) (.const (.int .u8 0)) g104 _ W9.heap.size d.bl.length c36 0 _ rfl (by rfl) (by rfl) (by kernel_rfl) own238 (by omega) (own_len own238) (by omega) ?_)
   intro W324 hO325 bs326 hb327
   have z328 := hb327.size
   have own329 := hO227.but6 bs326 (by omega)
   simp only [lay]
   refine wn ?_
   refine wp_seq ?_
   refine rg_drawn W324.heap.size (by kernel_rfl) (Nat.le_refl _) ?_
   intro W330 hb331 hs332 hS333
   have z334 := hb331.size
   refine te 0 (sq9 g104 0 d.bl.length c36) hS333 rfl (by intro _ _; exact xm) ?_
   refine te 1 (pq9 g104 (0 + 0)) hS333 rfl (by intro _ _; exact ex_index (k := 0) (by rfl) Try.underlying26 (by kernel_rfl) (by rfl) (by rfl) (show 0 < d.bl.length by omega)) ?_
   refine te 2 (.int .u8 ((d.bl.set (0 + 0) 0).getD 0 0)) hS333 rfl (by intro _ h; exact xc Try.underlying5 ((own_byS (hO325.to h)).atE (k := 0) rfl (by omega))) ?_
   refine te 3 (sq9 g104 0 d.bl.length c36) hS333 rfl (by intro _ _; exact xm) ?_
   simp only [lay]
   refine te 4 (pq9 g104 (0 + 1)) hS333 rfl (by intro _ _; exact ex_index (k := 1) (by rfl) Try.underlying26 (by kernel_rfl) (by rfl) (by rfl) (show 1 < d.bl.length by omega)) ?_
   refine te 5 (.int .u8 ((d.bl.set (0 + 0) 0).getD 1 0)) hS333 rfl (by intro _ h; exact xc Try.underlying5 ((own_byS (hO325.to h)).atE (k := 1) rfl (by omega))) ?_
   simp only [lay]
   refine t1 6 rfl (ow_build (u8s [(d.bl.set (0 + 0) 0).getD 0 0, (d.bl.set (0 + 0) 0).getD 1 0]) rfl Try.underlying26 (by kernel_rfl) (by kernel_rfl) rfl (by decide) (by decide) (by first|rfl|(simp only [List.map_toArray, List.map_cons, List.map_nil] <;> rfl)) (u8s_cells _) ?_)
   intro g335 W336 hg337 ge338 sz339 hb340
   have z341 := hb340.size
   have hO342 := OwnB.blk hg337 (Nat.le_of_eq ge338.symm) rfl (by intro x hx; simp only [List.mem_cons, List.not_mem_nil, or_false] at hx; have := (getD_byte hO325.rng 0); have := (getD_byte hO325.rng 1); omega) (by simp)
   have hS343 := bt hS333 hb340
   refine ⟨hS343, ?_⟩
   simp only [lay]
   refine t1 7 rfl (ow_zeros (.tmp 99) (.const (.int .i64 38)) 26 3 rfl Try.underlying26 Try.underlying3 info8 _ g335 2 2 38 [(d.bl.set (0 + 0) 0).getD 0 0, (d.bl.set (0 + 0) 0).getD 1 0] rfl hO342 rfl (by decide) (by first|decide|(simp only [List.length_nil, List.length_append, List.length_cons, from18, dsL, ddL]; omega)) hb340.size ?_)
   intro v347 W344 hO345 hb346
   have z348 := hb346.size
   obtain ⟨A349, c350, rfl, y351⟩ := hO345.by_
   refine ⟨(Below.trans hS343 (hb346.mono hb331.size)), ?_⟩
   have hS352 := (Below.trans hS343 (hb346.mono hb331.size))
   simp only [lay]
   refine te 8 (.slice A349 (([(d.bl.set (0 + 0) 0).getD 0 0, (d.bl.set (0 + 0) 0).getD 1 0] ++ List.replicate 38 0).length) c350) hS352 rfl (by intro _ _; exact xa) ?_
   simp only [lay]
   refine wpAnyH_done (by kernel_rfl) ?_ _
   change Code.wp _ _ _ _ _
   refine wp_seq ?_
   refine rg_drawn W344.heap.size (by kernel_rfl) (Nat.le_refl _) ?_
   intro W353 hb354 hs355 hS356
   have z357 := hb354.size
   refine te 0 (sq9 g104 0 d.bl.length c36) hS356 rfl (by intro _ _; exact xm) ?_
   refine te 1 (pq9 g104 (0 + 2)) hS356 rfl (by intro _ _; exact ex_index (k := 2) (by rfl) Try.underlying26 (by kernel_rfl) (by rfl) (by rfl) (show 2 < d.bl.length by omega)) ?_
   simp only [lay]
   have b360 := (bt hb331 hb340).trans (hb346.mono (Nat.le_trans hb331.size (Nat.le_refl _)))
   have own361 := hO325.to b360
   refine te 2 (.int .u8 ((d.bl.set (0 + 0) 0).getD 2 0)) hS356 rfl (by intro _ h; exact xc Try.underlying5 ((own_byS (own361.to h)).atE (k := 2) rfl (by omega))) ?_
   refine te 3 (.int .u16 ((d.bl.set (0 + 0) 0).getD 2 0)) hS356 rfl (by intro _ _; exact xv (conv_u16 5 33 .u8 ((d.bl.set (0 + 0) 0).getD 2 0) (by kernel_rfl) Try.underlying33 (in_rng (getD_byte hO325.rng 2)).1 (in_rng (getD_byte hO325.rng 2)).2.1 _)) ?_
   refine te 4 (.int .u16 (((d.bl.set (0 + 0) 0).getD 2 0) * 256)) hS356 rfl (by intro _ _; exact xb (b_shl8_u16 _ _ (getD_byte hO325.rng 2) _)) ?_
   refine te 5 (sq9 g104 0 d.bl.length c36) hS356 rfl (by intro _ _; exact xm) ?_
   simp only [lay]
   refine te 6 (pq9 g104 (0 + 3)) hS356 rfl (by intro _ _; exact ex_index (k := 3) (by rfl) Try.underlying26 (by kernel_rfl) (by rfl) (by rfl) (show 3 < d.bl.length by omega)) ?_
   refine te 7 (.int .u8 ((d.bl.set (0 + 0) 0).getD 3 0)) hS356 rfl (by intro _ h; exact xc Try.underlying5 ((own_byS (own361.to h)).atE (k := 3) rfl (by omega))) ?_
   refine te 8 (.int .u16 ((d.bl.set (0 + 0) 0).getD 3 0)) hS356 rfl (by intro _ _; exact xv (conv_u16 5 33 .u8 ((d.bl.set (0 + 0) 0).getD 3 0) (by kernel_rfl) Try.underlying33 (in_rng (getD_byte hO325.rng 3)).1 (in_rng (getD_byte hO325.rng 3)).2.1 _)) ?_
   refine te 9 (.int .u16 (((d.bl.set (0 + 0) 0).getD 2 0) * 256 + (d.bl.set (0 + 0) 0).getD 3 0)) hS356 rfl (by intro _ _; exact xb (w_or16 _ _ _ (getD_byte hO325.rng 2) (getD_byte hO325.rng 3) _)) ?_
   simp only [lay]
   refine te 10 (.slice A234 (([d.bl.getD 0 0, d.bl.getD 1 0] ++ (from18 d) ++ [0, 0, n / 256, n % 256, 0, 58]).length) c235) hS356 rfl (by intro _ _; exact xm) ?_
   refine te 11 (.slice A349 (([(d.bl.set (0 + 0) 0).getD 0 0, (d.bl.set (0 + 0) 0).getD 1 0] ++ List.replicate 38 0).length) c350) hS356 rfl (by intro _ _; exact xm) ?_
   simp only [lay]
   have b362 := bt b360 hb354
   refine t1 12 rfl (ow_call (fun v w' => (∃ q, v = .tuple #[.int .u16 q, .int .i64 0] ∧ q = (updateS (((d.bl.set (0 + 0) 0).getD 2 0) * 256 + (d.bl.set (0 + 0) 0).getD 3 0) ([d.bl.getD 0 0, d.bl.getD 1 0] ++ (from18 d) ++ [0, 0, n / 256, n % 256, 0, 58]) ([(d.bl.set (0 + 0) 0).getD 0 0, (d.bl.set (0 + 0) 0).getD 1 0] ++ List.replicate 38 0)).1 ∧ 0 ≤ q ∧ q < 65536) ∧ Below W353.heap.size W353 w') (by exact xk Try.func87) (rupdate_one (two_rng (getD_byte hO325.rng 2) (getD_byte hO325.rng 3)) (own_byS (own329.to b362)) (own_byS (hO345.to hb354)) (by constructor <;> simp only [List.length_append, List.length_set, List.length_replicate, List.length_cons, List.length_nil, from18, dsL, ddL] <;> omega) (by first|omega | simp [sL, tL])) ?_)
   rintro _ W365 ⟨⟨q367, rfl, hq368, q0369, q1370⟩, hb366⟩
   have z371 := hb366.size
   have hS372 := bt hS356 hb366
   refine ⟨hS372, ?_⟩
   simp only [lay]
   refine te 13 (.tuple #[.int .u16 q367, .int .i64 0]) hS372 rfl (by intro _ _; exact xm) ?_
   refine te 14 (.int .u16 q367) hS372 rfl (by intro _ _; exact xe) ?_
   refine te 15 (.int .i64 0) hS372 rfl (by intro _ _; exact xe) ?_
   refine te 16 (.int .u16 q367) hS372 rfl (by intro _ _; exact xa) ?_
   simp only [lay]
   refine te 17 (.int .i64 0) hS372 rfl (by intro _ _; exact xa) ?_
   simp only [lay]
   refine wpAnyH_done (by kernel_rfl) ?_ _
   change Code.wp _ _ _ _ _
   refine wp_region_lit ?_
   refine lv (sq9 g104 0 d.bl.length c36) (by exact xm) ?_
   refine lv (sq9 g104 0 d.bl.length c36) (by exact xm) ?_
   refine lv (.int .u16 q367) (by exact xm) ?_
   refine lv (.int .u16 (q367 / 256)) (by exact xb (w_shr16 _ _ _)) ?_
   simp only [lay]
   refine lv (.int .u8 (q367 / 256)) (by exact xv (conv_u8' 33 5 .u16 (q367 / 256) (by kernel_rfl) Try.underlying5 (by omega) _)) ?_
   refine lv (.int .u16 q367) (by exact xm) ?_
   refine lv (.int .u8 (q367 % 256)) (by exact xv (conv_u8 33 5 .u16 q367 (by kernel_rfl) Try.underlying5 _)) ?_
   refine lv (pq9 g104 (0 + 2)) (by exact ex_index (k := 2) (by rfl) Try.underlying26 (by kernel_rfl) (by rfl) (by rfl) (show 2 < d.bl.length by omega)) ?_
   simp only [lay]
   have b377 := bt b362 hb366
   have own378 := hO325.to b377
   refine lz (ow_stB 5 (.tmp 124) (.tmp 121) g104 _ W9.heap.size d.bl.length c36 (q367 / 256) _ rfl (by rfl) (by rfl) (by kernel_rfl) own378 (by omega) (own_len own378) (by omega) ?_)
   intro W373 hO374 bs375 hb376
   have z382 := hb376.size
   simp only [lay]
   refine lv (pq9 g104 (0 + 3)) (by exact ex_index (k := 3) (by rfl) Try.underlying26 (by kernel_rfl) (by rfl) (by rfl) (show 3 < d.bl.length by omega)) ?_
   simp only [lay]
   refine lz (ow_stB 5 (.tmp 125) (.tmp 123) g104 _ W9.heap.size d.bl.length c36 (q367 % 256) _ rfl (by rfl) (by rfl) (by kernel_rfl) hO374 (by omega) (own_len hO374) (by omega) ?_)
   intro W385 hO386 bs387 hb388
   have z389 := hb388.size
   have own390 := ((own329.to b377).but6 bs375 (by omega)).but6 bs387 (by omega)
   have own391 := ((hO345.to (bt hb354 hb366)).but6 bs375 (by omega)).but6 bs387 (by omega)
   simp only [lay]
   refine wn ?_
   refine wp_sr ?_
   refine lv (sq9 g104 0 d.bl.length c36) (by exact xm) ?_
   refine lv (sq9 g104 0 d.bl.length c36) (by exact xa) ?_
   simp only [lay]
   refine wn ?_
   refine wp_ret ?_
   try simp only [Exit.then]
   rw [show [d.bl.getD 0 0, d.bl.getD 1 0] = d.bl.take 2 from (take2_eq (by omega)).symm] at hq368
   rw [getD_set_ne (j := 2) (by decide), getD_set_ne (j := 3) (by decide), getD_set_ne (j := 1) (by decide), getD_set_eq (by omega)] at hq368
   have ho : one18 (d.bl.getD 0 0) = 0 := by unfold one18; rw [if_neg (by assumption)]
   have e : told18 d s t n = ((d.bl.set (0 + 0) 0).set (0 + 2) (q367 / 256)).set (0 + 3) (q367 % 256) := by
    unfold told18
    repeat (first|rw [if_pos (by first|assumption|omega)]|rw [if_neg (by first|assumption|omega|exact ne_true_of_eq_false (by assumption))])
    rw [ho, hq368]
    unfold put17 two17
    simp only [List.append_assoc, List.cons_append, List.nil_append, Nat.zero_add, Nat.reduceAdd]
   have b393 := b31.trans (hb27.mono (Nat.le_trans b30.size (Nat.le_refl _)))
   have l398 := Nat.le_trans b30.size h105
   have b400 := bt (((bt (bt b393 hb215) hb223).trans (hb228.mono (Nat.le_trans b393.size (Nat.le_refl _)))).trans (hb327.mono l398)) hb331
   exact bodyPost_ret (res_one Try.results58 rfl) rfl ⟨_, rfl, by rw [e]; exact (hO386.more b30.size), (((bt (bt ((bt b400 hb340).trans (hb346.mono (Nat.le_trans b400.size (Nat.le_refl _)))) hb354) hb366).trans (hb376.mono l398)).trans (hb388.mono l398))⟩
  refine lv (.bool false) (by exact ex_geq (by rfl) (by rfl) (by rfl) (decide_eq_false (by first|assumption|omega|decide))) ?_
  refine lv (.bool false) (by exact xp (b := true)) ?_
  refine lv (.bool false) (by exact xa) ?_
  simp only [lay]
  refine wn ?_
  refine cF9 ?_
  refine wp_skip ?_
  change Code.wp _ _ _ _ _
  refine wp_sr ?_
  refine lv (.slice A35 d.bl.length c36) (by exact xm) ?_
  refine lv (.slice A35 d.bl.length c36) (by exact xa) ?_
  simp only [lay]
  refine wn ?_
  refine wp_ret ?_
  try simp only [Exit.then]
  have e : told18 d s t n = d.bl := by
   unfold told18
   repeat (first|rw [if_pos (by first|assumption|omega)]|rw [if_neg (by first|assumption|omega|exact ne_true_of_eq_false (by assumption))])
  exact bodyPost_ret (res_one Try.results58 rfl) rfl ⟨_, rfl, by rw [e]; exact (hO34.more b30.size), (b31.trans (hb27.mono (Nat.le_trans b30.size (Nat.le_refl _))))⟩
 refine lv (.bool false) (by exact yqn) ?_
 refine lv (.bool false) (by exact xm) ?_
 refine lzn ?_
 refine lzn ?_
 simp only [lay]
 refine lzn ?_
 refine lv (.bool false) (by exact xp (b := false)) ?_
 refine lv (.bool false) (by exact xa) ?_
 simp only [lay]
 refine wn ?_
 refine cF9 ?_
 refine wp_skip ?_
 change Code.wp _ _ _ _ _
 refine wp_sr ?_
 refine lv (.slice A35 d.bl.length c36) (by exact xm) ?_
 refine lv (.slice A35 d.bl.length c36) (by exact xa) ?_
 simp only [lay]
 refine wn ?_
 refine wp_ret ?_
 try simp only [Exit.then]
 have e : told18 d s t n = d.bl := by
  unfold told18
  repeat (first|rw [if_pos (by first|assumption|omega)]|rw [if_neg (by first|assumption|omega|exact ne_true_of_eq_false (by assumption))])
 exact bodyPost_ret (res_one Try.results58 rfl) rfl ⟨_, rfl, by rw [e]; exact (hO34.more b30.size), (b31.trans (hb27.mono (Nat.le_trans b30.size (Nat.le_refl _))))⟩
end Go.Proofs.Ytjnphelfloiadaa
