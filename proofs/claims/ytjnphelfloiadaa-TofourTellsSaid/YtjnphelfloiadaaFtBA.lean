/-
  Lemmas and walks for the row of TofourTells (part 27 of 37).
-/
import Derived.Test.YtjnphelfloiadaaFtAI
import Derived.Test.YtjnphelfloiadaaFtAW
import Derived.Test.YtjnphelfloiadaaFtAZ
set_option linter.unusedVariables false
set_option linter.unusedSimpArgs false
namespace Go.Proofs.Ytjnphelfloiadaa
open Go.RowKit Go.Shelf
attribute [local irreducible] wpList Code.wp Oper.wp wpOp wpAnyH

theorem two17_set0 (l : List Int) (x : Int) : two17 (l.set 0 x) 2 = two17 l 2 := by
 unfold two17
 rw [getD_set_ne (by decide), getD_set_ne (by decide)]
theorem told18_len (d : D6) (s t : List Int) (n : Int) : (told18 d s t n).length = d.bl.length := by
 unfold told18
 repeat' split
 all_goals simp [carry17_len, put17_len]

set_option maxRecDepth 100000 in
set_option maxHeartbeats 8000000 in
theorem told18_any (d : D6) (p : W6) (s t : List Int) (hE : E4ok s t) (n : Int) (hn : 0 ≤ n ∧ n < 65536) (w : World) (hR : Rd6 w.heap.size w d p) (hm : d.bl.length ≤ 65535) :
  Calls Try.prog 54 #[.agg (d.cells p), .agg (e4c s t), .int .i64 n] w fun e w' => ∃ v, e = .returned v ∧ OwnB w' w.heap.size v (told18 d s t n) ∧ Below w.heap.size w w' := by
 have sL := hE.sL
 have tL := hE.tL
 have dsL := hR.ok.srcL
 have ddL := hR.ok.dstL
 have yb6 := hR.body
 have hlb := yb6.len
 go_enter Try.func54, Try.ntmps54
 refine wp_sr ?_
 refine lz (ow_box 28 (.tmp 0) _ rfl rfl ?_)
 intro g1 W2 hg3 ge4 sz5 hb6
 have z7 := hb6.size
 simp only [lay]
 refine lz (ow_box 32 (.tmp 1) _ rfl rfl ?_)
 intro g8 W9 hg10 ge11 sz12 hb13
 have z14 := hb13.size
 simp only [lay]
 refine lv (.slice none 0 0) (by exact xa) ?_
 simp only [lay]
 refine wn ?_
 refine wp_sr ?_
 refine lv (.pointer (some ⟨g1, 41, none⟩)) (by exact xf 41 0 Try.underlying28) ?_
 simp only [lay]
 have has15 := hg3.to hb13
 refine lv (.slice p.bA d.bl.length p.bc) (by exact xc Try.underlying26 (has15.cell 41 rfl)) ?_
 simp only [lay]
 have b16 := bt hb6 hb13
 have by17 := yb6.to b16
 refine lz (ow_call (fun v w' => OwnB w' W9.heap.size v d.bl ∧ Below W9.heap.size W9 w') (by exact xk Try.func46) (clone_n _ _ _ d.bl W9 by17 (by omega)) ?_)
 rintro v20 W18 ⟨hO21, hb19⟩
 have z22 := hb19.size
 obtain ⟨A23, c24, rfl, y25⟩ := hO21.by_
 simp only [lay]
 refine lv (.slice A23 d.bl.length c24) (by exact xa) ?_
 simp only [lay]
 refine wn ?_
 refine wp_seq ?_
 refine wp_sr ?_
 refine lv (.pointer (some ⟨g1, 38, none⟩)) (by exact xf 38 0 Try.underlying28) ?_
 simp only [lay]
 have b26 := bt hb13 hb19
 have has27 := hg3.to b26
 refine lv (.int .i64 d.off) (by exact xc Try.underlying3 (has27.cell 38 rfl)) ?_
 simp only [lay]
 by_cases q28 : d.off > 0
 case pos =>
  refine lv (.bool true) (by exact ex_gtr (by exact rfl) (by exact rfl) (by exact rfl) (decide_eq_true (by first | assumption | omega | decide))) ?_
  simp only [lay]
  refine wn ?_
  refine cT9 ?_
  refine wp_sr ?_
  refine lv (.slice A23 d.bl.length c24) (by exact xm) ?_
  simp only [lay]
  refine lv (.slice A23 d.bl.length c24) (by exact xa) ?_
  simp only [lay]
  refine wn ?_
  refine wp_ret ?_
  try simp only [Exit.then]
  have e : told18 d s t n = d.bl := by
   unfold told18
   repeat (first | rw [if_pos (by first | assumption | omega | exact ne_true_of_eq_false (by assumption))] | rw [if_neg (by first | assumption | omega | exact ne_true_of_eq_false (by assumption))])
  have b29 := bt b16 hb19
  exact bodyPost_ret (res_one Try.results54 rfl) rfl ⟨_, rfl, by rw [e]; exact (hO21.more b16.size), b29⟩
 refine lv (.bool false) (by exact ex_gtr (by exact rfl) (by exact rfl) (by exact rfl) (decide_eq_false (by first | assumption | omega | decide))) ?_
 simp only [lay]
 refine wn ?_
 refine cF9 ?_
 refine wp_skip ?_
 change Code.wp _ _ _ _ _
 refine wp_seq ?_
 refine wp_block ?_
 refine wp_sr ?_
 refine lv (.pointer (some ⟨g1, 40, none⟩)) (by exact xf 40 0 Try.underlying28) ?_
 simp only [lay]
 refine lv (.int .u8 d.pro) (by exact xc Try.underlying5 (has27.cell 40 rfl)) ?_
 simp only [lay]
 by_cases q30 : d.pro = 6
 case pos =>
  refine lv (.bool true) (by exact yq) ?_
  simp only [lay]
  refine lv (.bool true) (by exact xm) ?_
  simp only [lay]
  refine lv (.slice A23 d.bl.length c24) (by exact xm) ?_
  simp only [lay]
  refine lv (.int .i64 (d.bl.length : Int)) (by exact xz Try.underlying26) ?_
  simp only [lay]
  by_cases q31 : (d.bl.length : Int) ≥ 18
  case pos =>
   refine lv (.bool true) (by exact ex_geq (by exact rfl) (by exact rfl) (by exact rfl) (decide_eq_true (by first | assumption | omega | decide))) ?_
   simp only [lay]
   refine lv (.bool true) (by exact xp (b := true)) ?_
   simp only [lay]
   refine lv (.bool true) (by exact xa) ?_
   simp only [lay]
   refine wn ?_
   refine cT9 ?_
   refine wp_region_lit ?_
   refine lv (.slice A23 d.bl.length c24) (by exact xm) ?_
   simp only [lay]
   refine lv (.agg (d.cells p)) (by exact xo (has27.load (P := Try.prog) 28 Try.underlying28 rfl (by kernel_rfl))) ?_
   simp only [lay]
   have has32 := hg10.to hb19
   refine lv (.agg (e4c s t)) (by exact xo (has32.load (P := Try.prog) 32 Try.underlying32 rfl (by kernel_rfl))) ?_
   simp only [lay]
   obtain ⟨g33, rfl, h34, h35⟩ := own_form hO21 (by first | omega | (simp only [List.length_append]; omega) | simp [D4.src])
   have b40 := bt b16 hb19
   have rd41 := hR.to b40
   refine lz (ow_call (fun v w' => v = .tuple #[] ∧ OwnB w' W9.heap.size (.slice (some ⟨g33, 0, none⟩) d.bl.length c24) (carry17 (d.pro == 17) (from18 d) (to18 s t) d.bl 16) ∧ ButG g33 W18 w' ∧ Below g33 W18 w') (by exact xk Try.func71) ((carry18_any d p s t hE 16 g33 d.bl.length c24 _ W9 W18 hb19 hO21 h34 (by omega) (by omega) (by omega) rd41).mono fun e w' h => ⟨_, h.1, rfl, h.2⟩) ?_)
   rintro _ W38 ⟨rfl, hO37, bs36, hb39⟩
   have z42 := hb39.size
   simp only [lay]
   refine wn ?_
   refine wp_sr ?_
   refine lv (.slice (some ⟨g33, 0, none⟩) d.bl.length c24) (by exact xm) ?_
   simp only [lay]
   refine lv (.slice (some ⟨g33, 0, none⟩) d.bl.length c24) (by exact xa) ?_
   simp only [lay]
   refine wn ?_
   refine wp_ret ?_
   try simp only [Exit.then]
   have hu : (d.pro == 17) = false := by rw [show d.pro = 6 from by assumption]; rfl
   have e : told18 d s t n = carry17 (d.pro == 17) (from18 d) (to18 s t) d.bl 16 := by
    unfold told18
    repeat (first | rw [if_pos (by first | assumption | omega | exact ne_true_of_eq_false (by assumption))] | rw [if_neg (by first | assumption | omega | exact ne_true_of_eq_false (by assumption))])
    rw [hu]
   have l43 := Nat.le_trans b16.size h34
   have b44 := b40.trans (hb39.mono l43)
   exact bodyPost_ret (res_one Try.results54 rfl) rfl ⟨_, rfl, by rw [e]; exact (hO37.more b16.size), b44⟩
  refine lv (.bool false) (by exact ex_geq (by exact rfl) (by exact rfl) (by exact rfl) (decide_eq_false (by first | assumption | omega | decide))) ?_
  simp only [lay]
  refine lv (.bool false) (by exact xp (b := true)) ?_
  simp only [lay]
  refine lv (.bool false) (by exact xa) ?_
  simp only [lay]
  refine wn ?_
  refine cF9 ?_
  refine wp_sr ?_
  refine lv (.pointer (some ⟨g1, 40, none⟩)) (by exact xf 40 0 Try.underlying28) ?_
  simp only [lay]
  refine lv (.int .u8 d.pro) (by exact xc Try.underlying5 (has27.cell 40 rfl)) ?_
  simp only [lay]
  refine lv (.bool false) (by exact yqn) ?_
  simp only [lay]
  refine lv (.bool false) (by exact xm) ?_
  simp only [lay]
  refine lzn ?_
  simp only [lay]
  refine lzn ?_
  simp only [lay]
  refine lzn ?_
  simp only [lay]
  refine lv (.bool false) (by exact xp (b := false)) ?_
  simp only [lay]
  refine lv (.bool false) (by exact xm) ?_
  simp only [lay]
  refine lzn ?_
  simp only [lay]
  refine lzn ?_
  simp only [lay]
  refine lzn ?_
  simp only [lay]
  refine lv (.bool false) (by exact xp (b := false)) ?_
  simp only [lay]
  refine lv (.bool false) (by exact xa) ?_
  simp only [lay]
  refine wn ?_
  refine cF9 ?_
  refine wp_sr ?_
  refine lv (.pointer (some ⟨g1, 40, none⟩)) (by exact xf 40 0 Try.underlying28) ?_
  simp only [lay]
  refine lv (.int .u8 d.pro) (by exact xc Try.underlying5 (has27.cell 40 rfl)) ?_
  simp only [lay]
  refine lv (.bool false) (by exact yqn) ?_
  simp only [lay]
  refine lv (.bool false) (by exact xm) ?_
  simp only [lay]
  refine lzn ?_
  simp only [lay]
  refine lzn ?_
  simp only [lay]
  refine lzn ?_
  simp only [lay]
  refine lv (.bool false) (by exact xp (b := false)) ?_
  simp only [lay]
  refine lv (.bool false) (by exact xa) ?_
  simp only [lay]
  refine wn ?_
  refine cF9 ?_
  refine wp_skip ?_
  change Code.wp _ _ _ _ _
  refine wp_sr ?_
  refine lv (.slice A23 d.bl.length c24) (by exact xm) ?_
  simp only [lay]
  refine lv (.slice A23 d.bl.length c24) (by exact xa) ?_
  simp only [lay]
  refine wn ?_
  refine wp_ret ?_
  try simp only [Exit.then]
  have e : told18 d s t n = d.bl := by
   unfold told18
   repeat (first | rw [if_pos (by first | assumption | omega | exact ne_true_of_eq_false (by assumption))] | rw [if_neg (by first | assumption | omega | exact ne_true_of_eq_false (by assumption))])
  have b47 := bt b16 hb19
  exact bodyPost_ret (res_one Try.results54 rfl) rfl ⟨_, rfl, by rw [e]; exact (hO21.more b16.size), b47⟩
 refine lv (.bool false) (by exact yqn) ?_
 simp only [lay]
 refine lv (.bool false) (by exact xm) ?_
 simp only [lay]
 refine lzn ?_
 simp only [lay]
 refine lzn ?_
 simp only [lay]
 refine lzn ?_
 simp only [lay]
 refine lv (.bool false) (by exact xp (b := false)) ?_
 simp only [lay]
 refine lv (.bool false) (by exact xa) ?_
 simp only [lay]
 refine wn ?_
 refine cF9 ?_
 refine wp_sr ?_
 refine lv (.pointer (some ⟨g1, 40, none⟩)) (by exact xf 40 0 Try.underlying28) ?_
 simp only [lay]
 refine lv (.int .u8 d.pro) (by exact xc Try.underlying5 (has27.cell 40 rfl)) ?_
 simp only [lay]
 by_cases q48 : d.pro = 17
 case pos =>
  refine lv (.bool true) (by exact yq) ?_
  simp only [lay]
  refine lv (.bool true) (by exact xm) ?_
  simp only [lay]
  refine lv (.slice A23 d.bl.length c24) (by exact xm) ?_
  simp only [lay]
  refine lv (.int .i64 (d.bl.length : Int)) (by exact xz Try.underlying26) ?_
  simp only [lay]
  by_cases q49 : (d.bl.length : Int) ≥ 8
  case pos =>
   refine lv (.bool true) (by exact ex_geq (by exact rfl) (by exact rfl) (by exact rfl) (decide_eq_true (by first | assumption | omega | decide))) ?_
   simp only [lay]
   refine lv (.bool true) (by exact xp (b := true)) ?_
   simp only [lay]
   refine lv (.bool true) (by exact xm) ?_
   simp only [lay]
   refine lv (.slice A23 d.bl.length c24) (by exact xm) ?_
   simp only [lay]
   have y50 := (own_byS hO21)
   refine lz (ow_call (fun v w' => v = .int .u16 (two17 d.bl 6) ∧ Below W18.heap.size W18 w') (by exact xk Try.func50) ((two18_any _ _ _ _ 6 W18 y50 (by omega) (by omega)).mono fun e w' h => ⟨_, h.1, rfl, h.2⟩) ?_)
   rintro _ W51 ⟨rfl, hb52⟩
   have z53 := hb52.size
   simp only [lay]
   by_cases q54 : two17 d.bl 6 = 0
   case pos =>
    have hz : d.bl.getD 6 0 = 0 ∧ d.bl.getD 7 0 = 0 := (two17_zero hR.body.rng 6).1 q54
    refine lv (.bool false) (by exact neq_int_eq (by exact rfl) (by exact rfl) (by exact rfl) (by first | assumption | omega)) ?_
    simp only [lay]
    refine lv (.bool false) (by exact xp (b := true)) ?_
    simp only [lay]
    refine lv (.bool false) (by exact xa) ?_
    simp only [lay]
    refine wn ?_
    refine cF9 ?_
    refine wp_sr ?_
    refine lv (.pointer (some ⟨g1, 40, none⟩)) (by exact xf 40 0 Try.underlying28) ?_
    simp only [lay]
    have b55 := bt b26 hb52
    have has56 := hg3.to b55
    refine lv (.int .u8 d.pro) (by exact xc Try.underlying5 (has56.cell 40 rfl)) ?_
    simp only [lay]
    refine lv (.bool false) (by exact yqn) ?_
    simp only [lay]
    refine lv (.bool false) (by exact xm) ?_
    simp only [lay]
    refine lzn ?_
    simp only [lay]
    refine lzn ?_
    simp only [lay]
    refine lzn ?_
    simp only [lay]
    refine lv (.bool false) (by exact xp (b := false)) ?_
    simp only [lay]
    refine lv (.bool false) (by exact xa) ?_
    simp only [lay]
    refine wn ?_
    refine cF9 ?_
    refine wp_skip ?_
    change Code.wp _ _ _ _ _
    refine wp_sr ?_
    refine lv (.slice A23 d.bl.length c24) (by exact xm) ?_
    simp only [lay]
    refine lv (.slice A23 d.bl.length c24) (by exact xa) ?_
    simp only [lay]
    refine wn ?_
    refine wp_ret ?_
    try simp only [Exit.then]
    have e : told18 d s t n = d.bl := by
     unfold told18
     repeat (first | rw [if_pos (by first | assumption | omega | exact ne_true_of_eq_false (by assumption))] | rw [if_neg (by first | assumption | omega | exact ne_true_of_eq_false (by assumption))])
    have own58 := hO21.to hb52
    have b59 := bt b16 hb19
    have b60 := bt b59 hb52
    exact bodyPost_ret (res_one Try.results54 rfl) rfl ⟨_, rfl, by rw [e]; exact (own58.more b16.size), b60⟩
   have hz : ¬ (d.bl.getD 6 0 = 0 ∧ d.bl.getD 7 0 = 0) := (not_congr (two17_zero hR.body.rng 6)).1 q54
   refine lv (.bool true) (by exact neq_int_ne (by exact rfl) (by exact rfl) (by exact rfl) (by first | assumption | omega)) ?_
   simp only [lay]
   refine lv (.bool true) (by exact xp (b := true)) ?_
   simp only [lay]
   refine lv (.bool true) (by exact xa) ?_
   simp only [lay]
   refine wn ?_
   refine cT9 ?_
   refine wp_region_lit ?_
   refine lv (.slice A23 d.bl.length c24) (by exact xm) ?_
   simp only [lay]
   have b61 := bt b26 hb52
   have has62 := hg3.to b61
   refine lv (.agg (d.cells p)) (by exact xo (has62.load (P := Try.prog) 28 Try.underlying28 rfl (by kernel_rfl))) ?_
   simp only [lay]
   have b63 := bt hb19 hb52
   have has64 := hg10.to b63
   refine lv (.agg (e4c s t)) (by exact xo (has64.load (P := Try.prog) 32 Try.underlying32 rfl (by kernel_rfl))) ?_
   simp only [lay]
   obtain ⟨g65, rfl, h66, h67⟩ := own_form hO21 (by first | omega | (simp only [List.length_append]; omega) | simp [D4.src])
   have own72 := hO21.to hb52
   have b73 := bt b16 hb19
   have b74 := bt b73 hb52
   have rd75 := hR.to b74
   refine lz (ow_call (fun v w' => v = .tuple #[] ∧ OwnB w' W9.heap.size (.slice (some ⟨g65, 0, none⟩) d.bl.length c24) (carry17 (d.pro == 17) (from18 d) (to18 s t) d.bl 6) ∧ ButG g65 W51 w' ∧ Below g65 W51 w') (by exact xk Try.func71) ((carry18_any d p s t hE 6 g65 d.bl.length c24 _ W9 W51 b63 own72 h66 (by omega) (by omega) (by omega) rd75).mono fun e w' h => ⟨_, h.1, rfl, h.2⟩) ?_)
   rintro _ W70 ⟨rfl, hO69, bs68, hb71⟩
   have z76 := hb71.size
   simp only [lay]
   refine wn ?_
   refine wp_sr ?_
   refine lv (.slice (some ⟨g65, 0, none⟩) d.bl.length c24) (by exact xm) ?_
   simp only [lay]
   refine lv (.slice (some ⟨g65, 0, none⟩) d.bl.length c24) (by exact xa) ?_
   simp only [lay]
   refine wn ?_
   refine wp_ret ?_
   try simp only [Exit.then]
   have hu : (d.pro == 17) = true := by rw [show d.pro = 17 from by assumption]; rfl
   have e : told18 d s t n = carry17 (d.pro == 17) (from18 d) (to18 s t) d.bl 6 := by
    unfold told18
    repeat (first | rw [if_pos (by first | assumption | omega | exact ne_true_of_eq_false (by assumption))] | rw [if_neg (by first | assumption | omega | exact ne_true_of_eq_false (by assumption))])
    rw [hu]
   have l77 := Nat.le_trans b16.size h66
   have b78 := b74.trans (hb71.mono l77)
   exact bodyPost_ret (res_one Try.results54 rfl) rfl ⟨_, rfl, by rw [e]; exact (hO69.more b16.size), b78⟩
  refine lv (.bool false) (by exact ex_geq (by exact rfl) (by exact rfl) (by exact rfl) (decide_eq_false (by first | assumption | omega | decide))) ?_
  simp only [lay]
  refine lv (.bool false) (by exact xp (b := true)) ?_
  simp only [lay]
  refine lv (.bool false) (by exact xm) ?_
  simp only [lay]
  refine lzn ?_
  simp only [lay]
  refine lzn ?_
  simp only [lay]
  refine lzn ?_
  simp only [lay]
  refine lv (.bool false) (by exact xp (b := false)) ?_
  simp only [lay]
  refine lv (.bool false) (by exact xa) ?_
  simp only [lay]
  refine wn ?_
  refine cF9 ?_
  refine wp_sr ?_
  refine lv (.pointer (some ⟨g1, 40, none⟩)) (by exact xf 40 0 Try.underlying28) ?_
  simp only [lay]
  refine lv (.int .u8 d.pro) (by exact xc Try.underlying5 (has27.cell 40 rfl)) ?_
  simp only [lay]
  refine lv (.bool false) (by exact yqn) ?_
  simp only [lay]
  refine lv (.bool false) (by exact xm) ?_
  simp only [lay]
  refine lzn ?_
  simp only [lay]
  refine lzn ?_
  simp only [lay]
  refine lzn ?_
  simp only [lay]
  refine lv (.bool false) (by exact xp (b := false)) ?_
  simp only [lay]
  refine lv (.bool false) (by exact xa) ?_
  simp only [lay]
  refine wn ?_
  refine cF9 ?_
  refine wp_skip ?_
  change Code.wp _ _ _ _ _
  refine wp_sr ?_
  refine lv (.slice A23 d.bl.length c24) (by exact xm) ?_
  simp only [lay]
  refine lv (.slice A23 d.bl.length c24) (by exact xa) ?_
  simp only [lay]
  refine wn ?_
  refine wp_ret ?_
  try simp only [Exit.then]
  have e : told18 d s t n = d.bl := by
   unfold told18
   repeat (first | rw [if_pos (by first | assumption | omega | exact ne_true_of_eq_false (by assumption))] | rw [if_neg (by first | assumption | omega | exact ne_true_of_eq_false (by assumption))])
  have b80 := bt b16 hb19
  exact bodyPost_ret (res_one Try.results54 rfl) rfl ⟨_, rfl, by rw [e]; exact (hO21.more b16.size), b80⟩
 refine lv (.bool false) (by exact yqn) ?_
 simp only [lay]
 refine lv (.bool false) (by exact xm) ?_
 simp only [lay]
 refine lzn ?_
 simp only [lay]
 refine lzn ?_
 simp only [lay]
 refine lzn ?_
 simp only [lay]
 refine lv (.bool false) (by exact xp (b := false)) ?_
 simp only [lay]
 refine lv (.bool false) (by exact xm) ?_
 simp only [lay]
 refine lzn ?_
 simp only [lay]
 refine lzn ?_
 simp only [lay]
 refine lzn ?_
 simp only [lay]
 refine lv (.bool false) (by exact xp (b := false)) ?_
 simp only [lay]
 refine lv (.bool false) (by exact xa) ?_
 simp only [lay]
 refine wn ?_
 refine cF9 ?_
 refine wp_sr ?_
 refine lv (.pointer (some ⟨g1, 40, none⟩)) (by exact xf 40 0 Try.underlying28) ?_
 simp only [lay]
 refine lv (.int .u8 d.pro) (by exact xc Try.underlying5 (has27.cell 40 rfl)) ?_
 simp only [lay]
 by_cases q81 : d.pro = 58
 case pos =>
  refine lv (.bool true) (by exact yq) ?_
  simp only [lay]
  refine lv (.bool true) (by exact xm) ?_
  simp only [lay]
  refine lv (.slice A23 d.bl.length c24) (by exact xm) ?_
  simp only [lay]
  refine lv (.int .i64 (d.bl.length : Int)) (by exact xz Try.underlying26) ?_
  simp only [lay]
  by_cases q82 : (d.bl.length : Int) ≥ 4
  case pos =>
   refine lv (.bool true) (by exact ex_geq (by exact rfl) (by exact rfl) (by exact rfl) (decide_eq_true (by first | assumption | omega | decide))) ?_
   simp only [lay]
   refine lv (.bool true) (by exact xp (b := true)) ?_
   simp only [lay]
   refine lv (.bool true) (by exact xa) ?_
   simp only [lay]
   refine wn ?_
   refine cT9 ?_
   refine wp_seq ?_
   refine rg_drawn W18.heap.size (by kernel_rfl) (Nat.le_refl _) ?_
   intro W83 hb84 hs85 hS86
   have z87 := hb84.size
   refine te 0 (.slice A23 d.bl.length c24) hS86 rfl (by intro _ _; exact xm) ?_
   simp only [lay]
   have own89 := hO21.to hb84
   have y90 := (own_byS own89)
   have y88 := y90.to_ (P := Try.prog) 26 Try.underlying26 (by kernel_rfl) (k := 2) (by omega)
   refine te 1 (.slice A23 2 c24) hS86 rfl (by intro _ _; exact ex_slice (by exact rfl) (by exact rfl) (y88.1 _)) ?_
   simp only [lay]
   refine te 2 (.pointer (some ⟨g1, 3, none⟩)) hS86 rfl (by intro _ _; exact xf 3 15 Try.underlying28) ?_
   simp only [lay]
   refine te 3 (.slice (some ⟨g1, 3, none⟩) 16 16) hS86 rfl (by intro _ _; exact ex_arr (by exact rfl) Try.underlying24 (by kernel_rfl) (by exact rfl)) ?_
   simp only [lay]
   refine te 4 (.pointer (some ⟨g1, 19, none⟩)) hS86 rfl (by intro _ _; exact xf 19 15 Try.underlying28) ?_
   simp only [lay]
   refine te 5 (.slice (some ⟨g1, 19, none⟩) 16 16) hS86 rfl (by intro _ _; exact ex_arr (by exact rfl) Try.underlying24 (by kernel_rfl) (by exact rfl)) ?_
   simp only [lay]
   refine te 6 (.int .i64 n) hS86 rfl (by intro _ _; exact xm) ?_
   simp only [lay]
   refine te 7 (.int .i64 (n / 256)) hS86 rfl (by intro _ _; exact xb (shr8_i64 _ _ _)) ?_
   simp only [lay]
   refine te 8 (.int .u8 (n / 256)) hS86 rfl (by intro _ _; exact xv (conv_u8' 3 5 .i64 (n / 256) (by kernel_rfl) Try.underlying5 (by omega) _)) ?_
   simp only [lay]
   refine te 9 (.int .i64 n) hS86 rfl (by intro _ _; exact xm) ?_
   simp only [lay]
   refine te 10 (.int .u8 (n % 256)) hS86 rfl (by intro _ _; exact xv (conv_u8 3 5 .i64 n (by kernel_rfl) Try.underlying5 _)) ?_
   simp only [lay]
   refine t1 11 rfl (ow_build (u8s [0, 0, n / 256, n % 256, 0, 58]) rfl Try.underlying26 (by kernel_rfl) (by kernel_rfl) rfl (by decide) (by decide) (by first | rfl | (simp only [List.map_toArray, List.map_cons, List.map_nil] <;> rfl)) (u8s_cells _) ?_)
   intro g91 W92 hg93 ge94 sz95 hb96
   have z97 := hb96.size
   have hO98 := OwnB.blk hg93 (Nat.le_of_eq ge94.symm) rfl (by intro x hx; simp only [List.mem_cons, List.not_mem_nil, or_false] at hx; omega) (by simp)
   refine ⟨(Below.trans hS86 (hb96.mono hS86.size)), ?_⟩
   have hS99 := (Below.trans hS86 (hb96.mono hS86.size))
   simp only [lay]
   refine t1 12 rfl (ow_build [.slice A23 2 c24, .slice (some ⟨g1, 3, none⟩) 16 16, .slice (some ⟨g1, 19, none⟩) 16 16, .slice (some ⟨g91, 0, none⟩) 6 6] rfl Try.underlying100 (by kernel_rfl) (by kernel_rfl) rfl (by decide) (by decide) (by first | rfl | (simp only [List.map_toArray, List.map_cons, List.map_nil] <;> rfl)) (by simp [Value.cells]) ?_)
   intro g100 W101 hg102 ge103 sz104 hb105
   have z106 := hb105.size
   refine ⟨(Below.trans hS99 (hb105.mono hS99.size)), ?_⟩
   have hS107 := (Below.trans hS99 (hb105.mono hS99.size))
   simp only [lay]
   have b108 := bt hb96 hb105
   have by109 := y88.2.to b108
   have b110 := bt b26 hb84
   have b111 := bt b110 hb96
   have b112 := bt b111 hb105
   have has113 := hg3.to b112
   have own114 := hO98.to hb105
   refine t1 13 rfl (ow_call (fun v w' => OwnB w' W101.heap.size v (d.bl.take 2 ++ d.src ++ d.dst ++ [0, 0, n / 256, n % 256, 0, 58]) ∧ Below W101.heap.size W101 w') (by exact xk Try.func81) (concat4 hg102 by109 (has113.byIn 3 16 d.src hR.ok.srcL ((show (_ : List Value) = u8s (l16 d.src) from by kernel_rfl).trans (u8s_16 hR.ok.srcL)) hR.ok.src (by decide)) (has113.byIn 19 16 d.dst hR.ok.dstL ((show (_ : List Value) = u8s (l16 d.dst) from by kernel_rfl).trans (u8s_16 hR.ok.dstL)) hR.ok.dst (by decide)) (own_byS own114) (by simp; try omega)) ?_)
   rintro v117 W115 ⟨hO118, hb116⟩
   have z119 := hb116.size
   obtain ⟨A120, c121, rfl, y122⟩ := hO118.by_
   refine ⟨(Below.trans hS107 (hb116.mono hS107.size)), ?_⟩
   have hS123 := (Below.trans hS107 (hb116.mono hS107.size))
   simp only [lay]
   refine te 14 (.slice A120 ((d.bl.take 2 ++ d.src ++ d.dst ++ [0, 0, n / 256, n % 256, 0, 58]).length) c121) hS123 rfl (by intro _ _; exact xa) ?_
   simp only [lay]
   refine wpAnyH_done (by kernel_rfl) ?_ _
   change Code.wp _ _ _ _ _
   refine wp_seq ?_
   refine wp_sr ?_
   refine lv (.slice A23 d.bl.length c24) (by exact xm) ?_
   simp only [lay]
   obtain ⟨g124, rfl, h125, h126⟩ := own_form hO21 (by first | omega | (simp only [List.length_append]; omega) | simp [D4.src])
   refine lv (.pointer (some ⟨g124, 0 + 0, none⟩)) (by exact ex_index (k := 0) (by exact rfl) Try.underlying26 (by kernel_rfl) (by exact rfl) (by exact rfl) (show 0 < d.bl.length by omega)) ?_
   simp only [lay]
   have b127 := bt hb84 hb96
   have b128 := bt b127 hb105
   have b129 := bt b128 hb116
   have own130 := hO21.to b129
   refine lv (.int .u8 (d.bl.getD 0 0)) (by exact xc Try.underlying5 ((own_byS own130).atE (k := 0) rfl (by omega))) ?_
   simp only [lay]
   by_cases q131 : d.bl.getD 0 0 = 128
   case pos =>
    refine lv (.bool true) (by exact yq) ?_
    simp only [lay]
    refine wn ?_
    refine cT9 ?_
    refine wp_region_lit ?_
    refine lv (.slice (some ⟨g124, 0, none⟩) d.bl.length c24) (by exact xm) ?_
    simp only [lay]
    refine lv (.pointer (some ⟨g124, 0 + 0, none⟩)) (by exact ex_index (k := 0) (by exact rfl) Try.underlying26 (by kernel_rfl) (by exact rfl) (by exact rfl) (show 0 < d.bl.length by omega)) ?_
    simp only [lay]
    refine lz (ow_stB 5 (.tmp 77) (.const (.int .u8 8)) g124 _ W9.heap.size d.bl.length c24 8 _ rfl (by exact rfl) (by exact rfl) (by kernel_rfl) own130 (by omega) (own_len own130) (by omega) ?_)
    intro W132 hO133 bs134 hb135
    have b136 := bt hb105 hb116
    have own137 := hO98.to b136
    have has138 := hg102.to hb116
    have z139 := hb135.size
    have own140 := own137.but6 bs134 (by omega)
    have has141 := has138.but6 bs134 (by omega)
    have own142 := hO118.but6 bs134 (by omega)
    simp only [lay]
    refine wn ?_
    refine wp_seq ?_
    refine rg_drawn W132.heap.size (by kernel_rfl) (Nat.le_refl _) ?_
    intro W143 hb144 hs145 hS146
    have z147 := hb144.size
    refine wpAnyH_join (fun a W => ∃ (q194 : Int) (g158 : Nat) (g166 : Nat) (A183 : Option Addr) (c184 : Nat), a = ⟨#[.agg (d.cells p), .agg (e4c s t), .int .i64 n, .pointer (some ⟨g1, 0, none⟩), .pointer (some ⟨g8, 0, none⟩), undef, .slice none 0 0, .slice (some ⟨g124, 0, none⟩) d.bl.length c24, .slice A120 ((d.bl.take 2 ++ d.src ++ d.dst ++ [0, 0, n / 256, n % 256, 0, 58]).length) c121, .int .u16 q194, .int .i64 0, .pointer (some ⟨g1, 41, none⟩), .slice p.bA d.bl.length p.bc, .slice (some ⟨g124, 0, none⟩) d.bl.length c24, .pointer (some ⟨g1, 38, none⟩), .int .i64 d.off, .bool false, undef, .bool false, .pointer (some ⟨g1, 40, none⟩), .int .u8 d.pro, .bool false, .bool false, undef, undef, undef, .bool false, undef, undef, undef, undef, .bool false, .pointer (some ⟨g1, 40, none⟩), .int .u8 d.pro, .bool false, .bool false, undef, undef, undef, .bool false, .bool false, undef, undef, undef, .bool false, undef, undef, undef, undef, .bool true, .pointer (some ⟨g1, 40, none⟩), .int .u8 d.pro, .bool true, .bool true, .slice (some ⟨g124, 0, none⟩) d.bl.length c24, .int .i64 (d.bl.length : Int), .bool true, .bool true, .slice (some ⟨g124, 0, none⟩) d.bl.length c24, .slice (some ⟨g124, 0, none⟩) 2 c24, .pointer (some ⟨g1, 3, none⟩), .slice (some ⟨g1, 3, none⟩) 16 16, .pointer (some ⟨g1, 19, none⟩), .slice (some ⟨g1, 19, none⟩) 16 16, .int .i64 n, .int .i64 (n / 256), .int .u8 (n / 256), .int .i64 n, .int .u8 (n % 256), .slice (some ⟨g91, 0, none⟩) 6 6, .slice (some ⟨g100, 0, none⟩) 4 4, .slice A120 ((d.bl.take 2 ++ d.src ++ d.dst ++ [0, 0, n / 256, n % 256, 0, 58]).length) c121, .slice (some ⟨g124, 0, none⟩) d.bl.length c24, .pointer (some ⟨g124, 0 + 0, none⟩), .int .u8 (d.bl.getD 0 0), .bool true, .slice (some ⟨g124, 0, none⟩) d.bl.length c24, .pointer (some ⟨g124, 0 + 0, none⟩), undef, undef, .tuple #[.int .u16 q194, .int .i64 0], .slice (some ⟨g124, 0, none⟩) d.bl.length c24, .int .u16 (two17 (d.bl.set (0 + 0) 8) 2), .slice A120 ((d.bl.take 2 ++ d.src ++ d.dst ++ [0, 0, n / 256, n % 256, 0, 58]).length) c121, .slice (some ⟨g124, 0, none⟩) d.bl.length c24, .slice (some ⟨g124, 0, none⟩) 2 c24, .slice (some ⟨g158, 0, none⟩) 38 38, .slice (some ⟨g166, 0, none⟩) 2 2, .slice A183 (((d.bl.set (0 + 0) 8).take 2 ++ (List.replicate 38 0)).length) c184, .tuple #[.int .u16 q194, .int .i64 0], .int .u16 q194, .int .i64 0, undef, undef, undef, undef], []⟩ ∧ Below W132.heap.size W132 W ∧ q194 = (updateS (two17 (d.bl.set (0 + 0) 8) 2) (d.bl.take 2 ++ d.src ++ d.dst ++ [0, 0, n / 256, n % 256, 0, 58]) ((d.bl.set (0 + 0) 8).take 2 ++ (List.replicate 38 0))).1 ∧ 0 ≤ q194 ∧ q194 < 65536) (fun hk201 => ?_) ?_
    case refine_1 =>
     refine te 0 (.slice (some ⟨g124, 0, none⟩) d.bl.length c24) hS146 rfl (by intro _ _; exact xm) ?_
     simp only [lay]
     refine te 2 (.slice A120 ((d.bl.take 2 ++ d.src ++ d.dst ++ [0, 0, n / 256, n % 256, 0, 58]).length) c121) hS146 rfl (by intro _ _; exact xm) ?_
     simp only [lay]
     refine te 3 (.slice (some ⟨g124, 0, none⟩) d.bl.length c24) hS146 rfl (by intro _ _; exact xm) ?_
     simp only [lay]
     have own203 := hO133.to hb144
     have y204 := (own_byS own203)
     have y202 := y204.to_ (P := Try.prog) 26 Try.underlying26 (by kernel_rfl) (k := 2) (by omega)
     refine te 4 (.slice (some ⟨g124, 0, none⟩) 2 c24) hS146 rfl (by intro _ _; exact ex_slice (by exact rfl) (by exact rfl) (y202.1 _)) ?_
     simp only [lay]
     refine tk_two (i := 1) (j := 5) (by kernel_rfl) ?L205 ?L206
     case L205 =>
      have y207 := (own_byS own203)
      refine rs (i := 1) rfl (by kernel_rfl) (ow_call (fun v w' => v = .int .u16 (two17 (d.bl.set (0 + 0) 8) 2) ∧ Below W143.heap.size W143 w') (by exact xk Try.func50) ((two18_any _ _ _ _ 2 W143 y207 (by omega) (by omega)).mono fun e w' h => ⟨_, h.1, rfl, h.2⟩) ?_)
      rintro _ W208 ⟨rfl, hb209⟩
      have z210 := hb209.size
      refine ⟨(Below.trans hS146 (hb209.mono hS146.size)), ?_⟩
      have hS211 := (Below.trans hS146 (hb209.mono hS146.size))
      simp only [lay]
      refine t1 5 rfl (ow_make 26 (.const (.int .i64 38)) (.const (.int .i64 38)) rfl 38 38 rfl rfl Try.underlying26 info8 (by decide) (by decide) ?_)
      intro g212 W213 hO214 ge215 sz216 hb217
      have z218 := hb217.size
      refine ⟨(Below.trans hS211 (hb217.mono hS211.size)), ?_⟩
      have hS219 := (Below.trans hS211 (hb217.mono hS211.size))
      simp only [lay]
      refine t1 6 rfl (ow_build [.slice (some ⟨g124, 0, none⟩) 2 c24, .slice (some ⟨g212, 0, none⟩) 38 38] rfl Try.underlying100 (by kernel_rfl) (by kernel_rfl) rfl (by decide) (by decide) (by first | rfl | (simp only [List.map_toArray, List.map_cons, List.map_nil] <;> rfl)) (by simp [Value.cells]) ?_)
      intro g220 W221 hg222 ge223 sz224 hb225
      have z226 := hb225.size
      refine ⟨(Below.trans hS219 (hb225.mono hS219.size)), ?_⟩
      have hS227 := (Below.trans hS219 (hb225.mono hS219.size))
      simp only [lay]
      have b228 := bt hb209 hb217
      have b229 := bt b228 hb225
      have by230 := y202.2.to b229
      have own231 := hO214.to hb225
      refine t1 7 rfl (ow_call (fun v w' => OwnB w' W221.heap.size v ((d.bl.set (0 + 0) 8).take 2 ++ (List.replicate 38 0)) ∧ Below W221.heap.size W221 w') (by exact xk Try.func81) (concat2 hg222 by230 (own_byS own231) (by simp; try omega)) ?_)
      rintro v234 W232 ⟨hO235, hb233⟩
      have z236 := hb233.size
      obtain ⟨A237, c238, rfl, y239⟩ := hO235.by_
      refine ⟨(Below.trans hS227 (hb233.mono hS227.size)), ?_⟩
      have hS240 := (Below.trans hS227 (hb233.mono hS227.size))
      simp only [lay]
      have b241 := bt hb144 hb209
      have b242 := bt b241 hb217
      have b243 := bt b242 hb225
      have b244 := bt b243 hb233
      have own245 := own142.to b244
      refine t1 8 rfl (ow_call (fun v w' => (∃ q, v = .tuple #[.int .u16 q, .int .i64 0] ∧ q = (updateS (two17 (d.bl.set (0 + 0) 8) 2) (d.bl.take 2 ++ d.src ++ d.dst ++ [0, 0, n / 256, n % 256, 0, 58]) ((d.bl.set (0 + 0) 8).take 2 ++ (List.replicate 38 0))).1 ∧ 0 ≤ q ∧ q < 65536) ∧ Below W232.heap.size W232 w') (by exact xk Try.func83) (update_one (two17_rng y207.rng 2) (own_byS own245) (own_byS hO235) (by constructor <;> simp only [List.length_append, List.length_take, List.length_set, List.length_replicate, List.length_cons, List.length_nil, dsL, ddL] <;> omega)) ?_)
      rintro _ W246 ⟨⟨q248, rfl, hq249, q0250, q1251⟩, hb247⟩
      have z252 := hb247.size
      refine ⟨(Below.trans hS240 (hb247.mono hS240.size)), ?_⟩
      have hS253 := (Below.trans hS240 (hb247.mono hS240.size))
      simp only [lay]
      refine te 9 (.tuple #[.int .u16 q248, .int .i64 0]) hS253 rfl (by intro _ _; exact xm) ?_
      simp only [lay]
      refine te 10 (.int .u16 q248) hS253 rfl (by intro _ _; exact xe) ?_
      simp only [lay]
      refine te 11 (.int .i64 0) hS253 rfl (by intro _ _; exact xe) ?_
      simp only [lay]
      refine te 12 (.int .u16 q248) hS253 rfl (by intro _ _; exact xa) ?_
      simp only [lay]
      refine te 13 (.int .i64 0) hS253 rfl (by intro _ _; exact xa) ?_
      simp only [lay]
      refine wpAnyH_done (by kernel_rfl) ?_ _
      have b254 := bt b244 hb247
      exact hk201 _ _ ⟨q248, g212, g220, A237, c238, rfl, b254, hq249, q0250, q1251⟩
     case L206 =>
      refine rs (i := 5) rfl (by kernel_rfl) (ow_make 26 (.const (.int .i64 38)) (.const (.int .i64 38)) rfl 38 38 rfl rfl Try.underlying26 info8 (by decide) (by decide) ?_)
      intro g255 W256 hO257 ge258 sz259 hb260
      have z261 := hb260.size
      refine ⟨(Below.trans hS146 (hb260.mono hS146.size)), ?_⟩
      have hS262 := (Below.trans hS146 (hb260.mono hS146.size))
      simp only [lay]
      refine tk_two (i := 1) (j := 6) (by kernel_rfl) ?L263 ?L264
      case L263 =>
       have b265 := bt hb144 hb260
       have own266 := hO133.to b265
       have y267 := (own_byS own266)
       refine rs (i := 1) rfl (by kernel_rfl) (ow_call (fun v w' => v = .int .u16 (two17 (d.bl.set (0 + 0) 8) 2) ∧ Below W256.heap.size W256 w') (by exact xk Try.func50) ((two18_any _ _ _ _ 2 W256 y267 (by omega) (by omega)).mono fun e w' h => ⟨_, h.1, rfl, h.2⟩) ?_)
       rintro _ W268 ⟨rfl, hb269⟩
       have z270 := hb269.size
       refine ⟨(Below.trans hS262 (hb269.mono hS262.size)), ?_⟩
       have hS271 := (Below.trans hS262 (hb269.mono hS262.size))
       simp only [lay]
       refine t1 6 rfl (ow_build [.slice (some ⟨g124, 0, none⟩) 2 c24, .slice (some ⟨g255, 0, none⟩) 38 38] rfl Try.underlying100 (by kernel_rfl) (by kernel_rfl) rfl (by decide) (by decide) (by first | rfl | (simp only [List.map_toArray, List.map_cons, List.map_nil] <;> rfl)) (by simp [Value.cells]) ?_)
       intro g272 W273 hg274 ge275 sz276 hb277
       have z278 := hb277.size
       refine ⟨(Below.trans hS271 (hb277.mono hS271.size)), ?_⟩
       have hS279 := (Below.trans hS271 (hb277.mono hS271.size))
       simp only [lay]
       have b280 := bt hb260 hb269
       have b281 := bt b280 hb277
       have by282 := y202.2.to b281
       have b283 := bt hb269 hb277
       have own284 := hO257.to b283
       refine t1 7 rfl (ow_call (fun v w' => OwnB w' W273.heap.size v ((d.bl.set (0 + 0) 8).take 2 ++ (List.replicate 38 0)) ∧ Below W273.heap.size W273 w') (by exact xk Try.func81) (concat2 hg274 by282 (own_byS own284) (by simp; try omega)) ?_)
       rintro v287 W285 ⟨hO288, hb286⟩
       have z289 := hb286.size
       obtain ⟨A290, c291, rfl, y292⟩ := hO288.by_
       refine ⟨(Below.trans hS279 (hb286.mono hS279.size)), ?_⟩
       have hS293 := (Below.trans hS279 (hb286.mono hS279.size))
       simp only [lay]
       have b294 := bt b265 hb269
       have b295 := bt b294 hb277
       have b296 := bt b295 hb286
       have own297 := own142.to b296
       refine t1 8 rfl (ow_call (fun v w' => (∃ q, v = .tuple #[.int .u16 q, .int .i64 0] ∧ q = (updateS (two17 (d.bl.set (0 + 0) 8) 2) (d.bl.take 2 ++ d.src ++ d.dst ++ [0, 0, n / 256, n % 256, 0, 58]) ((d.bl.set (0 + 0) 8).take 2 ++ (List.replicate 38 0))).1 ∧ 0 ≤ q ∧ q < 65536) ∧ Below W285.heap.size W285 w') (by exact xk Try.func83) (update_one (two17_rng y267.rng 2) (own_byS own297) (own_byS hO288) (by constructor <;> simp only [List.length_append, List.length_take, List.length_set, List.length_replicate, List.length_cons, List.length_nil, dsL, ddL] <;> omega)) ?_)
       rintro _ W298 ⟨⟨q300, rfl, hq301, q0302, q1303⟩, hb299⟩
       have z304 := hb299.size
       refine ⟨(Below.trans hS293 (hb299.mono hS293.size)), ?_⟩
       have hS305 := (Below.trans hS293 (hb299.mono hS293.size))
       simp only [lay]
       refine te 9 (.tuple #[.int .u16 q300, .int .i64 0]) hS305 rfl (by intro _ _; exact xm) ?_
       simp only [lay]
       refine te 10 (.int .u16 q300) hS305 rfl (by intro _ _; exact xe) ?_
       simp only [lay]
       refine te 11 (.int .i64 0) hS305 rfl (by intro _ _; exact xe) ?_
       simp only [lay]
       refine te 12 (.int .u16 q300) hS305 rfl (by intro _ _; exact xa) ?_
       simp only [lay]
       refine te 13 (.int .i64 0) hS305 rfl (by intro _ _; exact xa) ?_
       simp only [lay]
       refine wpAnyH_done (by kernel_rfl) ?_ _
       have b306 := bt b296 hb299
       exact hk201 _ _ ⟨q300, g255, g272, A290, c291, rfl, b306, hq301, q0302, q1303⟩
      case L264 =>
       refine rs (i := 6) rfl (by kernel_rfl) (ow_build [.slice (some ⟨g124, 0, none⟩) 2 c24, .slice (some ⟨g255, 0, none⟩) 38 38] rfl Try.underlying100 (by kernel_rfl) (by kernel_rfl) rfl (by decide) (by decide) (by first | rfl | (simp only [List.map_toArray, List.map_cons, List.map_nil] <;> rfl)) (by simp [Value.cells]) ?_)
       intro g307 W308 hg309 ge310 sz311 hb312
       have z313 := hb312.size
       refine ⟨(Below.trans hS262 (hb312.mono hS262.size)), ?_⟩
       have hS314 := (Below.trans hS262 (hb312.mono hS262.size))
       simp only [lay]
       have b315 := bt hb144 hb260
       have b316 := bt b315 hb312
       have own317 := hO133.to b316
       have y318 := (own_byS own317)
       refine t1 1 rfl (ow_call (fun v w' => v = .int .u16 (two17 (d.bl.set (0 + 0) 8) 2) ∧ Below W308.heap.size W308 w') (by exact xk Try.func50) ((two18_any _ _ _ _ 2 W308 y318 (by omega) (by omega)).mono fun e w' h => ⟨_, h.1, rfl, h.2⟩) ?_)
       rintro _ W319 ⟨rfl, hb320⟩
       have z321 := hb320.size
       refine ⟨(Below.trans hS314 (hb320.mono hS314.size)), ?_⟩
       have hS322 := (Below.trans hS314 (hb320.mono hS314.size))
       simp only [lay]
       have has323 := hg309.to hb320
       have b324 := bt hb260 hb312
       have b325 := bt b324 hb320
       have by326 := y202.2.to b325
       have b327 := bt hb312 hb320
       have own328 := hO257.to b327
       refine t1 7 rfl (ow_call (fun v w' => OwnB w' W319.heap.size v ((d.bl.set (0 + 0) 8).take 2 ++ (List.replicate 38 0)) ∧ Below W319.heap.size W319 w') (by exact xk Try.func81) (concat2 has323 by326 (own_byS own328) (by simp; try omega)) ?_)
       rintro v331 W329 ⟨hO332, hb330⟩
       have z333 := hb330.size
       obtain ⟨A334, c335, rfl, y336⟩ := hO332.by_
       refine ⟨(Below.trans hS322 (hb330.mono hS322.size)), ?_⟩
       have hS337 := (Below.trans hS322 (hb330.mono hS322.size))
       simp only [lay]
       have b338 := bt b316 hb320
       have b339 := bt b338 hb330
       have own340 := own142.to b339
       refine t1 8 rfl (ow_call (fun v w' => (∃ q, v = .tuple #[.int .u16 q, .int .i64 0] ∧ q = (updateS (two17 (d.bl.set (0 + 0) 8) 2) (d.bl.take 2 ++ d.src ++ d.dst ++ [0, 0, n / 256, n % 256, 0, 58]) ((d.bl.set (0 + 0) 8).take 2 ++ (List.replicate 38 0))).1 ∧ 0 ≤ q ∧ q < 65536) ∧ Below W329.heap.size W329 w') (by exact xk Try.func83) (update_one (two17_rng y318.rng 2) (own_byS own340) (own_byS hO332) (by constructor <;> simp only [List.length_append, List.length_take, List.length_set, List.length_replicate, List.length_cons, List.length_nil, dsL, ddL] <;> omega)) ?_)
       rintro _ W341 ⟨⟨q343, rfl, hq344, q0345, q1346⟩, hb342⟩
       have z347 := hb342.size
       refine ⟨(Below.trans hS337 (hb342.mono hS337.size)), ?_⟩
       have hS348 := (Below.trans hS337 (hb342.mono hS337.size))
       simp only [lay]
       refine te 9 (.tuple #[.int .u16 q343, .int .i64 0]) hS348 rfl (by intro _ _; exact xm) ?_
       simp only [lay]
       refine te 10 (.int .u16 q343) hS348 rfl (by intro _ _; exact xe) ?_
       simp only [lay]
       refine te 11 (.int .i64 0) hS348 rfl (by intro _ _; exact xe) ?_
       simp only [lay]
       refine te 12 (.int .u16 q343) hS348 rfl (by intro _ _; exact xa) ?_
       simp only [lay]
       refine te 13 (.int .i64 0) hS348 rfl (by intro _ _; exact xa) ?_
       simp only [lay]
       refine wpAnyH_done (by kernel_rfl) ?_ _
       have b349 := bt b339 hb342
       exact hk201 _ _ ⟨q343, g255, g307, A334, c335, rfl, b349, hq344, q0345, q1346⟩
    rintro _ W200 ⟨q194, g158, g166, A183, c184, rfl, hb350, hx351, hx352, hx353⟩
    have z354 := hb350.size
    change Code.wp _ _ _ _ _
    refine wp_region_lit ?_
    refine lv (.slice (some ⟨g124, 0, none⟩) d.bl.length c24) (by exact xm) ?_
    simp only [lay]
    refine lv (.int .u16 q194) (by exact xm) ?_
    simp only [lay]
    have own359 := hO133.to hb350
    refine lz (ow_call (fun v w' => v = .tuple #[] ∧ OwnB w' W9.heap.size (.slice (some ⟨g124, 0, none⟩) d.bl.length c24) (put17 (d.bl.set (0 + 0) 8) 2 q194) ∧ But6 g124 W200 w' ∧ Below g124 W200 w') (by exact xk Try.func52) ((set18_any g124 d.bl.length c24 W9.heap.size 2 q194 (by omega) _ W200 own359 (by omega) (by omega)).mono fun e w' h => ⟨_, h.1, rfl, h.2⟩) ?_)
    rintro _ W357 ⟨rfl, hO356, bs355, hb358⟩
    have own360 := own140.to hb350
    have has361 := has141.to hb350
    have own362 := own142.to hb350
    have z363 := hb358.size
    have own364 := own360.but6 bs355 (by omega)
    have has365 := has361.but6 bs355 (by omega)
    have own366 := own362.but6 bs355 (by omega)
    simp only [lay]
    refine wn ?_
    refine wp_sr ?_
    refine lv (.slice (some ⟨g124, 0, none⟩) d.bl.length c24) (by exact xm) ?_
    simp only [lay]
    refine lv (.slice (some ⟨g124, 0, none⟩) d.bl.length c24) (by exact xa) ?_
    simp only [lay]
    refine wn ?_
    refine wp_ret ?_
    try simp only [Exit.then]
    rw [two17_set0, take2_set (by omega)] at hx351
    have ho : one18 (d.bl.getD 0 0) = 8 := by unfold one18; rw [if_pos (by assumption)]
    have e : told18 d s t n = put17 (d.bl.set (0 + 0) 8) 2 q194 := by
     unfold told18 from18
     repeat (first | rw [if_pos (by first | assumption | omega | exact ne_true_of_eq_false (by assumption))] | rw [if_neg (by first | assumption | omega | exact ne_true_of_eq_false (by assumption))])
     rw [ho, hx351]
     simp only [List.append_assoc, List.cons_append, List.nil_append]
    have b367 := bt b16 hb19
    have b368 := bt b367 hb84
    have b369 := bt b368 hb96
    have b370 := bt b369 hb105
    have b371 := bt b370 hb116
    have l372 := Nat.le_trans b16.size h125
    have b373 := b371.trans (hb135.mono l372)
    have b374 := bt b373 hb350
    have b375 := b374.trans (hb358.mono l372)
    exact bodyPost_ret (res_one Try.results54 rfl) rfl ⟨_, rfl, by rw [e]; exact (hO356.more b16.size), b375⟩
   refine lv (.bool false) (by exact yqn) ?_
   simp only [lay]
   refine wn ?_
   refine cF9 ?_
   refine wp_region_lit ?_
   refine lv (.slice (some ⟨g124, 0, none⟩) d.bl.length c24) (by exact xm) ?_
   simp only [lay]
   refine lv (.pointer (some ⟨g124, 0 + 0, none⟩)) (by exact ex_index (k := 0) (by exact rfl) Try.underlying26 (by kernel_rfl) (by exact rfl) (by exact rfl) (show 0 < d.bl.length by omega)) ?_
   simp only [lay]
   refine lz (ow_stB 5 (.tmp 79) (.const (.int .u8 0)) g124 _ W9.heap.size d.bl.length c24 0 _ rfl (by exact rfl) (by exact rfl) (by kernel_rfl) own130 (by omega) (own_len own130) (by omega) ?_)
   intro W376 hO377 bs378 hb379
   have b380 := bt hb105 hb116
   have own381 := hO98.to b380
   have has382 := hg102.to hb116
   have z383 := hb379.size
   have own384 := own381.but6 bs378 (by omega)
   have has385 := has382.but6 bs378 (by omega)
   have own386 := hO118.but6 bs378 (by omega)
   simp only [lay]
   refine wn ?_
   refine wp_seq ?_
   refine rg_drawn W376.heap.size (by kernel_rfl) (Nat.le_refl _) ?_
   intro W387 hb388 hs389 hS390
   have z391 := hb388.size
   refine wpAnyH_join (fun a W => ∃ (q438 : Int) (g402 : Nat) (g410 : Nat) (A427 : Option Addr) (c428 : Nat), a = ⟨#[.agg (d.cells p), .agg (e4c s t), .int .i64 n, .pointer (some ⟨g1, 0, none⟩), .pointer (some ⟨g8, 0, none⟩), undef, .slice none 0 0, .slice (some ⟨g124, 0, none⟩) d.bl.length c24, .slice A120 ((d.bl.take 2 ++ d.src ++ d.dst ++ [0, 0, n / 256, n % 256, 0, 58]).length) c121, .int .u16 q438, .int .i64 0, .pointer (some ⟨g1, 41, none⟩), .slice p.bA d.bl.length p.bc, .slice (some ⟨g124, 0, none⟩) d.bl.length c24, .pointer (some ⟨g1, 38, none⟩), .int .i64 d.off, .bool false, undef, .bool false, .pointer (some ⟨g1, 40, none⟩), .int .u8 d.pro, .bool false, .bool false, undef, undef, undef, .bool false, undef, undef, undef, undef, .bool false, .pointer (some ⟨g1, 40, none⟩), .int .u8 d.pro, .bool false, .bool false, undef, undef, undef, .bool false, .bool false, undef, undef, undef, .bool false, undef, undef, undef, undef, .bool true, .pointer (some ⟨g1, 40, none⟩), .int .u8 d.pro, .bool true, .bool true, .slice (some ⟨g124, 0, none⟩) d.bl.length c24, .int .i64 (d.bl.length : Int), .bool true, .bool true, .slice (some ⟨g124, 0, none⟩) d.bl.length c24, .slice (some ⟨g124, 0, none⟩) 2 c24, .pointer (some ⟨g1, 3, none⟩), .slice (some ⟨g1, 3, none⟩) 16 16, .pointer (some ⟨g1, 19, none⟩), .slice (some ⟨g1, 19, none⟩) 16 16, .int .i64 n, .int .i64 (n / 256), .int .u8 (n / 256), .int .i64 n, .int .u8 (n % 256), .slice (some ⟨g91, 0, none⟩) 6 6, .slice (some ⟨g100, 0, none⟩) 4 4, .slice A120 ((d.bl.take 2 ++ d.src ++ d.dst ++ [0, 0, n / 256, n % 256, 0, 58]).length) c121, .slice (some ⟨g124, 0, none⟩) d.bl.length c24, .pointer (some ⟨g124, 0 + 0, none⟩), .int .u8 (d.bl.getD 0 0), .bool false, undef, undef, .slice (some ⟨g124, 0, none⟩) d.bl.length c24, .pointer (some ⟨g124, 0 + 0, none⟩), .tuple #[.int .u16 q438, .int .i64 0], .slice (some ⟨g124, 0, none⟩) d.bl.length c24, .int .u16 (two17 (d.bl.set (0 + 0) 0) 2), .slice A120 ((d.bl.take 2 ++ d.src ++ d.dst ++ [0, 0, n / 256, n % 256, 0, 58]).length) c121, .slice (some ⟨g124, 0, none⟩) d.bl.length c24, .slice (some ⟨g124, 0, none⟩) 2 c24, .slice (some ⟨g402, 0, none⟩) 38 38, .slice (some ⟨g410, 0, none⟩) 2 2, .slice A427 (((d.bl.set (0 + 0) 0).take 2 ++ (List.replicate 38 0)).length) c428, .tuple #[.int .u16 q438, .int .i64 0], .int .u16 q438, .int .i64 0, undef, undef, undef, undef], []⟩ ∧ Below W376.heap.size W376 W ∧ q438 = (updateS (two17 (d.bl.set (0 + 0) 0) 2) (d.bl.take 2 ++ d.src ++ d.dst ++ [0, 0, n / 256, n % 256, 0, 58]) ((d.bl.set (0 + 0) 0).take 2 ++ (List.replicate 38 0))).1 ∧ 0 ≤ q438 ∧ q438 < 65536) (fun hk445 => ?_) ?_
   case refine_1 =>
    refine te 0 (.slice (some ⟨g124, 0, none⟩) d.bl.length c24) hS390 rfl (by intro _ _; exact xm) ?_
    simp only [lay]
    refine te 2 (.slice A120 ((d.bl.take 2 ++ d.src ++ d.dst ++ [0, 0, n / 256, n % 256, 0, 58]).length) c121) hS390 rfl (by intro _ _; exact xm) ?_
    simp only [lay]
    refine te 3 (.slice (some ⟨g124, 0, none⟩) d.bl.length c24) hS390 rfl (by intro _ _; exact xm) ?_
    simp only [lay]
    have own447 := hO377.to hb388
    have y448 := (own_byS own447)
    have y446 := y448.to_ (P := Try.prog) 26 Try.underlying26 (by kernel_rfl) (k := 2) (by omega)
    refine te 4 (.slice (some ⟨g124, 0, none⟩) 2 c24) hS390 rfl (by intro _ _; exact ex_slice (by exact rfl) (by exact rfl) (y446.1 _)) ?_
    simp only [lay]
    refine tk_two (i := 1) (j := 5) (by kernel_rfl) ?L449 ?L450
    case L449 =>
     have y451 := (own_byS own447)
     refine rs (i := 1) rfl (by kernel_rfl) (ow_call (fun v w' => v = .int .u16 (two17 (d.bl.set (0 + 0) 0) 2) ∧ Below W387.heap.size W387 w') (by exact xk Try.func50) ((two18_any _ _ _ _ 2 W387 y451 (by omega) (by omega)).mono fun e w' h => ⟨_, h.1, rfl, h.2⟩) ?_)
     rintro _ W452 ⟨rfl, hb453⟩
     have z454 := hb453.size
     refine ⟨(Below.trans hS390 (hb453.mono hS390.size)), ?_⟩
     have hS455 := (Below.trans hS390 (hb453.mono hS390.size))
     simp only [lay]
     refine t1 5 rfl (ow_make 26 (.const (.int .i64 38)) (.const (.int .i64 38)) rfl 38 38 rfl rfl Try.underlying26 info8 (by decide) (by decide) ?_)
     intro g456 W457 hO458 ge459 sz460 hb461
     have z462 := hb461.size
     refine ⟨(Below.trans hS455 (hb461.mono hS455.size)), ?_⟩
     have hS463 := (Below.trans hS455 (hb461.mono hS455.size))
     simp only [lay]
     refine t1 6 rfl (ow_build [.slice (some ⟨g124, 0, none⟩) 2 c24, .slice (some ⟨g456, 0, none⟩) 38 38] rfl Try.underlying100 (by kernel_rfl) (by kernel_rfl) rfl (by decide) (by decide) (by first | rfl | (simp only [List.map_toArray, List.map_cons, List.map_nil] <;> rfl)) (by simp [Value.cells]) ?_)
     intro g464 W465 hg466 ge467 sz468 hb469
     have z470 := hb469.size
     refine ⟨(Below.trans hS463 (hb469.mono hS463.size)), ?_⟩
     have hS471 := (Below.trans hS463 (hb469.mono hS463.size))
     simp only [lay]
     have b472 := bt hb453 hb461
     have b473 := bt b472 hb469
     have by474 := y446.2.to b473
     have own475 := hO458.to hb469
     refine t1 7 rfl (ow_call (fun v w' => OwnB w' W465.heap.size v ((d.bl.set (0 + 0) 0).take 2 ++ (List.replicate 38 0)) ∧ Below W465.heap.size W465 w') (by exact xk Try.func81) (concat2 hg466 by474 (own_byS own475) (by simp; try omega)) ?_)
     rintro v478 W476 ⟨hO479, hb477⟩
     have z480 := hb477.size
     obtain ⟨A481, c482, rfl, y483⟩ := hO479.by_
     refine ⟨(Below.trans hS471 (hb477.mono hS471.size)), ?_⟩
     have hS484 := (Below.trans hS471 (hb477.mono hS471.size))
     simp only [lay]
     have b485 := bt hb388 hb453
     have b486 := bt b485 hb461
     have b487 := bt b486 hb469
     have b488 := bt b487 hb477
     have own489 := own386.to b488
     refine t1 8 rfl (ow_call (fun v w' => (∃ q, v = .tuple #[.int .u16 q, .int .i64 0] ∧ q = (updateS (two17 (d.bl.set (0 + 0) 0) 2) (d.bl.take 2 ++ d.src ++ d.dst ++ [0, 0, n / 256, n % 256, 0, 58]) ((d.bl.set (0 + 0) 0).take 2 ++ (List.replicate 38 0))).1 ∧ 0 ≤ q ∧ q < 65536) ∧ Below W476.heap.size W476 w') (by exact xk Try.func83) (update_one (two17_rng y451.rng 2) (own_byS own489) (own_byS hO479) (by constructor <;> simp only [List.length_append, List.length_take, List.length_set, List.length_replicate, List.length_cons, List.length_nil, dsL, ddL] <;> omega)) ?_)
     rintro _ W490 ⟨⟨q492, rfl, hq493, q0494, q1495⟩, hb491⟩
     have z496 := hb491.size
     refine ⟨(Below.trans hS484 (hb491.mono hS484.size)), ?_⟩
     have hS497 := (Below.trans hS484 (hb491.mono hS484.size))
     simp only [lay]
     refine te 9 (.tuple #[.int .u16 q492, .int .i64 0]) hS497 rfl (by intro _ _; exact xm) ?_
     simp only [lay]
     refine te 10 (.int .u16 q492) hS497 rfl (by intro _ _; exact xe) ?_
     simp only [lay]
     refine te 11 (.int .i64 0) hS497 rfl (by intro _ _; exact xe) ?_
     simp only [lay]
     refine te 12 (.int .u16 q492) hS497 rfl (by intro _ _; exact xa) ?_
     simp only [lay]
     refine te 13 (.int .i64 0) hS497 rfl (by intro _ _; exact xa) ?_
     simp only [lay]
     refine wpAnyH_done (by kernel_rfl) ?_ _
     have b498 := bt b488 hb491
     exact hk445 _ _ ⟨q492, g456, g464, A481, c482, rfl, b498, hq493, q0494, q1495⟩
    case L450 =>
     refine rs (i := 5) rfl (by kernel_rfl) (ow_make 26 (.const (.int .i64 38)) (.const (.int .i64 38)) rfl 38 38 rfl rfl Try.underlying26 info8 (by decide) (by decide) ?_)
     intro g499 W500 hO501 ge502 sz503 hb504
     have z505 := hb504.size
     refine ⟨(Below.trans hS390 (hb504.mono hS390.size)), ?_⟩
     have hS506 := (Below.trans hS390 (hb504.mono hS390.size))
     simp only [lay]
     refine tk_two (i := 1) (j := 6) (by kernel_rfl) ?L507 ?L508
     case L507 =>
      have b509 := bt hb388 hb504
      have own510 := hO377.to b509
      have y511 := (own_byS own510)
      refine rs (i := 1) rfl (by kernel_rfl) (ow_call (fun v w' => v = .int .u16 (two17 (d.bl.set (0 + 0) 0) 2) ∧ Below W500.heap.size W500 w') (by exact xk Try.func50) ((two18_any _ _ _ _ 2 W500 y511 (by omega) (by omega)).mono fun e w' h => ⟨_, h.1, rfl, h.2⟩) ?_)
      rintro _ W512 ⟨rfl, hb513⟩
      have z514 := hb513.size
      refine ⟨(Below.trans hS506 (hb513.mono hS506.size)), ?_⟩
      have hS515 := (Below.trans hS506 (hb513.mono hS506.size))
      simp only [lay]
      refine t1 6 rfl (ow_build [.slice (some ⟨g124, 0, none⟩) 2 c24, .slice (some ⟨g499, 0, none⟩) 38 38] rfl Try.underlying100 (by kernel_rfl) (by kernel_rfl) rfl (by decide) (by decide) (by first | rfl | (simp only [List.map_toArray, List.map_cons, List.map_nil] <;> rfl)) (by simp [Value.cells]) ?_)
      intro g516 W517 hg518 ge519 sz520 hb521
      have z522 := hb521.size
      refine ⟨(Below.trans hS515 (hb521.mono hS515.size)), ?_⟩
      have hS523 := (Below.trans hS515 (hb521.mono hS515.size))
      simp only [lay]
      have b524 := bt hb504 hb513
      have b525 := bt b524 hb521
      have by526 := y446.2.to b525
      have b527 := bt hb513 hb521
      have own528 := hO501.to b527
      refine t1 7 rfl (ow_call (fun v w' => OwnB w' W517.heap.size v ((d.bl.set (0 + 0) 0).take 2 ++ (List.replicate 38 0)) ∧ Below W517.heap.size W517 w') (by exact xk Try.func81) (concat2 hg518 by526 (own_byS own528) (by simp; try omega)) ?_)
      rintro v531 W529 ⟨hO532, hb530⟩
      have z533 := hb530.size
      obtain ⟨A534, c535, rfl, y536⟩ := hO532.by_
      refine ⟨(Below.trans hS523 (hb530.mono hS523.size)), ?_⟩
      have hS537 := (Below.trans hS523 (hb530.mono hS523.size))
      simp only [lay]
      have b538 := bt b509 hb513
      have b539 := bt b538 hb521
      have b540 := bt b539 hb530
      have own541 := own386.to b540
      refine t1 8 rfl (ow_call (fun v w' => (∃ q, v = .tuple #[.int .u16 q, .int .i64 0] ∧ q = (updateS (two17 (d.bl.set (0 + 0) 0) 2) (d.bl.take 2 ++ d.src ++ d.dst ++ [0, 0, n / 256, n % 256, 0, 58]) ((d.bl.set (0 + 0) 0).take 2 ++ (List.replicate 38 0))).1 ∧ 0 ≤ q ∧ q < 65536) ∧ Below W529.heap.size W529 w') (by exact xk Try.func83) (update_one (two17_rng y511.rng 2) (own_byS own541) (own_byS hO532) (by constructor <;> simp only [List.length_append, List.length_take, List.length_set, List.length_replicate, List.length_cons, List.length_nil, dsL, ddL] <;> omega)) ?_)
      rintro _ W542 ⟨⟨q544, rfl, hq545, q0546, q1547⟩, hb543⟩
      have z548 := hb543.size
      refine ⟨(Below.trans hS537 (hb543.mono hS537.size)), ?_⟩
      have hS549 := (Below.trans hS537 (hb543.mono hS537.size))
      simp only [lay]
      refine te 9 (.tuple #[.int .u16 q544, .int .i64 0]) hS549 rfl (by intro _ _; exact xm) ?_
      simp only [lay]
      refine te 10 (.int .u16 q544) hS549 rfl (by intro _ _; exact xe) ?_
      simp only [lay]
      refine te 11 (.int .i64 0) hS549 rfl (by intro _ _; exact xe) ?_
      simp only [lay]
      refine te 12 (.int .u16 q544) hS549 rfl (by intro _ _; exact xa) ?_
      simp only [lay]
      refine te 13 (.int .i64 0) hS549 rfl (by intro _ _; exact xa) ?_
      simp only [lay]
      refine wpAnyH_done (by kernel_rfl) ?_ _
      have b550 := bt b540 hb543
      exact hk445 _ _ ⟨q544, g499, g516, A534, c535, rfl, b550, hq545, q0546, q1547⟩
     case L508 =>
      refine rs (i := 6) rfl (by kernel_rfl) (ow_build [.slice (some ⟨g124, 0, none⟩) 2 c24, .slice (some ⟨g499, 0, none⟩) 38 38] rfl Try.underlying100 (by kernel_rfl) (by kernel_rfl) rfl (by decide) (by decide) (by first | rfl | (simp only [List.map_toArray, List.map_cons, List.map_nil] <;> rfl)) (by simp [Value.cells]) ?_)
      intro g551 W552 hg553 ge554 sz555 hb556
      have z557 := hb556.size
      refine ⟨(Below.trans hS506 (hb556.mono hS506.size)), ?_⟩
      have hS558 := (Below.trans hS506 (hb556.mono hS506.size))
      simp only [lay]
      have b559 := bt hb388 hb504
      have b560 := bt b559 hb556
      have own561 := hO377.to b560
      have y562 := (own_byS own561)
      refine t1 1 rfl (ow_call (fun v w' => v = .int .u16 (two17 (d.bl.set (0 + 0) 0) 2) ∧ Below W552.heap.size W552 w') (by exact xk Try.func50) ((two18_any _ _ _ _ 2 W552 y562 (by omega) (by omega)).mono fun e w' h => ⟨_, h.1, rfl, h.2⟩) ?_)
      rintro _ W563 ⟨rfl, hb564⟩
      have z565 := hb564.size
      refine ⟨(Below.trans hS558 (hb564.mono hS558.size)), ?_⟩
      have hS566 := (Below.trans hS558 (hb564.mono hS558.size))
      simp only [lay]
      have has567 := hg553.to hb564
      have b568 := bt hb504 hb556
      have b569 := bt b568 hb564
      have by570 := y446.2.to b569
      have b571 := bt hb556 hb564
      have own572 := hO501.to b571
      refine t1 7 rfl (ow_call (fun v w' => OwnB w' W563.heap.size v ((d.bl.set (0 + 0) 0).take 2 ++ (List.replicate 38 0)) ∧ Below W563.heap.size W563 w') (by exact xk Try.func81) (concat2 has567 by570 (own_byS own572) (by simp; try omega)) ?_)
      rintro v575 W573 ⟨hO576, hb574⟩
      have z577 := hb574.size
      obtain ⟨A578, c579, rfl, y580⟩ := hO576.by_
      refine ⟨(Below.trans hS566 (hb574.mono hS566.size)), ?_⟩
      have hS581 := (Below.trans hS566 (hb574.mono hS566.size))
      simp only [lay]
      have b582 := bt b560 hb564
      have b583 := bt b582 hb574
      have own584 := own386.to b583
      refine t1 8 rfl (ow_call (fun v w' => (∃ q, v = .tuple #[.int .u16 q, .int .i64 0] ∧ q = (updateS (two17 (d.bl.set (0 + 0) 0) 2) (d.bl.take 2 ++ d.src ++ d.dst ++ [0, 0, n / 256, n % 256, 0, 58]) ((d.bl.set (0 + 0) 0).take 2 ++ (List.replicate 38 0))).1 ∧ 0 ≤ q ∧ q < 65536) ∧ Below W573.heap.size W573 w') (by exact xk Try.func83) (update_one (two17_rng y562.rng 2) (own_byS own584) (own_byS hO576) (by constructor <;> simp only [List.length_append, List.length_take, List.length_set, List.length_replicate, List.length_cons, List.length_nil, dsL, ddL] <;> omega)) ?_)
      rintro _ W585 ⟨⟨q587, rfl, hq588, q0589, q1590⟩, hb586⟩
      have z591 := hb586.size
      refine ⟨(Below.trans hS581 (hb586.mono hS581.size)), ?_⟩
      have hS592 := (Below.trans hS581 (hb586.mono hS581.size))
      simp only [lay]
      refine te 9 (.tuple #[.int .u16 q587, .int .i64 0]) hS592 rfl (by intro _ _; exact xm) ?_
      simp only [lay]
      refine te 10 (.int .u16 q587) hS592 rfl (by intro _ _; exact xe) ?_
      simp only [lay]
      refine te 11 (.int .i64 0) hS592 rfl (by intro _ _; exact xe) ?_
      simp only [lay]
      refine te 12 (.int .u16 q587) hS592 rfl (by intro _ _; exact xa) ?_
      simp only [lay]
      refine te 13 (.int .i64 0) hS592 rfl (by intro _ _; exact xa) ?_
      simp only [lay]
      refine wpAnyH_done (by kernel_rfl) ?_ _
      have b593 := bt b583 hb586
      exact hk445 _ _ ⟨q587, g499, g551, A578, c579, rfl, b593, hq588, q0589, q1590⟩
   rintro _ W444 ⟨q438, g402, g410, A427, c428, rfl, hb594, hx595, hx596, hx597⟩
   have z598 := hb594.size
   change Code.wp _ _ _ _ _
   refine wp_region_lit ?_
   refine lv (.slice (some ⟨g124, 0, none⟩) d.bl.length c24) (by exact xm) ?_
   simp only [lay]
   refine lv (.int .u16 q438) (by exact xm) ?_
   simp only [lay]
   have own603 := hO377.to hb594
   refine lz (ow_call (fun v w' => v = .tuple #[] ∧ OwnB w' W9.heap.size (.slice (some ⟨g124, 0, none⟩) d.bl.length c24) (put17 (d.bl.set (0 + 0) 0) 2 q438) ∧ But6 g124 W444 w' ∧ Below g124 W444 w') (by exact xk Try.func52) ((set18_any g124 d.bl.length c24 W9.heap.size 2 q438 (by omega) _ W444 own603 (by omega) (by omega)).mono fun e w' h => ⟨_, h.1, rfl, h.2⟩) ?_)
   rintro _ W601 ⟨rfl, hO600, bs599, hb602⟩
   have own604 := own384.to hb594
   have has605 := has385.to hb594
   have own606 := own386.to hb594
   have z607 := hb602.size
   have own608 := own604.but6 bs599 (by omega)
   have has609 := has605.but6 bs599 (by omega)
   have own610 := own606.but6 bs599 (by omega)
   simp only [lay]
   refine wn ?_
   refine wp_sr ?_
   refine lv (.slice (some ⟨g124, 0, none⟩) d.bl.length c24) (by exact xm) ?_
   simp only [lay]
   refine lv (.slice (some ⟨g124, 0, none⟩) d.bl.length c24) (by exact xa) ?_
   simp only [lay]
   refine wn ?_
   refine wp_ret ?_
   try simp only [Exit.then]
   rw [two17_set0, take2_set (by omega)] at hx595
   have ho : one18 (d.bl.getD 0 0) = 0 := by unfold one18; rw [if_neg (by assumption)]
   have e : told18 d s t n = put17 (d.bl.set (0 + 0) 0) 2 q438 := by
    unfold told18 from18
    repeat (first | rw [if_pos (by first | assumption | omega | exact ne_true_of_eq_false (by assumption))] | rw [if_neg (by first | assumption | omega | exact ne_true_of_eq_false (by assumption))])
    rw [ho, hx595]
    simp only [List.append_assoc, List.cons_append, List.nil_append]
   have b611 := bt b16 hb19
   have b612 := bt b611 hb84
   have b613 := bt b612 hb96
   have b614 := bt b613 hb105
   have b615 := bt b614 hb116
   have l616 := Nat.le_trans b16.size h125
   have b617 := b615.trans (hb379.mono l616)
   have b618 := bt b617 hb594
   have b619 := b618.trans (hb602.mono l616)
   exact bodyPost_ret (res_one Try.results54 rfl) rfl ⟨_, rfl, by rw [e]; exact (hO600.more b16.size), b619⟩
  refine lv (.bool false) (by exact ex_geq (by exact rfl) (by exact rfl) (by exact rfl) (decide_eq_false (by first | assumption | omega | decide))) ?_
  simp only [lay]
  refine lv (.bool false) (by exact xp (b := true)) ?_
  simp only [lay]
  refine lv (.bool false) (by exact xa) ?_
  simp only [lay]
  refine wn ?_
  refine cF9 ?_
  refine wp_skip ?_
  change Code.wp _ _ _ _ _
  refine wp_sr ?_
  refine lv (.slice A23 d.bl.length c24) (by exact xm) ?_
  simp only [lay]
  refine lv (.slice A23 d.bl.length c24) (by exact xa) ?_
  simp only [lay]
  refine wn ?_
  refine wp_ret ?_
  try simp only [Exit.then]
  have e : told18 d s t n = d.bl := by
   unfold told18
   repeat (first | rw [if_pos (by first | assumption | omega | exact ne_true_of_eq_false (by assumption))] | rw [if_neg (by first | assumption | omega | exact ne_true_of_eq_false (by assumption))])
  have b620 := bt b16 hb19
  exact bodyPost_ret (res_one Try.results54 rfl) rfl ⟨_, rfl, by rw [e]; exact (hO21.more b16.size), b620⟩
 refine lv (.bool false) (by exact yqn) ?_
 simp only [lay]
 refine lv (.bool false) (by exact xm) ?_
 simp only [lay]
 refine lzn ?_
 simp only [lay]
 refine lzn ?_
 simp only [lay]
 refine lzn ?_
 simp only [lay]
 refine lv (.bool false) (by exact xp (b := false)) ?_
 simp only [lay]
 refine lv (.bool false) (by exact xa) ?_
 simp only [lay]
 refine wn ?_
 refine cF9 ?_
 refine wp_skip ?_
 change Code.wp _ _ _ _ _
 refine wp_sr ?_
 refine lv (.slice A23 d.bl.length c24) (by exact xm) ?_
 simp only [lay]
 refine lv (.slice A23 d.bl.length c24) (by exact xa) ?_
 simp only [lay]
 refine wn ?_
 refine wp_ret ?_
 try simp only [Exit.then]
 have e : told18 d s t n = d.bl := by
  unfold told18
  repeat (first | rw [if_pos (by first | assumption | omega | exact ne_true_of_eq_false (by assumption))] | rw [if_neg (by first | assumption | omega | exact ne_true_of_eq_false (by assumption))])
 have b621 := bt b16 hb19
 exact bodyPost_ret (res_one Try.results54 rfl) rfl ⟨_, rfl, by rw [e]; exact (hO21.more b16.size), b621⟩
end Go.Proofs.Ytjnphelfloiadaa
