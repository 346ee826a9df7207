/-
  Lemmas and walks for the row of TofourPackets,TofourMessages,TofourInside (part 29 of 42).
-/
import Derived.Test.YtjnphelfloiadaaFpAG
import Derived.Test.YtjnphelfloiadaaFpAU
import Derived.Test.YtjnphelfloiadaaFpBB
set_option linter.unusedVariables false
set_option linter.unusedSimpArgs false
namespace Go.Proofs.Ytjnphelfloiadaa
open Go.RowKit Go.Shelf
attribute [local irreducible] wpList Code.wp Oper.wp wpOp wpAnyH

theorem two17_zero {l : List Int} (h : InB l) (k : Nat) : two17 l k = 0 ↔ l.getD k 0 = 0 ∧ l.getD (k + 1) 0 = 0 := by
 have h1 := getD_rng h k
 have h2 := getD_rng h (k + 1)
 unfold two17
 omega
def Ends18 (r : List Int × Int) (base : Nat) (w' : World) (e : Ending) : Prop := (r.2 = 0 → ∃ v, e = .returned v ∧ OwnB w' base v r.1) ∧ (r.2 ≠ 0 → e = Fault18 r.2)
theorem Ends18.ok {r : List Int × Int} {base : Nat} {w' : World} {v : Value} {l : List Int} (h : r = (l, 0)) (hO : OwnB w' base v l) : Ends18 r base w' (.returned v) := by
 subst h
 exact ⟨fun _ => ⟨v, rfl, hO⟩, fun h => absurd rfl h⟩
theorem Ends18.bad {r : List Int × Int} {base : Nat} {w' : World} {k : Int} (h : r = ([], k)) (hk : k ≠ 0) : Ends18 r base w' (Fault18 k) := by
 subst h
 exact ⟨fun h => absurd h hk, fun _ => rfl⟩

set_option maxRecDepth 100000 in
set_option maxHeartbeats 4000000 in
theorem body18_any (d : D6) (p : W6) (s t : List Int) (hE : E4ok s t) (w : World) (hR : Rd6 w.heap.size w d p) (hm : d.bl.length ≤ 65535) :
  Calls Try.prog 34 #[.agg (d.cells p), .agg (e4c s t)] w fun e w' => Ends18 (body18 d s t) w.heap.size w' e ∧ Below w.heap.size w w' := by
 have yb6 := hR.body
 have hlb := yb6.len
 go_enter Try.func34, Try.ntmps34
 refine wp_sr ?_
 refine lz (ow_box 28 (.tmp 0) _ rfl rfl ?_)
 intro g1 W2 hg3 ge4 sz5 hb6
 have z7 := hb6.size
 simp only [lay]
 refine lz (ow_box 32 (.tmp 1) _ rfl rfl ?_)
 intro g8 W9 hg10 ge11 sz12 hb13
 have z14 := hb13.size
 simp only [lay]
 refine lv (.slice none 0 0) (by exact xa) ?_
 simp only [lay]
 refine wn ?_
 refine wp_sr ?_
 refine lv (pq9 g1 41) (by exact xf 41 0 Try.underlying28) ?_
 simp only [lay]
 refine lv (.slice p.bA d.bl.length p.bc) (by exact xc Try.underlying26 ((hg3.to hb13).cell 41 rfl)) ?_
 simp only [lay]
 have b16 := bt hb6 hb13
 have by17 := yb6.to b16
 refine lz (ow_call (fun v w' => OwnB w' W9.heap.size v d.bl ∧ Below W9.heap.size W9 w') (by exact xk Try.func46) (clone_n _ _ _ d.bl W9 by17 (by omega)) ?_)
 rintro v20 W18 ⟨hO21, hb19⟩
 have z22 := hb19.size
 obtain ⟨A23, c24, rfl, y25⟩ := hO21.by_
 simp only [lay]
 refine lv (.slice A23 d.bl.length c24) (by exact xa) ?_
 simp only [lay]
 refine wn ?_
 refine wp_seq ?_
 refine wp_sr ?_
 refine lv (pq9 g1 38) (by exact xf 38 0 Try.underlying28) ?_
 simp only [lay]
 have b26 := bt hb13 hb19
 have has27 := hg3.to b26
 refine lv (.int .i64 d.off) (by exact xc Try.underlying3 (has27.cell 38 rfl)) ?_
 simp only [lay]
 by_cases q28 : d.off > 0
 case pos =>
  refine lv (.bool true) (by exact ex_gtr (by rfl) (by rfl) (by rfl) (decide_eq_true (by first|assumption|omega|decide))) ?_
  simp only [lay]
  refine wn ?_
  refine cT9 ?_
  refine wp_sr ?_
  refine lv (.slice A23 d.bl.length c24) (by exact xm) ?_
  refine lv (.slice A23 d.bl.length c24) (by exact xa) ?_
  simp only [lay]
  refine wn ?_
  refine wp_ret ?_
  try simp only [Exit.then]
  have e : body18 d s t = (d.bl, 0) := by
   unfold body18
   repeat (first|rw [if_pos (by first|assumption|omega)]|rw [if_neg (by first|assumption|omega|exact ne_true_of_eq_false (by assumption))])
  exact bodyPost_ret (res_one Try.results34 rfl) rfl ⟨Ends18.ok e (hO21.more b16.size), (bt b16 hb19)⟩
 refine lv (.bool false) (by exact ex_gtr (by rfl) (by rfl) (by rfl) (decide_eq_false (by first|assumption|omega|decide))) ?_
 simp only [lay]
 refine wn ?_
 refine cF9 ?_
 refine wp_skip ?_
 change Code.wp _ _ _ _ _
 refine wp_seq ?_
 refine wp_sr ?_
 refine lv (pq9 g1 40) (by exact xf 40 0 Try.underlying28) ?_
 refine lv (.int .u8 d.pro) (by exact xc Try.underlying5 (has27.cell 40 rfl)) ?_
 simp only [lay]
 refine wn ?_
 refine wp_block ?_
 refine wp_sr ?_
 by_cases q30 : d.pro = 6
 case pos =>
  refine lv (.bool true) (by exact yq) ?_
  refine lv (.bool true) (by exact xa) ?_
  simp only [lay]
  refine wn ?_
  refine cT9 ?_
  refine wp_seq ?_
  refine wp_sr ?_
  refine lv (.slice A23 d.bl.length c24) (by exact xm) ?_
  refine lv (.int .i64 (d.bl.length : Int)) (by exact xz Try.underlying26) ?_
  simp only [lay]
  by_cases q31 : (d.bl.length : Int) < 20
  case pos =>
   refine lv (.bool true) (by exact ex_lss (by rfl) (by rfl) (by rfl) (decide_eq_true (by first|assumption|omega|decide))) ?_
   simp only [lay]
   refine wn ?_
   refine cT9 ?_
   refine wp_region_lit ?_
   refine lv (.iface 36 (.int .i64 173)) (by kernel_rfl) ?_
   simp only [lay]
   refine lz (ow_raise _ _ rfl (by rfl) ?_)
   have e : body18 d s t = ([], 173) := by
    unfold body18
    repeat (first|rw [if_pos (by first|assumption|omega)]|rw [if_neg (by first|assumption|omega|exact ne_true_of_eq_false (by assumption))])
   exact ⟨rfl, Ends18.bad e (by decide), (bt b16 hb19)⟩
  refine lv (.bool false) (by exact ex_lss (by rfl) (by rfl) (by rfl) (decide_eq_false (by first|assumption|omega|decide))) ?_
  simp only [lay]
  refine wn ?_
  refine cF9 ?_
  refine wp_skip ?_
  change Code.wp _ _ _ _ _
  refine wp_region_lit ?_
  refine lv (.slice A23 d.bl.length c24) (by exact xm) ?_
  refine lv (.agg (d.cells p)) (by exact xo (has27.load (P := Try.prog) 28 Try.underlying28 rfl (by kernel_rfl))) ?_
  simp only [lay]
  refine lv (.agg (e4c s t)) (by exact xo ((hg10.to hb19).load (P := Try.prog) 32 Try.underlying32 rfl (by kernel_rfl))) ?_
  simp only [lay]
  obtain ⟨g34, rfl, h35, h36⟩ := own_form hO21 (by first|omega|(simp only [List.length_append]; omega) | simp [D4.src])
  have b41 := bt b16 hb19
  have rd42 := hR.to b41
  refine lz (ow_call (fun v w' => v = .tuple #[] ∧ OwnB w' W9.heap.size (sq9 g34 0 d.bl.length c24) (carry17 (d.pro == 17) (from18 d) (to18 s t) d.bl 16) ∧ ButG g34 W18 w' ∧ Below g34 W18 w') (by exact xk Try.func71) ((carry18_any d p s t hE 16 g34 d.bl.length c24 _ W9 W18 hb19 hO21 h35 (by omega) (by omega) (by omega) rd42).mono fun e w' h => ⟨_, h.1, rfl, h.2⟩) ?_)
  rintro _ W39 ⟨rfl, hO38, bs37, hb40⟩
  have z43 := hb40.size
  simp only [lay]
  refine wn ?_
  refine wp_sr ?_
  refine lv (sq9 g34 0 d.bl.length c24) (by exact xm) ?_
  refine lv (sq9 g34 0 d.bl.length c24) (by exact xa) ?_
  simp only [lay]
  refine wn ?_
  refine wp_ret ?_
  try simp only [Exit.then]
  have hu : (d.pro == 17) = false := by rw [show d.pro = 6 from by assumption]; rfl
  have e : body18 d s t = (carry17 (d.pro == 17) (from18 d) (to18 s t) d.bl 16, 0) := by
   unfold body18
   repeat (first|rw [if_pos (by first|assumption|omega)]|rw [if_neg (by first|assumption|omega|exact ne_true_of_eq_false (by assumption))])
   rw [hu]
  exact bodyPost_ret (res_one Try.results34 rfl) rfl ⟨Ends18.ok e (hO38.more b16.size), (b41.trans (hb40.mono (Nat.le_trans b16.size h35)))⟩
 refine lv (.bool false) (by exact yqn) ?_
 refine lv (.bool false) (by exact xa) ?_
 simp only [lay]
 refine wn ?_
 refine cF9 ?_
 refine wp_sr ?_
 by_cases q46 : d.pro = 17
 case pos =>
  refine lv (.bool true) (by exact yq) ?_
  refine lv (.bool true) (by exact xa) ?_
  simp only [lay]
  refine wn ?_
  refine cT9 ?_
  refine wp_seq ?_
  refine wp_sr ?_
  refine lv (.slice A23 d.bl.length c24) (by exact xm) ?_
  refine lv (.int .i64 (d.bl.length : Int)) (by exact xz Try.underlying26) ?_
  simp only [lay]
  by_cases q47 : (d.bl.length : Int) < 8
  case pos =>
   refine lv (.bool true) (by exact ex_lss (by rfl) (by rfl) (by rfl) (decide_eq_true (by first|assumption|omega|decide))) ?_
   simp only [lay]
   refine wn ?_
   refine cT9 ?_
   refine wp_region_lit ?_
   refine lv (.iface 36 (.int .i64 173)) (by kernel_rfl) ?_
   simp only [lay]
   refine lz (ow_raise _ _ rfl (by rfl) ?_)
   have e : body18 d s t = ([], 173) := by
    unfold body18
    repeat (first|rw [if_pos (by first|assumption|omega)]|rw [if_neg (by first|assumption|omega|exact ne_true_of_eq_false (by assumption))])
   exact ⟨rfl, Ends18.bad e (by decide), (bt b16 hb19)⟩
  refine lv (.bool false) (by exact ex_lss (by rfl) (by rfl) (by rfl) (decide_eq_false (by first|assumption|omega|decide))) ?_
  simp only [lay]
  refine wn ?_
  refine cF9 ?_
  refine wp_skip ?_
  change Code.wp _ _ _ _ _
  refine wp_seq ?_
  refine wp_sr ?_
  refine lv (.slice A23 d.bl.length c24) (by exact xm) ?_
  simp only [lay]
  have y49 := (own_byS hO21)
  refine lz (ow_call (fun v w' => v = .int .u16 (two17 d.bl 6) ∧ Below W18.heap.size W18 w') (by exact xk Try.func50) ((two18_any _ _ _ _ 6 W18 y49 (by omega) (by omega)).mono fun e w' h => ⟨_, h.1, rfl, h.2⟩) ?_)
  rintro _ W50 ⟨rfl, hb51⟩
  have z52 := hb51.size
  simp only [lay]
  by_cases q53 : two17 d.bl 6 = 0
  case pos =>
   have hz : d.bl.getD 6 0 = 0 ∧ d.bl.getD 7 0 = 0 := (two17_zero hR.body.rng 6).1 q53
   refine lv (.bool true) (by exact yq) ?_
   simp only [lay]
   refine wn ?_
   refine cT9 ?_
   refine wp_region_lit ?_
   refine lv (.iface 36 (.int .i64 172)) (by kernel_rfl) ?_
   simp only [lay]
   refine lz (ow_raise _ _ rfl (by rfl) ?_)
   have e : body18 d s t = ([], 172) := by
    unfold body18
    repeat (first|rw [if_pos (by first|assumption|omega)]|rw [if_neg (by first|assumption|omega|exact ne_true_of_eq_false (by assumption))])
   exact ⟨rfl, Ends18.bad e (by decide), (bt (bt b16 hb19) hb51)⟩
  have hz : ¬ (d.bl.getD 6 0 = 0 ∧ d.bl.getD 7 0 = 0) := (not_congr (two17_zero hR.body.rng 6)).1 q53
  refine lv (.bool false) (by exact yqn) ?_
  simp only [lay]
  refine wn ?_
  refine cF9 ?_
  refine wp_skip ?_
  change Code.wp _ _ _ _ _
  refine wp_region_lit ?_
  refine lv (.slice A23 d.bl.length c24) (by exact xm) ?_
  simp only [lay]
  refine lv (.agg (d.cells p)) (by exact xo ((hg3.to (bt b26 hb51)).load (P := Try.prog) 28 Try.underlying28 rfl (by kernel_rfl))) ?_
  simp only [lay]
  have b58 := bt hb19 hb51
  refine lv (.agg (e4c s t)) (by exact xo ((hg10.to b58).load (P := Try.prog) 32 Try.underlying32 rfl (by kernel_rfl))) ?_
  simp only [lay]
  obtain ⟨g60, rfl, h61, h62⟩ := own_form hO21 (by first|omega|(simp only [List.length_append]; omega) | simp [D4.src])
  have b69 := bt (bt b16 hb19) hb51
  have rd70 := hR.to b69
  refine lz (ow_call (fun v w' => v = .tuple #[] ∧ OwnB w' W9.heap.size (sq9 g60 0 d.bl.length c24) (carry17 (d.pro == 17) (from18 d) (to18 s t) d.bl 6) ∧ ButG g60 W50 w' ∧ Below g60 W50 w') (by exact xk Try.func71) ((carry18_any d p s t hE 6 g60 d.bl.length c24 _ W9 W50 b58 (hO21.to hb51) h61 (by omega) (by omega) (by omega) rd70).mono fun e w' h => ⟨_, h.1, rfl, h.2⟩) ?_)
  rintro _ W65 ⟨rfl, hO64, bs63, hb66⟩
  have z71 := hb66.size
  simp only [lay]
  refine wn ?_
  refine wp_sr ?_
  refine lv (sq9 g60 0 d.bl.length c24) (by exact xm) ?_
  refine lv (sq9 g60 0 d.bl.length c24) (by exact xa) ?_
  simp only [lay]
  refine wn ?_
  refine wp_ret ?_
  try simp only [Exit.then]
  have hu : (d.pro == 17) = true := by rw [show d.pro = 17 from by assumption]; rfl
  have e : body18 d s t = (carry17 (d.pro == 17) (from18 d) (to18 s t) d.bl 6, 0) := by
   unfold body18
   repeat (first|rw [if_pos (by first|assumption|omega)]|rw [if_neg (by first|assumption|omega|exact ne_true_of_eq_false (by assumption))])
   rw [hu]
  exact bodyPost_ret (res_one Try.results34 rfl) rfl ⟨Ends18.ok e (hO64.more b16.size), (b69.trans (hb66.mono (Nat.le_trans b16.size h61)))⟩
 refine lv (.bool false) (by exact yqn) ?_
 refine lv (.bool false) (by exact xa) ?_
 simp only [lay]
 refine wn ?_
 refine cF9 ?_
 refine wp_skip ?_
 change Code.wp _ _ _ _ _
 refine wp_sr ?_
 refine lv (.slice A23 d.bl.length c24) (by exact xm) ?_
 refine lv (.slice A23 d.bl.length c24) (by exact xa) ?_
 simp only [lay]
 refine wn ?_
 refine wp_ret ?_
 try simp only [Exit.then]
 have e : body18 d s t = (d.bl, 0) := by
  unfold body18
  repeat (first|rw [if_pos (by first|assumption|omega)]|rw [if_neg (by first|assumption|omega|exact ne_true_of_eq_false (by assumption))])
 exact bodyPost_ret (res_one Try.results34 rfl) rfl ⟨Ends18.ok e (hO21.more b16.size), (bt b16 hb19)⟩
set_option maxRecDepth 100000 in
set_option maxHeartbeats 4000000 in
theorem rbody18_any (d : D6) (p : W6) (s t : List Int) (hE : E4ok s t) (w : World) (hR : Rd6 w.heap.size w d p) (hm : d.bl.length ≤ 65535) :
  Calls Try.prog 39 #[.agg (d.cells p), .agg (e4c s t)] w fun e w' => TwoR (body18 d s t) w.heap.size w' e ∧ Below w.heap.size w w' := by
 have yb6 := hR.body
 have hlb := yb6.len
 go_enter Try.func39, Try.ntmps39
 refine wp_sr ?_
 refine lz (ow_box 28 (.tmp 0) _ rfl rfl ?_)
 intro g1 W2 hg3 ge4 sz5 hb6
 have z7 := hb6.size
 simp only [lay]
 refine lz (ow_box 32 (.tmp 1) _ rfl rfl ?_)
 intro g8 W9 hg10 ge11 sz12 hb13
 have z14 := hb13.size
 simp only [lay]
 refine lv (.slice none 0 0) (by exact xa) ?_
 refine lv (.int .i64 0) (by exact xa) ?_
 simp only [lay]
 refine wn ?_
 refine wp_seq ?_
 refine wp_sr ?_
 refine lv (pq9 g1 38) (by exact xf 38 0 Try.underlying28) ?_
 simp only [lay]
 have has15 := hg3.to hb13
 refine lv (.int .i64 d.off) (by exact xc Try.underlying3 (has15.cell 38 rfl)) ?_
 simp only [lay]
 by_cases q16 : d.off > 0
 case pos =>
  refine lv (.bool true) (by exact ex_gtr (by rfl) (by rfl) (by rfl) (decide_eq_true (by first|assumption|omega|decide))) ?_
  refine lv (.bool true) (by exact xm) ?_
  refine lzn ?_
  refine lzn ?_
  simp only [lay]
  refine lzn ?_
  refine lzn ?_
  refine lzn ?_
  refine lzn ?_
  simp only [lay]
  refine lzn ?_
  refine lzn ?_
  refine lv (.bool true) (by exact xp (b := true)) ?_
  simp only [lay]
  refine wn ?_
  refine cT9 ?_
  refine wp_sr ?_
  refine lz (ow_build0 rfl Try.underlying26 (by kernel_rfl) ?_)
  intro g17 W18 hg19 ge20 sz21 hb22
  have z23 := hb22.size
  have hO24 : OwnB W18 W9.heap.size (sq9 g17 0 0 0) [] := OwnB.blk (l := []) hg19 (Nat.le_of_eq ge20.symm) rfl InB.nil (by simp)
  simp only [lay]
  refine lv (pq9 g1 41) (by exact xf 41 0 Try.underlying28) ?_
  simp only [lay]
  refine lv (.slice p.bA d.bl.length p.bc) (by exact xc Try.underlying26 ((hg3.to (bt hb13 hb22)).cell 41 rfl)) ?_
  simp only [lay]
  have b32 := bt hb6 hb13
  have b33 := bt b32 hb22
  have by34 := yb6.to b33
  refine lz (ow_app (.tmp 21) (.tmp 23) 26 rfl Try.underlying26 info8 _ _ [] rfl hO24 _ _ _ _ d.bl rfl by34 (by simp only [List.length_nil]; omega) hb22.size ?_)
  intro v31 W27 hO28 hb29 hgr30
  have z35 := hb29.size
  have hO36 : OwnB W27 W9.heap.size v31 d.bl := hO28
  obtain ⟨A37, c38, rfl, y39⟩ := hO36.by_
  simp only [lay]
  refine lv (.slice A37 d.bl.length c38) (by exact xa) ?_
  refine lv (.int .i64 0) (by exact xa) ?_
  simp only [lay]
  refine wn ?_
  refine wp_ret ?_
  try simp only [Exit.then]
  have e : body18 d s t = (d.bl, 0) := by
   unfold body18
   repeat (first|rw [if_pos (by first|assumption|omega)]|rw [if_neg (by first|assumption|omega|exact ne_true_of_eq_false (by assumption))])
  exact bodyPost_ret (res_tt Try.results39 rfl rfl) rfl ⟨TwoR.ok e (hO36.more b32.size), (b33.trans (hb29.mono (Nat.le_trans b32.size (Nat.le_refl _))))⟩
 refine lv (.bool false) (by exact ex_gtr (by rfl) (by rfl) (by rfl) (decide_eq_false (by first|assumption|omega|decide))) ?_
 refine lv (.bool false) (by exact xm) ?_
 refine lv (pq9 g1 40) (by exact xf 40 0 Try.underlying28) ?_
 refine lv (.int .u8 d.pro) (by exact xc Try.underlying5 (has15.cell 40 rfl)) ?_
 simp only [lay]
 by_cases q42 : d.pro = 6
 case pos =>
  refine lv (.bool false) (by exact neq_int_eq (by rfl) (by rfl) (by rfl) (by first|assumption|omega)) ?_
  refine lv (.bool false) (by exact xm) ?_
  refine lzn ?_
  refine lzn ?_
  simp only [lay]
  refine lzn ?_
  refine lv (.bool false) (by exact xp (b := false)) ?_
  refine lv (.bool false) (by exact xp (b := false)) ?_
  simp only [lay]
  refine wn ?_
  refine cF9 ?_
  refine wp_skip ?_
  change Code.wp _ _ _ _ _
  refine wp_sr ?_
  refine lv (.int .i64 8) (by exact xa) ?_
  refine lv (.int .i64 6) (by exact xa) ?_
  simp only [lay]
  refine wn ?_
  refine wp_seq ?_
  refine wp_sr ?_
  refine lv (pq9 g1 40) (by exact xf 40 0 Try.underlying28) ?_
  refine lv (.int .u8 d.pro) (by exact xc Try.underlying5 (has15.cell 40 rfl)) ?_
  refine lv (.bool true) (by exact yq) ?_
  simp only [lay]
  refine wn ?_
  refine cT9 ?_
  refine wp_region_lit ?_
  refine lv (.int .i64 20) (by exact xa) ?_
  refine lv (.int .i64 16) (by exact xa) ?_
  simp only [lay]
  refine wn ?_
  refine wp_seq ?_
  refine wp_sr ?_
  refine lv (pq9 g1 41) (by exact xf 41 0 Try.underlying28) ?_
  refine lv (.slice p.bA d.bl.length p.bc) (by exact xc Try.underlying26 (has15.cell 41 rfl)) ?_
  refine lv (.int .i64 (d.bl.length : Int)) (by exact xz Try.underlying26) ?_
  refine lv (.int .i64 20) (by exact xm) ?_
  simp only [lay]
  by_cases q44 : (d.bl.length : Int) < 20
  case pos =>
   refine lv (.bool true) (by exact ex_lss (by rfl) (by rfl) (by rfl) (decide_eq_true (by first|assumption|omega|decide))) ?_
   simp only [lay]
   refine wn ?_
   refine cT9 ?_
   refine wp_sr ?_
   refine lv (.slice none 0 0) (by exact xa) ?_
   refine lv (.int .i64 173) (by exact xa) ?_
   simp only [lay]
   refine wn ?_
   refine wp_ret ?_
   try simp only [Exit.then]
   have e : body18 d s t = ([], 173) := by
    unfold body18
    repeat (first|rw [if_pos (by first|assumption|omega)]|rw [if_neg (by first|assumption|omega|exact ne_true_of_eq_false (by assumption))])
   exact bodyPost_ret (res_tt Try.results39 rfl rfl) rfl ⟨TwoR.ok e (OwnB.nil _ _), (bt hb6 hb13)⟩
  refine lv (.bool false) (by exact ex_lss (by rfl) (by rfl) (by rfl) (decide_eq_false (by first|assumption|omega|decide))) ?_
  simp only [lay]
  refine wn ?_
  refine cF9 ?_
  refine wp_skip ?_
  change Code.wp _ _ _ _ _
  refine wp_seq ?_
  refine wp_sr ?_
  refine lv (pq9 g1 40) (by exact xf 40 0 Try.underlying28) ?_
  refine lv (.int .u8 d.pro) (by exact xc Try.underlying5 (has15.cell 40 rfl)) ?_
  refine lv (.bool false) (by exact yqn) ?_
  refine lv (.bool false) (by exact xm) ?_
  simp only [lay]
  refine lzn ?_
  refine lzn ?_
  refine lzn ?_
  refine lzn ?_
  simp only [lay]
  refine lzn ?_
  refine lv (.bool false) (by exact xp (b := false)) ?_
  refine lv (.bool false) (by exact xm) ?_
  refine lzn ?_
  simp only [lay]
  refine lzn ?_
  refine lzn ?_
  refine lzn ?_
  refine lzn ?_
  simp only [lay]
  refine lv (.bool false) (by exact xp (b := false)) ?_
  simp only [lay]
  refine wn ?_
  refine cF9 ?_
  refine wp_skip ?_
  change Code.wp _ _ _ _ _
  refine wp_sr ?_
  refine lv (.agg (d.cells p)) (by exact xo (has15.load (P := Try.prog) 28 Try.underlying28 rfl (by kernel_rfl))) ?_
  refine lv (.agg (e4c s t)) (by exact xo (hg10.load (P := Try.prog) 32 Try.underlying32 rfl (by kernel_rfl))) ?_
  refine lv (pq9 g1 41) (by exact xf 41 0 Try.underlying28) ?_
  refine lv (.slice p.bA d.bl.length p.bc) (by exact xc Try.underlying26 (has15.cell 41 rfl)) ?_
  simp only [lay]
  refine lv (.int .i64 16) (by exact xm) ?_
  simp only [lay]
  have b47 := bt hb6 hb13
  have by48 := yb6.to b47
  refine lz (ow_call (fun v w' => OwnB w' W9.heap.size v (carry17 (d.pro == 17) (from18 d) (to18 s t) d.bl 16) ∧ Below W9.heap.size W9 w') (by exact xk Try.func74) (rcarried18_any d hR.ok p s t hE _ _ _ d.bl 16 W9 by48 (by omega) (by omega)) ?_)
  rintro v51 W49 ⟨hO52, hb50⟩
  have z53 := hb50.size
  obtain ⟨A54, c55, rfl, y56⟩ := hO52.by_
  simp only [lay]
  refine lv (.slice A54 ((carry17 (d.pro == 17) (from18 d) (to18 s t) d.bl 16).length) c55) (by exact xa) ?_
  refine lv (.int .i64 0) (by exact xa) ?_
  simp only [lay]
  refine wn ?_
  refine wp_ret ?_
  try simp only [Exit.then]
  have hu : (d.pro == 17) = false := by rw [show d.pro = 6 from by assumption]; rfl
  have e : body18 d s t = (carry17 (d.pro == 17) (from18 d) (to18 s t) d.bl 16, 0) := by
   unfold body18
   repeat (first|rw [if_pos (by first|assumption|omega)]|rw [if_neg (by first|assumption|omega|exact ne_true_of_eq_false (by assumption))])
   rw [hu]
  exact bodyPost_ret (res_tt Try.results39 rfl rfl) rfl ⟨TwoR.ok e (hO52.more b47.size), (bt b47 hb50)⟩
 refine lv (.bool true) (by exact neq_int_ne (by rfl) (by rfl) (by rfl) (by first|assumption|omega)) ?_
 refine lv (.bool true) (by exact xm) ?_
 refine lv (pq9 g1 40) (by exact xf 40 0 Try.underlying28) ?_
 refine lv (.int .u8 d.pro) (by exact xc Try.underlying5 (has15.cell 40 rfl)) ?_
 simp only [lay]
 by_cases q58 : d.pro = 17
 case pos =>
  refine lv (.bool false) (by exact neq_int_eq (by rfl) (by rfl) (by rfl) (by first|assumption|omega)) ?_
  refine lv (.bool false) (by exact xp (b := true)) ?_
  refine lv (.bool false) (by exact xp (b := false)) ?_
  simp only [lay]
  refine wn ?_
  refine cF9 ?_
  refine wp_skip ?_
  change Code.wp _ _ _ _ _
  refine wp_sr ?_
  refine lv (.int .i64 8) (by exact xa) ?_
  refine lv (.int .i64 6) (by exact xa) ?_
  simp only [lay]
  refine wn ?_
  refine wp_seq ?_
  refine wp_sr ?_
  refine lv (pq9 g1 40) (by exact xf 40 0 Try.underlying28) ?_
  refine lv (.int .u8 d.pro) (by exact xc Try.underlying5 (has15.cell 40 rfl)) ?_
  refine lv (.bool false) (by exact yqn) ?_
  simp only [lay]
  refine wn ?_
  refine cF9 ?_
  refine wp_skip ?_
  change Code.wp _ _ _ _ _
  refine wp_seq ?_
  refine wp_sr ?_
  refine lv (pq9 g1 41) (by exact xf 41 0 Try.underlying28) ?_
  refine lv (.slice p.bA d.bl.length p.bc) (by exact xc Try.underlying26 (has15.cell 41 rfl)) ?_
  refine lv (.int .i64 (d.bl.length : Int)) (by exact xz Try.underlying26) ?_
  refine lv (.int .i64 8) (by exact xm) ?_
  simp only [lay]
  by_cases q60 : (d.bl.length : Int) < 8
  case pos =>
   refine lv (.bool true) (by exact ex_lss (by rfl) (by rfl) (by rfl) (decide_eq_true (by first|assumption|omega|decide))) ?_
   simp only [lay]
   refine wn ?_
   refine cT9 ?_
   refine wp_sr ?_
   refine lv (.slice none 0 0) (by exact xa) ?_
   refine lv (.int .i64 173) (by exact xa) ?_
   simp only [lay]
   refine wn ?_
   refine wp_ret ?_
   try simp only [Exit.then]
   have e : body18 d s t = ([], 173) := by
    unfold body18
    repeat (first|rw [if_pos (by first|assumption|omega)]|rw [if_neg (by first|assumption|omega|exact ne_true_of_eq_false (by assumption))])
   exact bodyPost_ret (res_tt Try.results39 rfl rfl) rfl ⟨TwoR.ok e (OwnB.nil _ _), (bt hb6 hb13)⟩
  refine lv (.bool false) (by exact ex_lss (by rfl) (by rfl) (by rfl) (decide_eq_false (by first|assumption|omega|decide))) ?_
  simp only [lay]
  refine wn ?_
  refine cF9 ?_
  refine wp_skip ?_
  change Code.wp _ _ _ _ _
  refine wp_seq ?_
  refine wp_sr ?_
  refine lv (pq9 g1 40) (by exact xf 40 0 Try.underlying28) ?_
  refine lv (.int .u8 d.pro) (by exact xc Try.underlying5 (has15.cell 40 rfl)) ?_
  refine lv (.bool true) (by exact yq) ?_
  refine lv (.bool true) (by exact xm) ?_
  simp only [lay]
  refine lv (pq9 g1 41) (by exact xf 41 0 Try.underlying28) ?_
  refine lv (.slice p.bA d.bl.length p.bc) (by exact xc Try.underlying26 (has15.cell 41 rfl)) ?_
  simp only [lay]
  obtain ⟨b63, o64, hA65⟩ := yb6.form (k := 6) (by omega)
  refine lv (pq9 b63 (o64 + 6)) (by exact xi 6 Try.underlying26 hA65) ?_
  simp only [lay]
  have b66 := bt hb6 hb13
  have by67 := yb6.to b66
  refine lv (.int .u8 (d.bl.getD 6 0)) (by exact xc Try.underlying5 (by67.atE (k := 6) hA65 (by omega))) ?_
  simp only [lay]
  by_cases q68 : d.bl.getD 6 0 = 0
  case pos =>
   refine lv (.bool true) (by exact yq) ?_
   refine lv (.bool true) (by exact xp (b := true)) ?_
   refine lv (.bool true) (by exact xm) ?_
   refine lv (pq9 g1 41) (by exact xf 41 0 Try.underlying28) ?_
   simp only [lay]
   refine lv (.slice p.bA d.bl.length p.bc) (by exact xc Try.underlying26 (has15.cell 41 rfl)) ?_
   refine lv (pq9 b63 (o64 + 7)) (by exact xi 7 Try.underlying26 hA65) ?_
   refine lv (.int .u8 (d.bl.getD 7 0)) (by exact xc Try.underlying5 (by67.atE (k := 7) hA65 (by omega))) ?_
   simp only [lay]
   by_cases q69 : d.bl.getD 7 0 = 0
   case pos =>
    refine lv (.bool true) (by exact yq) ?_
    refine lv (.bool true) (by exact xp (b := true)) ?_
    simp only [lay]
    refine wn ?_
    refine cT9 ?_
    refine wp_sr ?_
    refine lv (.slice none 0 0) (by exact xa) ?_
    refine lv (.int .i64 172) (by exact xa) ?_
    simp only [lay]
    refine wn ?_
    refine wp_ret ?_
    try simp only [Exit.then]
    have e : body18 d s t = ([], 172) := by
     unfold body18
     repeat (first|rw [if_pos (by first|assumption|omega)]|rw [if_neg (by first|assumption|omega|exact ne_true_of_eq_false (by assumption))])
    exact bodyPost_ret (res_tt Try.results39 rfl rfl) rfl ⟨TwoR.ok e (OwnB.nil _ _), b66⟩
   refine lv (.bool false) (by exact yqn) ?_
   refine lv (.bool false) (by exact xp (b := true)) ?_
   simp only [lay]
   refine wn ?_
   refine cF9 ?_
   refine wp_skip ?_
   change Code.wp _ _ _ _ _
   refine wp_sr ?_
   refine lv (.agg (d.cells p)) (by exact xo (has15.load (P := Try.prog) 28 Try.underlying28 rfl (by kernel_rfl))) ?_
   refine lv (.agg (e4c s t)) (by exact xo (hg10.load (P := Try.prog) 32 Try.underlying32 rfl (by kernel_rfl))) ?_
   refine lv (pq9 g1 41) (by exact xf 41 0 Try.underlying28) ?_
   refine lv (.slice p.bA d.bl.length p.bc) (by exact xc Try.underlying26 (has15.cell 41 rfl)) ?_
   simp only [lay]
   refine lv (.int .i64 6) (by exact xm) ?_
   simp only [lay]
   refine lz (ow_call (fun v w' => OwnB w' W9.heap.size v (carry17 (d.pro == 17) (from18 d) (to18 s t) d.bl 6) ∧ Below W9.heap.size W9 w') (by exact xk Try.func74) (rcarried18_any d hR.ok p s t hE _ _ _ d.bl 6 W9 by67 (by omega) (by omega)) ?_)
   rintro v72 W70 ⟨hO73, hb71⟩
   have z74 := hb71.size
   obtain ⟨A75, c76, rfl, y77⟩ := hO73.by_
   simp only [lay]
   refine lv (.slice A75 ((carry17 (d.pro == 17) (from18 d) (to18 s t) d.bl 6).length) c76) (by exact xa) ?_
   refine lv (.int .i64 0) (by exact xa) ?_
   simp only [lay]
   refine wn ?_
   refine wp_ret ?_
   try simp only [Exit.then]
   have hu : (d.pro == 17) = true := by rw [show d.pro = 17 from by assumption]; rfl
   have e : body18 d s t = (carry17 (d.pro == 17) (from18 d) (to18 s t) d.bl 6, 0) := by
    unfold body18
    repeat (first|rw [if_pos (by first|assumption|omega)]|rw [if_neg (by first|assumption|omega|exact ne_true_of_eq_false (by assumption))])
    rw [hu]
   exact bodyPost_ret (res_tt Try.results39 rfl rfl) rfl ⟨TwoR.ok e (hO73.more b66.size), (bt b66 hb71)⟩
  refine lv (.bool false) (by exact yqn) ?_
  refine lv (.bool false) (by exact xp (b := true)) ?_
  refine lv (.bool false) (by exact xm) ?_
  refine lzn ?_
  simp only [lay]
  refine lzn ?_
  refine lzn ?_
  refine lzn ?_
  refine lzn ?_
  simp only [lay]
  refine lv (.bool false) (by exact xp (b := false)) ?_
  simp only [lay]
  refine wn ?_
  refine cF9 ?_
  refine wp_skip ?_
  change Code.wp _ _ _ _ _
  refine wp_sr ?_
  refine lv (.agg (d.cells p)) (by exact xo (has15.load (P := Try.prog) 28 Try.underlying28 rfl (by kernel_rfl))) ?_
  refine lv (.agg (e4c s t)) (by exact xo (hg10.load (P := Try.prog) 32 Try.underlying32 rfl (by kernel_rfl))) ?_
  refine lv (pq9 g1 41) (by exact xf 41 0 Try.underlying28) ?_
  refine lv (.slice p.bA d.bl.length p.bc) (by exact xc Try.underlying26 (has15.cell 41 rfl)) ?_
  simp only [lay]
  refine lv (.int .i64 6) (by exact xm) ?_
  simp only [lay]
  refine lz (ow_call (fun v w' => OwnB w' W9.heap.size v (carry17 (d.pro == 17) (from18 d) (to18 s t) d.bl 6) ∧ Below W9.heap.size W9 w') (by exact xk Try.func74) (rcarried18_any d hR.ok p s t hE _ _ _ d.bl 6 W9 by67 (by omega) (by omega)) ?_)
  rintro v81 W79 ⟨hO82, hb80⟩
  have z83 := hb80.size
  obtain ⟨A84, c85, rfl, y86⟩ := hO82.by_
  simp only [lay]
  refine lv (.slice A84 ((carry17 (d.pro == 17) (from18 d) (to18 s t) d.bl 6).length) c85) (by exact xa) ?_
  refine lv (.int .i64 0) (by exact xa) ?_
  simp only [lay]
  refine wn ?_
  refine wp_ret ?_
  try simp only [Exit.then]
  have hu : (d.pro == 17) = true := by rw [show d.pro = 17 from by assumption]; rfl
  have e : body18 d s t = (carry17 (d.pro == 17) (from18 d) (to18 s t) d.bl 6, 0) := by
   unfold body18
   repeat (first|rw [if_pos (by first|assumption|omega)]|rw [if_neg (by first|assumption|omega|exact ne_true_of_eq_false (by assumption))])
   rw [hu]
  exact bodyPost_ret (res_tt Try.results39 rfl rfl) rfl ⟨TwoR.ok e (hO82.more b66.size), (bt b66 hb80)⟩
 refine lv (.bool true) (by exact neq_int_ne (by rfl) (by rfl) (by rfl) (by first|assumption|omega)) ?_
 refine lv (.bool true) (by exact xp (b := true)) ?_
 refine lv (.bool true) (by exact xp (b := false)) ?_
 simp only [lay]
 refine wn ?_
 refine cT9 ?_
 refine wp_sr ?_
 refine lz (ow_build0 rfl Try.underlying26 (by kernel_rfl) ?_)
 intro g88 W89 hg90 ge91 sz92 hb93
 have z94 := hb93.size
 have hO95 : OwnB W89 W9.heap.size (sq9 g88 0 0 0) [] := OwnB.blk (l := []) hg90 (Nat.le_of_eq ge91.symm) rfl InB.nil (by simp)
 simp only [lay]
 refine lv (pq9 g1 41) (by exact xf 41 0 Try.underlying28) ?_
 simp only [lay]
 refine lv (.slice p.bA d.bl.length p.bc) (by exact xc Try.underlying26 ((hg3.to (bt hb13 hb93)).cell 41 rfl)) ?_
 simp only [lay]
 have b103 := bt hb6 hb13
 have b104 := bt b103 hb93
 have by105 := yb6.to b104
 refine lz (ow_app (.tmp 21) (.tmp 23) 26 rfl Try.underlying26 info8 _ _ [] rfl hO95 _ _ _ _ d.bl rfl by105 (by simp only [List.length_nil]; omega) hb93.size ?_)
 intro v102 W98 hO99 hb100 hgr101
 have z106 := hb100.size
 have hO107 : OwnB W98 W9.heap.size v102 d.bl := hO99
 obtain ⟨A108, c109, rfl, y110⟩ := hO107.by_
 simp only [lay]
 refine lv (.slice A108 d.bl.length c109) (by exact xa) ?_
 refine lv (.int .i64 0) (by exact xa) ?_
 simp only [lay]
 refine wn ?_
 refine wp_ret ?_
 try simp only [Exit.then]
 have e : body18 d s t = (d.bl, 0) := by
  unfold body18
  repeat (first|rw [if_pos (by first|assumption|omega)]|rw [if_neg (by first|assumption|omega|exact ne_true_of_eq_false (by assumption))])
 exact bodyPost_ret (res_tt Try.results39 rfl rfl) rfl ⟨TwoR.ok e (hO107.more b103.size), (b104.trans (hb100.mono (Nat.le_trans b103.size (Nat.le_refl _))))⟩
theorem take2_eq {l : List Int} (h : 2 ≤ l.length) : l.take 2 = [l.getD 0 0, l.getD 1 0] := by
 match l, h with
 | a :: b :: r, _ => rfl
theorem getD_set_eq {l : List Int} {i : Nat} (h : i < l.length) (x : Int) : (l.set i x).getD i 0 = x := by simp [List.getD_eq_getElem?_getD, List.getElem?_set, h]

end Go.Proofs.Ytjnphelfloiadaa
